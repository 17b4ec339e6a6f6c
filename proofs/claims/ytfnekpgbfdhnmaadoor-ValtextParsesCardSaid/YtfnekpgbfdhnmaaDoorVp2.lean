/- Part 3 of the proof: what is used of the words, contracts and walks (PAllx4 to PartP). -/
import Derived.Test.YtfnekpgbfdhnmaaDoorProg
import Derived.RangeFuncRecord
import Derived.RangeFuncOwn
import Derived.Laws.RangeAny
import Derived.Lib.Hide
import Derived.WalkLawsBesides
import Derived.Recover
import Derived.Deep.LoopGhost
import Derived.Lib.HexFns
import Derived.Lib.BufferOwn
import Derived.RangeFuncNested
import Derived.RangeFuncCalls
import Derived.RangeFuncLeaves
import Derived.OrdersHeld
import Derived.Shelf.Abstract
import Derived.WalkKit
import Derived.OwnWalkIn
import Derived.TacticsInMore
import Derived.LoopNIn
import Derived.LoopIn
import Derived.TacticsIn
import Derived.Test.YtfnekpgbfdhnmaaDoorVp1
set_option linter.unusedVariables false
set_option linter.unusedSimpArgs false
namespace Go.Proofs.YtfnekpgbfdhnmaaDoor.PAll
open Go.RowKit Go.Proofs.YtfnekpgbfdhnmaaDoorW.PrintWords Go.Proofs.YtfnekpgbfdhnmaaDoorW.PrintLast Go.Proofs.YtfnekpgbfdhnmaaDoorW.PrintMore
attribute [local go_sem] max2_int min2_int max_two min_two max_three min_three max_four min_four   -- for this text's walks alone
set_option linter.unusedVariables false
set_option linter.unusedSimpArgs false
mutual
def betrothalref05_reader_word.l0 : Nat → Int → Int → ByteArray → Int → Int → Bool → Option (ByteArray × Int × Int × Bool × Int)
  | 0, _, _, _, _, _, _ => none
  | k + 1, x1, x6, x162000, x162001, x162002, x162003 => if x162003 = true then (some (x162000, x162001, x162002, x162003, 0)) else (betrothalref05_reader_word.l1 k x1 x6 false 1 x162000 x162001 x162002 x162003)
def betrothalref05_reader_word.l1 : Nat → Int → Int → Bool → Int → ByteArray → Int → Int → Bool → Option (ByteArray × Int × Int × Bool × Int)
  | 0, _, _, _, _, _, _, _, _ => none
  | k + 1, x1, x6, x7, x8, x162000, x162001, x162002, x162003 => if x8 ≤ 13 then ((betrothalref05_Word.f x8).bind fun bt163 => (if bt163.2 = true then ((betrothalref05_may.f x8 x1).bind fun t165 => (betrothalref05_reader_word.j2 k x1 x6 x7 x8 bt163.1 (!t165) x162000 x162001 x162002 x162003)) else (betrothalref05_reader_word.j2 k x1 x6 x7 x8 bt163.1 true x162000 x162001 x162002 x162003))) else (if x7 = true then (betrothalref05_reader_word.l0 k x1 x6 x162000 (wrap64 (x162001 + 1)) x162002 x162003) else (some (x162000, x162001, x162002, true, 0)))
def betrothalref05_reader_word.j2 : Nat → Int → Int → Bool → Int → ByteArray → Bool → ByteArray → Int → Int → Bool → Option (ByteArray × Int × Int × Bool × Int)
  | 0, _, _, _, _, _, _, _, _, _, _ => none
  | k + 1, x1, x6, x7, x8, x9, x33, x162000, x162001, x162002, x162003 => if x33 = true then (betrothalref05_reader_word.l1 k x1 x6 x7 (wrap64 (x8 + 1)) x162000 x162001 x162002 x162003) else (if 0 ≤ x6 then (if x6 ≤ x162001 then (if x162001 ≤ (x162000.size : Int) then (if x9.toList = (x162000.extract (x6 : Int).toNat (x162001 : Int).toNat).toList then (some (x162000, x162001, x162002, x162003, x8)) else (if x7 = true then (betrothalref05_reader_word.l1 k x1 x6 true (wrap64 (x8 + 1)) x162000 x162001 x162002 x162003) else (if (wrap64 (x162001 - x6)) < (x9.size : Int) then (if 0 ≤ (wrap64 (x162001 - x6)) then (if (wrap64 (x162001 - x6)) ≤ (x9.size : Int) then (if (x9.extract 0 ((wrap64 (x162001 - x6)) : Int).toNat).toList = (x162000.extract (x6 : Int).toNat (x162001 : Int).toNat).toList then ((betrothalref05_reader_is.f x162000 x162001 x162002 x162003 (bt x9 (wrap64 (x162001 - x6)))).bind fun t166 => (betrothalref05_reader_word.l1 k x1 x6 t166 (wrap64 (x8 + 1)) x162000 x162001 x162002 x162003)) else (betrothalref05_reader_word.l1 k x1 x6 false (wrap64 (x8 + 1)) x162000 x162001 x162002 x162003)) else (none)) else (none)) else (betrothalref05_reader_word.l1 k x1 x6 false (wrap64 (x8 + 1)) x162000 x162001 x162002 x162003)))) else (none)) else (none)) else (none))
end
def betrothalref05_reader_word.f (k : Nat) (a0_0 : ByteArray) (a0_1 : Int) (a0_2 : Int) (a0_3 : Bool) (a1 : Int) : Option (ByteArray × Int × Int × Bool × Int) := betrothalref05_reader_word.l0 k a1 a0_1 a0_0 a0_1 a0_2 a0_3
def betrothalref05_reader_word.T12 : Bool × List (List Nat × List Nat) := (true, [([], []), ([0], [0]), ([1], [1]), ([1], [1]), ([3, 1], [1, 3]), ([2, 4, 1], [1, 2, 4]), ([5, 1, 1], [1, 5]), ([6], [6]), ([6], [6]), ([7, 8, 6], [6, 7, 8]), ([6], [6]), ([10, 6], [6, 10]), ([6], [6]), ([6], [6]), ([13, 6], [6, 13]), ([11, 12, 14, 6], [6, 11, 12, 14]), ([9, 15, 6], [6, 9, 15]), ([6, 16, 1], [1, 6, 16]), ([17, 6, 1], [1, 17]), ([18], [18]), ([18], [18]), ([18], [18]), ([20, 21, 18], [18, 20, 21]), ([19, 22, 18, 18], [18, 19, 22]), ([18, 23, 1], [1, 18, 23]), ([1, 24], [1, 24]), ([25, 23, 0, 1, 2, 3, 4, 5, 6, 7, 8, 9, 10, 11, 12, 13, 14, 15, 16, 17, 18, 19, 20, 21, 22, 23, 24, 25], [0, 25])])
def betrothalref05_reader_word.B12 : List Nat := [0, 1, 3, 3, 11, 31, 63, 127, 127, 511, 127, 1151, 127, 127, 8319, 31871, 65535, 131071, 262143, 524287, 524287, 524287, 3670015, 8388607, 16777215, 33554431, 67108863]
theorem betrothalref05_reader_word.tab12 : rtab .any (opsOf Tryd.f59 12) = betrothalref05_reader_word.T12 := by kernel_rfl
theorem betrothalref05_reader_word.bits12 : waitsOk betrothalref05_reader_word.T12.2 betrothalref05_reader_word.B12 = true := by kernel_rfl
set_option maxHeartbeats 8000000 in
set_option maxRecDepth 100000 in
theorem betrothalref05_reader_word.calls (k : Nat) (a0_0 : ByteArray) (a0_1 : Int) (a0_2 : Int) (a0_3 : Bool) (a1 : Int) (r1 : ByteArray) (r2 : Int) (r3 : Int) (r4 : Bool) (r5 : Int) (w : World) (h : betrothalref05_reader_word.f k a0_0 a0_1 a0_2 a0_3 a1 = some (r1, r2, r3, r4, r5)) :
    Calls Tryd.prog 59 #[.agg #[.string a0_0, .int .i64 a0_1, .int .i64 a0_2, .bool a0_3], .int .i64 a1] w fun e w' => e = .returned (.tuple #[.agg #[.string r1, .int .i64 r2, .int .i64 r3, .bool r4], .int .i64 r5]) ∧ Below w.heap.size w w' := by
  have hu71 := Tryd.underlying71
  have HB := Aside0.mk (Below.refl w.heap.size w)
  have H : (betrothalref05_reader_word.l0 k a1 a0_1 a0_0 a0_1 a0_2 a0_3) = some (r1, r2, r3, r4, r5) := h
  clear h
  have H' := Aside0.mk H
  clear H
  go_enter Tryd.func59, Tryd.ntmps59
  go_wp2_with (first | ((with_reducible refine gate_dst (N := 2) rfl ?_); (try (refine gate_guard (by rfl) ?_; dsimp only)); refine box_event ?hg (N := 2) ?hd (cs := #[.string a0_0, .int .i64 a0_1, .int .i64 a0_2, .bool a0_3]) (t := 71) ?hr ?_; (case hd => rfl); (case hg => rfl); (case hr => first | (go_simp; done) | (go_simp; rfl)); intro gb161 hg w3 hbox hb; have n0_ := Aside0.mk (below_step (by repeat (first | (with_reducible first | exact HB.out | apply below_alloc | apply pw_below_drewN | apply below_drew1) | exact HB.out)) hb); have n1_ := Aside0.mk (hbox); have n2_ := Aside0.mk ((by rw [hg]; exact (below_size (by repeat (first | (with_reducible first | exact HB.out | apply below_alloc | apply pw_below_drewN | apply below_drew1) | exact HB.out))) : w.heap.size ≤ gb161)); have n3_ := Aside0.mk ((by rw [hg]; exact (below_size (by repeat (first | (with_reducible first | exact HB.out | apply below_alloc | apply pw_below_drewN | apply below_drew1) | exact HB.out))) : w.heap.size ≤ gb161)); clear HB; have HB := n0_; have BK161 := n1_; have GW161 := n2_; have GE161 := n3_; clear n0_ n1_ n2_ n3_; clear hb hbox hg) | ((with_reducible refine gate_dst (N := 4) rfl ?_); (try (refine gate_guard (by rfl) ?_; dsimp only)); refine box_event ?hg (N := 4) ?hd (cs := #[.string (⟨#[]⟩ : ByteArray), .int .i64 0, .int .i64 0, .bool false]) (t := 71) ?hr ?_; (case hd => rfl); (case hg => rfl); (case hr => first | (go_simp; done) | (go_simp; rfl)); intro gb162 hg w4 hbox hb; have n0_ := Aside0.mk (blk_below (g := gb161) (o := .cells #[.string a0_0, .int .i64 a0_1, .int .i64 a0_2, .bool a0_3] 71 (0, 0)) (by (with_reducible repeat (first | refine blk_drewN ?_ _ | refine blk_drew ?_ | refine blk_alloc ?_ _)); exact BK161.out) hb); have n1_ := Aside0.mk (below_step (by repeat (first | (with_reducible first | exact HB.out | apply below_alloc | apply pw_below_drewN | apply below_drew1 | refine below_set ?_ GE161.out) | exact HB.out)) hb); have n2_ := Aside0.mk (hbox); have n3_ := Aside0.mk ((by rw [hg]; exact (below_size (by repeat (first | (with_reducible first | exact HB.out | apply below_alloc | apply pw_below_drewN | apply below_drew1 | refine below_set ?_ GE161.out) | exact HB.out))) : w.heap.size ≤ gb162)); have n4_ := Aside0.mk ((by rw [hg]; exact (below_size (by repeat (first | (with_reducible first | exact HB.out | apply below_alloc | apply pw_below_drewN | apply below_drew1 | refine below_set ?_ GE161.out) | exact HB.out))) : w.heap.size ≤ gb162)); have n5_ := Aside0.mk ((by rw [hg]; exact Nat.ne_of_lt (blk_lt (g := gb161) (o := .cells #[.string a0_0, .int .i64 a0_1, .int .i64 a0_2, .bool a0_3] 71 (0, 0)) (by (with_reducible repeat (first | refine blk_drewN ?_ _ | refine blk_drew ?_ | refine blk_alloc ?_ _)); exact BK161.out)) : gb161 ≠ gb162)); have n6_ := Aside0.mk ((by rw [hg]; exact Nat.ne_of_gt (blk_lt (g := gb161) (o := .cells #[.string a0_0, .int .i64 a0_1, .int .i64 a0_2, .bool a0_3] 71 (0, 0)) (by (with_reducible repeat (first | refine blk_drewN ?_ _ | refine blk_drew ?_ | refine blk_alloc ?_ _)); exact BK161.out)) : gb162 ≠ gb161)); clear BK161; clear HB; have BK161 := n0_; have HB := n1_; have BK162 := n2_; have GW162 := n3_; have GE162 := n4_; have NB161_162 := n5_; have NB162_161 := n6_; clear n0_ n1_ n2_ n3_ n4_ n5_ n6_; clear hb hbox hg; have hnb5 := NB161_162.out; have hnc5 := NB162_161.out; have hcz6_0 : w4.cell? ⟨gb161, 0, none⟩ = some (.string a0_0) := (blk_cell BK161.out 0).trans rfl; have hcz6_1 : w4.cell? ⟨gb161, 1, none⟩ = some (.int .i64 a0_1) := (blk_cell BK161.out 1).trans rfl; have hcz6_2 : w4.cell? ⟨gb161, 2, none⟩ = some (.int .i64 a0_2) := (blk_cell BK161.out 2).trans rfl; have hcz6_3 : w4.cell? ⟨gb161, 3, none⟩ = some (.bool a0_3) := (blk_cell BK161.out 3).trans rfl; have hfz6_0 := blk_frozen BK161.out 0; have hfz6_1 := blk_frozen BK161.out 1; have hfz6_2 := blk_frozen BK161.out 2; have hfz6_3 := blk_frozen BK161.out 3))
  go_loopg [] k (fun kq w' => ∃ (x162001_1 : Int) (x162003_1 : Bool) (x163000_1 : ByteArray) (x163001_1 : Int) (x163002_1 : Int) (x163003_1 : Bool), Aside0 (betrothalref05_reader_word.l0 kq a1 a0_1 a0_0 x162001_1 a0_2 x162003_1 = some (r1, r2, r3, r4, r5)) ∧ Aside0 (kq ≤ k) ∧ Aside0 (w'.heap[gb161]? = some (.cells #[.string a0_0, .int .i64 x162001_1, .int .i64 a0_2, .bool x162003_1] 71 (0, 0))) ∧ Aside0 (w'.heap[gb162]? = some (.cells #[.string x163000_1, .int .i64 x163001_1, .int .i64 x163002_1, .bool x163003_1] 71 (0, 0))) ∧ Aside0 (Below w.heap.size w w'))
  case atStart => exact ⟨(a0_1), (a0_3), ((⟨#[]⟩ : ByteArray)), (0), (0), (false), H', ⟨Nat.le_refl _⟩, ⟨by (with_reducible repeat (first | refine blk_drewN ?_ _ | refine blk_drew ?_ | refine blk_alloc ?_ _)); exact BK161.out⟩, ⟨by (with_reducible repeat (first | refine blk_drewN ?_ _ | refine blk_drew ?_ | refine blk_alloc ?_ _)); exact BK162.out⟩, ⟨by repeat (first | (with_reducible first | exact HB.out | apply below_alloc | apply pw_below_drewN | apply below_drew1 | refine below_set ?_ GE161.out | refine below_set ?_ GE162.out) | exact HB.out)⟩⟩
  case round =>
    clear H'
    try clear p2
    try clear c5
    try clear hcz6_0
    try clear hcz6_1
    try clear hcz6_2
    try clear hcz6_3
    try clear hfz6_0
    try clear hfz6_1
    try clear hfz6_2
    try clear hfz6_3
    obtain ⟨x162001_1, x162003_1, x163000_1, x163001_1, x163002_1, x163003_1, HA, HK1, BK161, BK162, HB⟩ := hrel
    cases gk with
    | zero => exact absurd HA.out (by simp [betrothalref05_reader_word.l0])
    | succ k1 =>
      have H := HA.out
      clear HA
      simp only [betrothalref05_reader_word.l0] at H
      by_cases c7 : x162003_1 = true
      · subst c7
        have H1 : (some (a0_0, x162001_1, a0_2, true, 0)) = some (r1, r2, r3, r4, r5) := by rw [if_pos rfl] at H; exact H
        clear H
        have H := H1
        clear H1
        simp only [Option.some.injEq, Prod.mk.injEq] at H
        obtain ⟨rfl, rfl, rfl, rfl, rfl⟩ := H
        have hnb8 := NB161_162.out
        have hnc8 := NB162_161.out
        have hcz9_0 : wr.cell? ⟨gb161, 0, none⟩ = some (.string a0_0) := (blk_cell BK161.out 0).trans rfl
        have hcz9_1 : wr.cell? ⟨gb161, 1, none⟩ = some (.int .i64 x162001_1) := (blk_cell BK161.out 1).trans rfl
        have hcz9_2 : wr.cell? ⟨gb161, 2, none⟩ = some (.int .i64 a0_2) := (blk_cell BK161.out 2).trans rfl
        have hcz9_3 : wr.cell? ⟨gb161, 3, none⟩ = some (.bool true) := (blk_cell BK161.out 3).trans rfl
        have hfz9_0 := blk_frozen BK161.out 0
        have hfz9_1 := blk_frozen BK161.out 1
        have hfz9_2 := blk_frozen BK161.out 2
        have hfz9_3 := blk_frozen BK161.out 3
        have hcz10_0 : wr.cell? ⟨gb162, 0, none⟩ = some (.string x163000_1) := (blk_cell BK162.out 0).trans rfl
        have hcz10_1 : wr.cell? ⟨gb162, 1, none⟩ = some (.int .i64 x163001_1) := (blk_cell BK162.out 1).trans rfl
        have hcz10_2 : wr.cell? ⟨gb162, 2, none⟩ = some (.int .i64 x163002_1) := (blk_cell BK162.out 2).trans rfl
        have hcz10_3 : wr.cell? ⟨gb162, 3, none⟩ = some (.bool x163003_1) := (blk_cell BK162.out 3).trans rfl
        have hfz10_0 := blk_frozen BK162.out 0
        have hfz10_1 := blk_frozen BK162.out 1
        have hfz10_2 := blk_frozen BK162.out 2
        have hfz10_3 := blk_frozen BK162.out 3
        go_wp2
        refine bodyPost_ret (results_ct rfl _ _ gb162 71 #[.string a0_0, .int .i64 x162001_1, .int .i64 a0_2, .bool true] (0, 0) _ rfl (by (with_reducible repeat (first | refine blk_drewN ?_ _ | refine blk_drew ?_ | refine blk_alloc ?_ _)); refine blk_put (cs := #[.string a0_0, .int .i64 x162001_1, .int .i64 a0_2, .bool x163003_1]) ?_ 3 _ rfl; (with_reducible repeat (first | refine blk_drewN ?_ _ | refine blk_drew ?_ | refine blk_alloc ?_ _)); refine blk_put (cs := #[.string a0_0, .int .i64 x162001_1, .int .i64 x163002_1, .bool x163003_1]) ?_ 2 _ rfl; (with_reducible repeat (first | refine blk_drewN ?_ _ | refine blk_drew ?_ | refine blk_alloc ?_ _)); refine blk_put (cs := #[.string a0_0, .int .i64 x163001_1, .int .i64 x163002_1, .bool x163003_1]) ?_ 1 _ rfl; (with_reducible repeat (first | refine blk_drewN ?_ _ | refine blk_drew ?_ | refine blk_alloc ?_ _)); refine blk_put (cs := #[.string x163000_1, .int .i64 x163001_1, .int .i64 x163002_1, .bool x163003_1]) ?_ 0 _ rfl; (with_reducible repeat (first | refine blk_drewN ?_ _ | refine blk_drew ?_ | refine blk_alloc ?_ _)); exact BK162.out) Tryd.underlying71 rfl (by kernel_rfl)) rfl ?_
        exact ⟨by first | rfl | (simp [errW_none, errW_some] <;> rfl) | (simp [*, errW_none, errW_some] <;> rfl), by repeat (first | (with_reducible first | exact HB.out | apply below_alloc | apply pw_below_drewN | apply below_drew1 | refine below_set ?_ GE161.out | refine below_set ?_ GE162.out) | exact HB.out)⟩
      · replace c7 := Bool.eq_false_iff.mpr c7
        subst c7
        have H1 : (betrothalref05_reader_word.l1 k1 a1 a0_1 false 1 a0_0 x162001_1 a0_2 false) = some (r1, r2, r3, r4, r5) := by rw [if_neg (show ¬ (false = true) by decide)] at H; exact H
        clear H
        have H := H1
        clear H1
        have H' := Aside0.mk H
        clear H
        have hnb11 := NB161_162.out
        have hnc11 := NB162_161.out
        have hcz12_0 : wr.cell? ⟨gb161, 0, none⟩ = some (.string a0_0) := (blk_cell BK161.out 0).trans rfl
        have hcz12_1 : wr.cell? ⟨gb161, 1, none⟩ = some (.int .i64 x162001_1) := (blk_cell BK161.out 1).trans rfl
        have hcz12_2 : wr.cell? ⟨gb161, 2, none⟩ = some (.int .i64 a0_2) := (blk_cell BK161.out 2).trans rfl
        have hcz12_3 : wr.cell? ⟨gb161, 3, none⟩ = some (.bool false) := (blk_cell BK161.out 3).trans rfl
        have hfz12_0 := blk_frozen BK161.out 0
        have hfz12_1 := blk_frozen BK161.out 1
        have hfz12_2 := blk_frozen BK161.out 2
        have hfz12_3 := blk_frozen BK161.out 3
        go_wp2
        go_loopg [7, 8] k1 (fun kq v7 v8 w' => ∃ (x7_2 : Bool) (x8_2 : Int) (x163000_2 : ByteArray) (x163001_2 : Int) (x163002_2 : Int) (x163003_2 : Bool), v7 = .bool x7_2 ∧ v8 = .int .i64 x8_2 ∧ Aside0 (betrothalref05_reader_word.l1 kq a1 a0_1 x7_2 x8_2 a0_0 x162001_1 a0_2 false = some (r1, r2, r3, r4, r5)) ∧ Aside0 (kq ≤ k1) ∧ Aside0 (w'.heap[gb161]? = some (.cells #[.string a0_0, .int .i64 x162001_1, .int .i64 a0_2, .bool false] 71 (0, 0))) ∧ Aside0 (w'.heap[gb162]? = some (.cells #[.string x163000_2, .int .i64 x163001_2, .int .i64 x163002_2, .bool x163003_2] 71 (0, 0))) ∧ Aside0 (Below w.heap.size w w'))
        case atStart => exact ⟨(false), (1), (x163000_1), (x163001_1), (x163002_1), (x163003_1), (by first | rfl | (simp; done) | (simp [*]; done)), (by first | rfl | (simp; done) | (simp [*]; done)), H', ⟨Nat.le_refl _⟩, ⟨by (with_reducible repeat (first | refine blk_drewN ?_ _ | refine blk_drew ?_ | refine blk_alloc ?_ _)); exact BK161.out⟩, ⟨by (with_reducible repeat (first | refine blk_drewN ?_ _ | refine blk_drew ?_ | refine blk_alloc ?_ _)); exact BK162.out⟩, ⟨by repeat (first | (with_reducible first | exact HB.out | apply below_alloc | apply pw_below_drewN | apply below_drew1 | refine below_set ?_ GE161.out | refine below_set ?_ GE162.out) | exact HB.out)⟩⟩
        case round =>
          clear H'
          try clear c1
          try clear p2
          try clear c5
          try clear c7
          try clear c8
          try clear c11
          try clear hcz10_0
          try clear hcz10_1
          try clear hcz10_2
          try clear hcz10_3
          try clear hcz12_0
          try clear hcz12_1
          try clear hcz12_2
          try clear hcz12_3
          try clear hcz6_0
          try clear hcz6_1
          try clear hcz6_2
          try clear hcz6_3
          try clear hcz9_0
          try clear hcz9_1
          try clear hcz9_2
          try clear hcz9_3
          try clear hfz10_0
          try clear hfz10_1
          try clear hfz10_2
          try clear hfz10_3
          try clear hfz12_0
          try clear hfz12_1
          try clear hfz12_2
          try clear hfz12_3
          try clear hfz6_0
          try clear hfz6_1
          try clear hfz6_2
          try clear hfz6_3
          try clear hfz9_0
          try clear hfz9_1
          try clear hfz9_2
          try clear hfz9_3
          try clear p2
          obtain ⟨x7_2, x8_2, x163000_2, x163001_2, x163002_2, x163003_2, rfl, rfl, HA, HK2, BK161, BK162, HB⟩ := hrel
          cases gk with
          | zero => exact absurd HA.out (by simp [betrothalref05_reader_word.l1])
          | succ k2 =>
            have H := HA.out
            clear HA
            simp only [betrothalref05_reader_word.l1] at H
            by_cases c13 : x8_2 ≤ 13
            · rw [if_pos c13] at H
              have c13b0 : decide (x8_2 ≤ 13) = true := decide_eq_true c13
              clear c13
              replace H := Option.bind_eq_some_iff.mp H
              obtain ⟨⟨t163, t164⟩, A140, H⟩ := H
              replace H : (if t164 = true then ((betrothalref05_may.f x8_2 a1).bind fun t165 => (betrothalref05_reader_word.j2 k2 a1 a0_1 x7_2 x8_2 t163 (!t165) a0_0 x162001_1 a0_2 false)) else (betrothalref05_reader_word.j2 k2 a1 a0_1 x7_2 x8_2 t163 true a0_0 x162001_1 a0_2 false)) = some (r1, r2, r3, r4, r5) := H
              have A14 := Aside0.mk A140
              clear A140
              have HC15 := Aside0.mk H
              clear H
              go_upto_region 8 with (first | ((with_reducible refine gate_callee (f := 13) rfl ?_); refine goesL_ (some 23) rfl rfl Tryd.func13 (by kernel_rfl) rfl #[.int .i64 x8_2] rfl (by (try simp only [List.map_toArray, List.map_cons, List.map_nil]); first | done | rfl | (simp only [List.length_drop, List.length_take]; rfl)) ?_; (with_reducible refine (betrothalref05_Word.calls x8_2 t163 t164 _ A14.out).mono ?_); rintro e w16 ⟨rfl, hb⟩; refine ⟨_, rfl, ?_⟩; have n0_ := Aside0.mk (blk_below (g := gb161) (o := .cells #[.string a0_0, .int .i64 x162001_1, .int .i64 a0_2, .bool false] 71 (0, 0)) (by (with_reducible repeat (first | refine blk_drewN ?_ _ | refine blk_drew ?_ | refine blk_alloc ?_ _)); exact BK161.out) hb); have n1_ := Aside0.mk (blk_below (g := gb162) (o := .cells #[.string x163000_2, .int .i64 x163001_2, .int .i64 x163002_2, .bool x163003_2] 71 (0, 0)) (by (with_reducible repeat (first | refine blk_drewN ?_ _ | refine blk_drew ?_ | refine blk_alloc ?_ _)); exact BK162.out) hb); have n2_ := Aside0.mk (below_step (by repeat (first | (with_reducible first | exact HB.out | apply below_alloc | apply pw_below_drewN | apply below_drew1 | refine below_set ?_ GE161.out | refine below_set ?_ GE162.out) | exact HB.out)) hb); clear BK161; clear BK162; clear HB; have BK161 := n0_; have BK162 := n1_; have HB := n2_; clear n0_ n1_ n2_; (try clear hb); (try clear hb2); (try clear hk); (try clear hi)))
              (try simp only [Act.put, List.setIfInBounds_toArray, List.set_cons_zero, List.set_cons_succ])
              go_cut [33] (fun v33 wc => ∃ (kq : Nat) (x33_14 : Bool), v33 = .bool x33_14 ∧ Aside0 (betrothalref05_reader_word.j2 kq a1 a0_1 x7_2 x8_2 t163 x33_14 a0_0 x162001_1 a0_2 false = some (r1, r2, r3, r4, r5)) ∧ Aside0 (kq ≤ k2) ∧ Aside0 (wc.heap[gb161]? = some (.cells #[.string a0_0, .int .i64 x162001_1, .int .i64 a0_2, .bool false] 71 (0, 0))) ∧ Aside0 (wc.heap[gb162]? = some (.cells #[.string x163000_2, .int .i64 x163001_2, .int .i64 x163002_2, .bool x163003_2] 71 (0, 0))) ∧ Aside0 (Below w.heap.size w wc))
              case first =>
                have H := HC15.out
                clear HC15
                by_cases c17 : t164 = true
                · subst c17
                  have H1 : ((betrothalref05_may.f x8_2 a1).bind fun t165 => (betrothalref05_reader_word.j2 k2 a1 a0_1 x7_2 x8_2 t163 (!t165) a0_0 x162001_1 a0_2 false)) = some (r1, r2, r3, r4, r5) := by rw [if_pos rfl] at H; exact H
                  clear H
                  have H := H1
                  clear H1
                  replace H := Option.bind_eq_some_iff.mp H
                  obtain ⟨t165, A180, H⟩ := H
                  replace H : (betrothalref05_reader_word.j2 k2 a1 a0_1 x7_2 x8_2 t163 (!t165) a0_0 x162001_1 a0_2 false) = some (r1, r2, r3, r4, r5) := H
                  have A18 := Aside0.mk A180
                  clear A180
                  have H' := Aside0.mk H
                  clear H
                  go_wp2_with (first | (go_at_call 77; (with_reducible refine (betrothalref05_may.calls x8_2 a1 t165 _ A18.out).mono ?_); rintro e w' ⟨rfl, ⟨nd, rfl⟩⟩))
                  go_meet
                  case rel => exact ⟨_, (!t165), (by first | rfl | (simp; done) | (simp [*]; done)), H', ⟨by have := HK1.out; have := HK2.out; first | omega | exact Nat.le_refl _⟩, ⟨by (with_reducible repeat (first | refine blk_drewN ?_ _ | refine blk_drew ?_ | refine blk_alloc ?_ _)); exact BK161.out⟩, ⟨by (with_reducible repeat (first | refine blk_drewN ?_ _ | refine blk_drew ?_ | refine blk_alloc ?_ _)); exact BK162.out⟩, ⟨by repeat (first | (with_reducible first | exact HB.out | apply below_alloc | apply pw_below_drewN | apply below_drew1 | refine below_set ?_ GE161.out | refine below_set ?_ GE162.out) | exact HB.out)⟩⟩
                · replace c17 := Bool.eq_false_iff.mpr c17
                  subst c17
                  have H1 : (betrothalref05_reader_word.j2 k2 a1 a0_1 x7_2 x8_2 t163 true a0_0 x162001_1 a0_2 false) = some (r1, r2, r3, r4, r5) := by rw [if_neg (show ¬ (false = true) by decide)] at H; exact H
                  clear H
                  have H := H1
                  clear H1
                  have H' := Aside0.mk H
                  clear H
                  go_wp2
                  go_meet
                  case rel => exact ⟨_, (true), (by first | rfl | (simp; done) | (simp [*]; done)), H', ⟨by have := HK1.out; have := HK2.out; first | omega | exact Nat.le_refl _⟩, ⟨by (with_reducible repeat (first | refine blk_drewN ?_ _ | refine blk_drew ?_ | refine blk_alloc ?_ _)); exact BK161.out⟩, ⟨by (with_reducible repeat (first | refine blk_drewN ?_ _ | refine blk_drew ?_ | refine blk_alloc ?_ _)); exact BK162.out⟩, ⟨by repeat (first | (with_reducible first | exact HB.out | apply below_alloc | apply pw_below_drewN | apply below_drew1 | refine below_set ?_ GE161.out | refine below_set ?_ GE162.out) | exact HB.out)⟩⟩
              case rest =>
                clear HC15
                try clear c1
                try clear p2
                try clear c5
                try clear c7
                try clear c8
                try clear c11
                try clear c13
                try clear c13b0
                try clear c17
                try clear hcz10_0
                try clear hcz10_1
                try clear hcz10_2
                try clear hcz10_3
                try clear hcz12_0
                try clear hcz12_1
                try clear hcz12_2
                try clear hcz12_3
                try clear hcz6_0
                try clear hcz6_1
                try clear hcz6_2
                try clear hcz6_3
                try clear hcz9_0
                try clear hcz9_1
                try clear hcz9_2
                try clear hcz9_3
                try clear hfz10_0
                try clear hfz10_1
                try clear hfz10_2
                try clear hfz10_3
                try clear hfz12_0
                try clear hfz12_1
                try clear hfz12_2
                try clear hfz12_3
                try clear hfz6_0
                try clear hfz6_1
                try clear hfz6_2
                try clear hfz6_3
                try clear hfz9_0
                try clear hfz9_1
                try clear hfz9_2
                try clear hfz9_3
                try clear p2
                obtain ⟨kq, x33_14, rfl, HA, HJ14, BK161, BK162, HB⟩ := hcut
                cases kq with
                | zero => exact absurd HA.out (by simp [betrothalref05_reader_word.j2])
                | succ kj14 =>
                  have H := HA.out
                  clear HA
                  simp only [betrothalref05_reader_word.j2] at H
                  by_cases c19 : x33_14 = true
                  · subst c19
                    have H1 : (betrothalref05_reader_word.l1 kj14 a1 a0_1 x7_2 (wrap64 (x8_2 + 1)) a0_0 x162001_1 a0_2 false) = some (r1, r2, r3, r4, r5) := by rw [if_pos rfl] at H; exact H
                    clear H
                    have H := H1
                    clear H1
                    have H' := Aside0.mk H
                    clear H
                    go_wp2
                    go_roundg kj14
                    case measure => have := HK1.out; have := HK2.out; have := HJ14.out; omega
                    case rel => exact ⟨(x7_2), (wrap64 (x8_2 + 1)), (x163000_2), (x163001_2), (x163002_2), (x163003_2), (by first | rfl | (simp; done) | (simp [*]; done)), (by first | rfl | (simp; done) | (simp [*]; done)), H', ⟨by have := HK1.out; have := HK2.out; have := HJ14.out; omega⟩, ⟨by (with_reducible repeat (first | refine blk_drewN ?_ _ | refine blk_drew ?_ | refine blk_alloc ?_ _)); exact BK161.out⟩, ⟨by (with_reducible repeat (first | refine blk_drewN ?_ _ | refine blk_drew ?_ | refine blk_alloc ?_ _)); exact BK162.out⟩, ⟨by repeat (first | (with_reducible first | exact HB.out | apply below_alloc | apply pw_below_drewN | apply below_drew1 | refine below_set ?_ GE161.out | refine below_set ?_ GE162.out) | exact HB.out)⟩⟩
                  · replace c19 := Bool.eq_false_iff.mpr c19
                    subst c19
                    have H1 : (if 0 ≤ a0_1 then (if a0_1 ≤ x162001_1 then (if x162001_1 ≤ (a0_0.size : Int) then (if t163.toList = (a0_0.extract (a0_1 : Int).toNat (x162001_1 : Int).toNat).toList then (some (a0_0, x162001_1, a0_2, false, x8_2)) else (if x7_2 = true then (betrothalref05_reader_word.l1 kj14 a1 a0_1 true (wrap64 (x8_2 + 1)) a0_0 x162001_1 a0_2 false) else (if (wrap64 (x162001_1 - a0_1)) < (t163.size : Int) then (if 0 ≤ (wrap64 (x162001_1 - a0_1)) then (if (wrap64 (x162001_1 - a0_1)) ≤ (t163.size : Int) then (if (t163.extract 0 ((wrap64 (x162001_1 - a0_1)) : Int).toNat).toList = (a0_0.extract (a0_1 : Int).toNat (x162001_1 : Int).toNat).toList then ((betrothalref05_reader_is.f a0_0 x162001_1 a0_2 false (bt t163 (wrap64 (x162001_1 - a0_1)))).bind fun t166 => (betrothalref05_reader_word.l1 kj14 a1 a0_1 t166 (wrap64 (x8_2 + 1)) a0_0 x162001_1 a0_2 false)) else (betrothalref05_reader_word.l1 kj14 a1 a0_1 false (wrap64 (x8_2 + 1)) a0_0 x162001_1 a0_2 false)) else (none)) else (none)) else (betrothalref05_reader_word.l1 kj14 a1 a0_1 false (wrap64 (x8_2 + 1)) a0_0 x162001_1 a0_2 false)))) else (none)) else (none)) else (none)) = some (r1, r2, r3, r4, r5) := by rw [if_neg (show ¬ (false = true) by decide)] at H; exact H
                    clear H
                    have H := H1
                    clear H1
                    by_cases c20 : 0 ≤ a0_1
                    · rw [if_pos c20] at H
                      have c20b0 := eq_true c20
                      have c20b1 : decide (0 ≤ a0_1) = true := decide_eq_true c20
                      clear c20
                      by_cases c21 : a0_1 ≤ x162001_1
                      · rw [if_pos c21] at H
                        have c21b0 := eq_true c21
                        have c21b1 : decide (a0_1 ≤ x162001_1) = true := decide_eq_true c21
                        clear c21
                        by_cases c22 : x162001_1 ≤ (a0_0.size : Int)
                        · rw [if_pos c22] at H
                          have c22b0 := eq_true c22
                          have c22b1 : decide (x162001_1 ≤ (a0_0.size : Int)) = true := decide_eq_true c22
                          clear c22
                          by_cases c23 : t163.toList = (a0_0.extract (a0_1 : Int).toNat (x162001_1 : Int).toNat).toList
                          · rw [if_pos c23] at H
                            have c23b0 : (t163.toList == (a0_0.extract (a0_1 : Int).toNat (x162001_1 : Int).toNat).toList) = true := beq_iff_eq.mpr c23
                            have c23b1 : (t163.toList != (a0_0.extract (a0_1 : Int).toNat (x162001_1 : Int).toNat).toList) = false := bne_eq_false_iff_eq.mpr c23
                            clear c23
                            simp only [Option.some.injEq, Prod.mk.injEq] at H
                            obtain ⟨rfl, rfl, rfl, rfl, rfl⟩ := H
                            have hnb24 := NB161_162.out
                            have hnc24 := NB162_161.out
                            have hcz25_0 : wc.cell? ⟨gb161, 0, none⟩ = some (.string a0_0) := (blk_cell BK161.out 0).trans rfl
                            have hcz25_1 : wc.cell? ⟨gb161, 1, none⟩ = some (.int .i64 x162001_1) := (blk_cell BK161.out 1).trans rfl
                            have hcz25_2 : wc.cell? ⟨gb161, 2, none⟩ = some (.int .i64 a0_2) := (blk_cell BK161.out 2).trans rfl
                            have hcz25_3 : wc.cell? ⟨gb161, 3, none⟩ = some (.bool false) := (blk_cell BK161.out 3).trans rfl
                            have hfz25_0 := blk_frozen BK161.out 0
                            have hfz25_1 := blk_frozen BK161.out 1
                            have hfz25_2 := blk_frozen BK161.out 2
                            have hfz25_3 := blk_frozen BK161.out 3
                            have hcz26_0 : wc.cell? ⟨gb162, 0, none⟩ = some (.string x163000_2) := (blk_cell BK162.out 0).trans rfl
                            have hcz26_1 : wc.cell? ⟨gb162, 1, none⟩ = some (.int .i64 x163001_2) := (blk_cell BK162.out 1).trans rfl
                            have hcz26_2 : wc.cell? ⟨gb162, 2, none⟩ = some (.int .i64 x163002_2) := (blk_cell BK162.out 2).trans rfl
                            have hcz26_3 : wc.cell? ⟨gb162, 3, none⟩ = some (.bool x163003_2) := (blk_cell BK162.out 3).trans rfl
                            have hfz26_0 := blk_frozen BK162.out 0
                            have hfz26_1 := blk_frozen BK162.out 1
                            have hfz26_2 := blk_frozen BK162.out 2
                            have hfz26_3 := blk_frozen BK162.out 3
                            go_wp2
                            refine bodyPost_ret (results_ct rfl _ _ gb162 71 #[.string a0_0, .int .i64 x162001_1, .int .i64 a0_2, .bool false] (0, 0) _ rfl (by (with_reducible repeat (first | refine blk_drewN ?_ _ | refine blk_drew ?_ | refine blk_alloc ?_ _)); refine blk_put (cs := #[.string a0_0, .int .i64 x162001_1, .int .i64 a0_2, .bool x163003_2]) ?_ 3 _ rfl; (with_reducible repeat (first | refine blk_drewN ?_ _ | refine blk_drew ?_ | refine blk_alloc ?_ _)); refine blk_put (cs := #[.string a0_0, .int .i64 x162001_1, .int .i64 x163002_2, .bool x163003_2]) ?_ 2 _ rfl; (with_reducible repeat (first | refine blk_drewN ?_ _ | refine blk_drew ?_ | refine blk_alloc ?_ _)); refine blk_put (cs := #[.string a0_0, .int .i64 x163001_2, .int .i64 x163002_2, .bool x163003_2]) ?_ 1 _ rfl; (with_reducible repeat (first | refine blk_drewN ?_ _ | refine blk_drew ?_ | refine blk_alloc ?_ _)); refine blk_put (cs := #[.string x163000_2, .int .i64 x163001_2, .int .i64 x163002_2, .bool x163003_2]) ?_ 0 _ rfl; (with_reducible repeat (first | refine blk_drewN ?_ _ | refine blk_drew ?_ | refine blk_alloc ?_ _)); exact BK162.out) Tryd.underlying71 rfl (by kernel_rfl)) rfl ?_
                            exact ⟨by first | rfl | (simp [errW_none, errW_some] <;> rfl) | (simp [*, errW_none, errW_some] <;> rfl), by repeat (first | (with_reducible first | exact HB.out | apply below_alloc | apply pw_below_drewN | apply below_drew1 | refine below_set ?_ GE161.out | refine below_set ?_ GE162.out) | exact HB.out)⟩
                          · rw [if_neg c23] at H
                            have c23b0 : (t163.toList == (a0_0.extract (a0_1 : Int).toNat (x162001_1 : Int).toNat).toList) = false := beq_eq_false_iff_ne.mpr c23
                            have c23b1 : (t163.toList != (a0_0.extract (a0_1 : Int).toNat (x162001_1 : Int).toNat).toList) = true := bne_iff_ne.mpr c23
                            by_cases c27 : x7_2 = true
                            · subst c27
                              have H1 : (betrothalref05_reader_word.l1 kj14 a1 a0_1 true (wrap64 (x8_2 + 1)) a0_0 x162001_1 a0_2 false) = some (r1, r2, r3, r4, r5) := by rw [if_pos rfl] at H; exact H
                              clear H
                              have H := H1
                              clear H1
                              have H' := Aside0.mk H
                              clear H
                              have hnb28 := NB161_162.out
                              have hnc28 := NB162_161.out
                              have hcz29_0 : wc.cell? ⟨gb161, 0, none⟩ = some (.string a0_0) := (blk_cell BK161.out 0).trans rfl
                              have hcz29_1 : wc.cell? ⟨gb161, 1, none⟩ = some (.int .i64 x162001_1) := (blk_cell BK161.out 1).trans rfl
                              have hcz29_2 : wc.cell? ⟨gb161, 2, none⟩ = some (.int .i64 a0_2) := (blk_cell BK161.out 2).trans rfl
                              have hcz29_3 : wc.cell? ⟨gb161, 3, none⟩ = some (.bool false) := (blk_cell BK161.out 3).trans rfl
                              have hfz29_0 := blk_frozen BK161.out 0
                              have hfz29_1 := blk_frozen BK161.out 1
                              have hfz29_2 := blk_frozen BK161.out 2
                              have hfz29_3 := blk_frozen BK161.out 3
                              try go_wp2
                              have n0_ := Aside0.mk (blk_drew BK161.out)
                              have n1_ := Aside0.mk (blk_drew BK162.out)
                              have n2_ := Aside0.mk (below_drew1 HB.out)
                              clear BK161
                              clear BK162
                              clear HB
                              have BK161 := n0_
                              have BK162 := n1_
                              have HB := n2_
                              clear n0_ n1_ n2_
                              refine start_ (n := 27) (S := fun w' => True) (ds := []) #[false, false, false, false, false, false, false, false, false, false, false, false, false, false, false, false, false, false, false, false, false, false, false, false, false, false, false] (by kernel_rfl) rfl rfl trivial (fun hHeld => ?_); refine with_tabW betrothalref05_reader_word.tab12 betrothalref05_reader_word.bits12 (fun HT_ HW_ => ?_)
                              generalize wc.drew = w30 at BK161 BK162 HB hHeld ⊢
                              refine pure_ (i := 0) (N := some 48) (v := ?_) (a' := ?_) #[true, false, false, false, false, false, false, false, false, false, false, false, false, false, false, false, false, false, false, false, false, false, false, false, false, false, false] rfl rfl (any_of HT_.out (by kernel_rfl)) (fun _ _ _ h => h) (Or.inl ⟨by rfl, ?_⟩) ?_ ?_
                              rotate_left
                              · intro w'
                                go_simp
                                with_reducible rfl
                              rotate_left
                              · simp only [Act.put, List.setIfInBounds_toArray, List.set_cons_zero, List.set_cons_succ, i64_w, i32_w]
                                rfl
                              refine pure_ (i := 1) (N := some 49) (v := ?_) (a' := ?_) #[true, true, false, false, false, false, false, false, false, false, false, false, false, false, false, false, false, false, false, false, false, false, false, false, false, false, false] rfl rfl (any_of HT_.out (by kernel_rfl)) (fun _ _ _ h => h) (Or.inl ⟨by rfl, ?_⟩) ?_ ?_
                              rotate_left
                              · intro w'
                                go_simp
                                with_reducible rfl
                              rotate_left
                              · simp only [Act.put, List.setIfInBounds_toArray, List.set_cons_zero, List.set_cons_succ, i64_w, i32_w]
                                rfl
                              refine pure_ (i := 2) (N := some 50) (v := undef) (a' := ?_) #[true, true, true, false, false, false, false, false, false, false, false, false, false, false, false, false, false, false, false, false, false, false, false, false, false, false, false] rfl rfl (any_of HT_.out (by kernel_rfl)) (fun _ _ _ h => h) (Or.inr ⟨by rfl, rfl⟩) ?_ ?_
                              rotate_left
                              · simp only [Act.put, List.setIfInBounds_toArray, List.set_cons_zero, List.set_cons_succ, i64_w, i32_w]
                                rfl
                              refine pure_ (i := 3) (N := some 51) (v := undef) (a' := ?_) #[true, true, true, true, false, false, false, false, false, false, false, false, false, false, false, false, false, false, false, false, false, false, false, false, false, false, false] rfl rfl (any_of HT_.out (by kernel_rfl)) (fun _ _ _ h => h) (Or.inr ⟨by rfl, rfl⟩) ?_ ?_
                              rotate_left
                              · simp only [Act.put, List.setIfInBounds_toArray, List.set_cons_zero, List.set_cons_succ, i64_w, i32_w]
                                rfl
                              refine pure_ (i := 4) (N := some 52) (v := undef) (a' := ?_) #[true, true, true, true, true, false, false, false, false, false, false, false, false, false, false, false, false, false, false, false, false, false, false, false, false, false, false] rfl rfl (any_of HT_.out (by kernel_rfl)) (fun _ _ _ h => h) (Or.inr ⟨by rfl, rfl⟩) ?_ ?_
                              rotate_left
                              · simp only [Act.put, List.setIfInBounds_toArray, List.set_cons_zero, List.set_cons_succ, i64_w, i32_w]
                                rfl
                              refine pure_ (i := 5) (N := some 53) (v := undef) (a' := ?_) #[true, true, true, true, true, true, false, false, false, false, false, false, false, false, false, false, false, false, false, false, false, false, false, false, false, false, false] rfl rfl (any_of HT_.out (by kernel_rfl)) (fun _ _ _ h => h) (Or.inr ⟨by rfl, rfl⟩) ?_ ?_
                              rotate_left
                              · simp only [Act.put, List.setIfInBounds_toArray, List.set_cons_zero, List.set_cons_succ, i64_w, i32_w]
                                rfl
                              refine pure_ (i := 6) (N := some 54) (v := undef) (a' := ?_) #[true, true, true, true, true, true, true, false, false, false, false, false, false, false, false, false, false, false, false, false, false, false, false, false, false, false, false] rfl rfl (any_of HT_.out (by kernel_rfl)) (fun _ _ _ h => h) (Or.inr ⟨by rfl, rfl⟩) ?_ ?_
                              rotate_left
                              · simp only [Act.put, List.setIfInBounds_toArray, List.set_cons_zero, List.set_cons_succ, i64_w, i32_w]
                                rfl
                              refine pure_ (i := 7) (N := some 55) (v := undef) (a' := ?_) #[true, true, true, true, true, true, true, true, false, false, false, false, false, false, false, false, false, false, false, false, false, false, false, false, false, false, false] rfl rfl (any_of HT_.out (by kernel_rfl)) (fun _ _ _ h => h) (Or.inr ⟨by rfl, rfl⟩) ?_ ?_
                              rotate_left
                              · simp only [Act.put, List.setIfInBounds_toArray, List.set_cons_zero, List.set_cons_succ, i64_w, i32_w]
                                rfl
                              refine pure_ (i := 8) (N := some 56) (v := undef) (a' := ?_) #[true, true, true, true, true, true, true, true, true, false, false, false, false, false, false, false, false, false, false, false, false, false, false, false, false, false, false] rfl rfl (any_of HT_.out (by kernel_rfl)) (fun _ _ _ h => h) (Or.inr ⟨by rfl, rfl⟩) ?_ ?_
                              rotate_left
                              · simp only [Act.put, List.setIfInBounds_toArray, List.set_cons_zero, List.set_cons_succ, i64_w, i32_w]
                                rfl
                              refine pure_ (i := 9) (N := some 57) (v := undef) (a' := ?_) #[true, true, true, true, true, true, true, true, true, true, false, false, false, false, false, false, false, false, false, false, false, false, false, false, false, false, false] rfl rfl (any_of HT_.out (by kernel_rfl)) (fun _ _ _ h => h) (Or.inr ⟨by rfl, rfl⟩) ?_ ?_
                              rotate_left
                              · simp only [Act.put, List.setIfInBounds_toArray, List.set_cons_zero, List.set_cons_succ, i64_w, i32_w]
                                rfl
                              refine pure_ (i := 10) (N := some 58) (v := undef) (a' := ?_) #[true, true, true, true, true, true, true, true, true, true, true, false, false, false, false, false, false, false, false, false, false, false, false, false, false, false, false] rfl rfl (any_of HT_.out (by kernel_rfl)) (fun _ _ _ h => h) (Or.inr ⟨by rfl, rfl⟩) ?_ ?_
                              rotate_left
                              · simp only [Act.put, List.setIfInBounds_toArray, List.set_cons_zero, List.set_cons_succ, i64_w, i32_w]
                                rfl
                              refine pure_ (i := 11) (N := some 59) (v := undef) (a' := ?_) #[true, true, true, true, true, true, true, true, true, true, true, true, false, false, false, false, false, false, false, false, false, false, false, false, false, false, false] rfl rfl (any_of HT_.out (by kernel_rfl)) (fun _ _ _ h => h) (Or.inr ⟨by rfl, rfl⟩) ?_ ?_
                              rotate_left
                              · simp only [Act.put, List.setIfInBounds_toArray, List.set_cons_zero, List.set_cons_succ, i64_w, i32_w]
                                rfl
                              refine pure_ (i := 12) (N := some 60) (v := undef) (a' := ?_) #[true, true, true, true, true, true, true, true, true, true, true, true, true, false, false, false, false, false, false, false, false, false, false, false, false, false, false] rfl rfl (any_of HT_.out (by kernel_rfl)) (fun _ _ _ h => h) (Or.inr ⟨by rfl, rfl⟩) ?_ ?_
                              rotate_left
                              · simp only [Act.put, List.setIfInBounds_toArray, List.set_cons_zero, List.set_cons_succ, i64_w, i32_w]
                                rfl
                              refine pure_ (i := 13) (N := some 61) (v := undef) (a' := ?_) #[true, true, true, true, true, true, true, true, true, true, true, true, true, true, false, false, false, false, false, false, false, false, false, false, false, false, false] rfl rfl (any_of HT_.out (by kernel_rfl)) (fun _ _ _ h => h) (Or.inr ⟨by rfl, rfl⟩) ?_ ?_
                              rotate_left
                              · simp only [Act.put, List.setIfInBounds_toArray, List.set_cons_zero, List.set_cons_succ, i64_w, i32_w]
                                rfl
                              refine pure_ (i := 14) (N := some 62) (v := undef) (a' := ?_) #[true, true, true, true, true, true, true, true, true, true, true, true, true, true, true, false, false, false, false, false, false, false, false, false, false, false, false] rfl rfl (any_of HT_.out (by kernel_rfl)) (fun _ _ _ h => h) (Or.inr ⟨by rfl, rfl⟩) ?_ ?_
                              rotate_left
                              · simp only [Act.put, List.setIfInBounds_toArray, List.set_cons_zero, List.set_cons_succ, i64_w, i32_w]
                                rfl
                              refine pure_ (i := 15) (N := some 63) (v := undef) (a' := ?_) #[true, true, true, true, true, true, true, true, true, true, true, true, true, true, true, true, false, false, false, false, false, false, false, false, false, false, false] rfl rfl (any_of HT_.out (by kernel_rfl)) (fun _ _ _ h => h) (Or.inr ⟨by rfl, rfl⟩) ?_ ?_
                              rotate_left
                              · simp only [Act.put, List.setIfInBounds_toArray, List.set_cons_zero, List.set_cons_succ, i64_w, i32_w]
                                rfl
                              refine pure_ (i := 16) (N := some 64) (v := undef) (a' := ?_) #[true, true, true, true, true, true, true, true, true, true, true, true, true, true, true, true, true, false, false, false, false, false, false, false, false, false, false] rfl rfl (any_of HT_.out (by kernel_rfl)) (fun _ _ _ h => h) (Or.inr ⟨by rfl, rfl⟩) ?_ ?_
                              rotate_left
                              · simp only [Act.put, List.setIfInBounds_toArray, List.set_cons_zero, List.set_cons_succ, i64_w, i32_w]
                                rfl
                              refine pure_ (i := 17) (N := some 65) (v := undef) (a' := ?_) #[true, true, true, true, true, true, true, true, true, true, true, true, true, true, true, true, true, true, false, false, false, false, false, false, false, false, false] rfl rfl (any_of HT_.out (by kernel_rfl)) (fun _ _ _ h => h) (Or.inr ⟨by rfl, rfl⟩) ?_ ?_
                              rotate_left
                              · simp only [Act.put, List.setIfInBounds_toArray, List.set_cons_zero, List.set_cons_succ, i64_w, i32_w]
                                rfl
                              refine pure_ (i := 18) (N := some 66) (v := undef) (a' := ?_) #[true, true, true, true, true, true, true, true, true, true, true, true, true, true, true, true, true, true, true, false, false, false, false, false, false, false, false] rfl rfl (any_of HT_.out (by kernel_rfl)) (fun _ _ _ h => h) (Or.inr ⟨by rfl, rfl⟩) ?_ ?_
                              rotate_left
                              · simp only [Act.put, List.setIfInBounds_toArray, List.set_cons_zero, List.set_cons_succ, i64_w, i32_w]
                                rfl
                              refine pure_ (i := 19) (N := some 67) (v := undef) (a' := ?_) #[true, true, true, true, true, true, true, true, true, true, true, true, true, true, true, true, true, true, true, true, false, false, false, false, false, false, false] rfl rfl (any_of HT_.out (by kernel_rfl)) (fun _ _ _ h => h) (Or.inr ⟨by rfl, rfl⟩) ?_ ?_
                              rotate_left
                              · simp only [Act.put, List.setIfInBounds_toArray, List.set_cons_zero, List.set_cons_succ, i64_w, i32_w]
                                rfl
                              refine pure_ (i := 20) (N := some 68) (v := undef) (a' := ?_) #[true, true, true, true, true, true, true, true, true, true, true, true, true, true, true, true, true, true, true, true, true, false, false, false, false, false, false] rfl rfl (any_of HT_.out (by kernel_rfl)) (fun _ _ _ h => h) (Or.inr ⟨by rfl, rfl⟩) ?_ ?_
                              rotate_left
                              · simp only [Act.put, List.setIfInBounds_toArray, List.set_cons_zero, List.set_cons_succ, i64_w, i32_w]
                                rfl
                              refine pure_ (i := 21) (N := some 69) (v := undef) (a' := ?_) #[true, true, true, true, true, true, true, true, true, true, true, true, true, true, true, true, true, true, true, true, true, true, false, false, false, false, false] rfl rfl (any_of HT_.out (by kernel_rfl)) (fun _ _ _ h => h) (Or.inr ⟨by rfl, rfl⟩) ?_ ?_
                              rotate_left
                              · simp only [Act.put, List.setIfInBounds_toArray, List.set_cons_zero, List.set_cons_succ, i64_w, i32_w]
                                rfl
                              refine pure_ (i := 22) (N := some 70) (v := undef) (a' := ?_) #[true, true, true, true, true, true, true, true, true, true, true, true, true, true, true, true, true, true, true, true, true, true, true, false, false, false, false] rfl rfl (any_of HT_.out (by kernel_rfl)) (fun _ _ _ h => h) (Or.inr ⟨by rfl, rfl⟩) ?_ ?_
                              rotate_left
                              · simp only [Act.put, List.setIfInBounds_toArray, List.set_cons_zero, List.set_cons_succ, i64_w, i32_w]
                                rfl
                              refine pure_ (i := 23) (N := some 71) (v := undef) (a' := ?_) #[true, true, true, true, true, true, true, true, true, true, true, true, true, true, true, true, true, true, true, true, true, true, true, true, false, false, false] rfl rfl (any_of HT_.out (by kernel_rfl)) (fun _ _ _ h => h) (Or.inr ⟨by rfl, rfl⟩) ?_ ?_
                              rotate_left
                              · simp only [Act.put, List.setIfInBounds_toArray, List.set_cons_zero, List.set_cons_succ, i64_w, i32_w]
                                rfl
                              refine pure_ (i := 24) (N := some 72) (v := undef) (a' := ?_) #[true, true, true, true, true, true, true, true, true, true, true, true, true, true, true, true, true, true, true, true, true, true, true, true, true, false, false] rfl rfl (any_of HT_.out (by kernel_rfl)) (fun _ _ _ h => h) (Or.inr ⟨by rfl, rfl⟩) ?_ ?_
                              rotate_left
                              · simp only [Act.put, List.setIfInBounds_toArray, List.set_cons_zero, List.set_cons_succ, i64_w, i32_w]
                                rfl
                              refine pure_ (i := 25) (N := some 73) (v := ?_) (a' := ?_) #[true, true, true, true, true, true, true, true, true, true, true, true, true, true, true, true, true, true, true, true, true, true, true, true, true, true, false] rfl rfl (any_of HT_.out (by kernel_rfl)) (fun _ _ _ h => h) (Or.inl ⟨by rfl, ?_⟩) ?_ ?_
                              rotate_left
                              · intro w'
                                go_simp
                                with_reducible rfl
                              rotate_left
                              · simp only [Act.put, List.setIfInBounds_toArray, List.set_cons_zero, List.set_cons_succ, i64_w, i32_w]
                                rfl
                              refine pure_ (i := 26) (N := some 7) (v := ?_) (a' := ?_) #[true, true, true, true, true, true, true, true, true, true, true, true, true, true, true, true, true, true, true, true, true, true, true, true, true, true, true] rfl rfl (any_of HT_.out (by kernel_rfl)) (fun _ _ _ h => h) (Or.inl ⟨by rfl, ?_⟩) ?_ ?_
                              rotate_left
                              · intro w'
                                go_simp
                                with_reducible rfl
                              rotate_left
                              · simp only [Act.put, List.setIfInBounds_toArray, List.set_cons_zero, List.set_cons_succ, i64_w, i32_w]
                                rfl
                              refine done_ (done_of HT_.out (by kernel_rfl)) ?_
                              try go_wp2
                              go_roundg kj14
                              case measure => have := HK1.out; have := HK2.out; have := HJ14.out; omega
                              case rel => exact ⟨(true), (wrap64 (x8_2 + 1)), (x163000_2), (x163001_2), (x163002_2), (x163003_2), (by first | rfl | (simp; done) | (simp [*]; done)), (by first | rfl | (simp; done) | (simp [*]; done)), H', ⟨by have := HK1.out; have := HK2.out; have := HJ14.out; omega⟩, ⟨by (with_reducible repeat (first | refine blk_drewN ?_ _ | refine blk_drew ?_ | refine blk_alloc ?_ _)); exact BK161.out⟩, ⟨by (with_reducible repeat (first | refine blk_drewN ?_ _ | refine blk_drew ?_ | refine blk_alloc ?_ _)); exact BK162.out⟩, ⟨by repeat (first | (with_reducible first | exact HB.out | apply below_alloc | apply pw_below_drewN | apply below_drew1 | refine below_set ?_ GE161.out | refine below_set ?_ GE162.out) | exact HB.out)⟩⟩
                            · replace c27 := Bool.eq_false_iff.mpr c27
                              subst c27
                              have H1 : (if (wrap64 (x162001_1 - a0_1)) < (t163.size : Int) then (if 0 ≤ (wrap64 (x162001_1 - a0_1)) then (if (wrap64 (x162001_1 - a0_1)) ≤ (t163.size : Int) then (if (t163.extract 0 ((wrap64 (x162001_1 - a0_1)) : Int).toNat).toList = (a0_0.extract (a0_1 : Int).toNat (x162001_1 : Int).toNat).toList then ((betrothalref05_reader_is.f a0_0 x162001_1 a0_2 false (bt t163 (wrap64 (x162001_1 - a0_1)))).bind fun t166 => (betrothalref05_reader_word.l1 kj14 a1 a0_1 t166 (wrap64 (x8_2 + 1)) a0_0 x162001_1 a0_2 false)) else (betrothalref05_reader_word.l1 kj14 a1 a0_1 false (wrap64 (x8_2 + 1)) a0_0 x162001_1 a0_2 false)) else (none)) else (none)) else (betrothalref05_reader_word.l1 kj14 a1 a0_1 false (wrap64 (x8_2 + 1)) a0_0 x162001_1 a0_2 false)) = some (r1, r2, r3, r4, r5) := by rw [if_neg (show ¬ (false = true) by decide)] at H; exact H
                              clear H
                              have H := H1
                              clear H1
                              by_cases c31 : (wrap64 (x162001_1 - a0_1)) < (t163.size : Int)
                              · rw [if_pos c31] at H
                                have c31b0 : decide ((wrap64 (x162001_1 - a0_1)) < (t163.size : Int)) = true := decide_eq_true c31
                                clear c31
                                obtain ⟨ji32, hji32⟩ : ∃ j_ : Int, (wrap64 (x162001_1 - a0_1)) = j_ := ⟨_, rfl⟩
                                replace H : (if 0 ≤ (ji32) then (if (ji32) ≤ (t163.size : Int) then (if (t163.extract 0 ((ji32) : Int).toNat).toList = (a0_0.extract (a0_1 : Int).toNat (x162001_1 : Int).toNat).toList then ((betrothalref05_reader_is.f a0_0 x162001_1 a0_2 false (bt t163 (ji32))).bind fun t166 => (betrothalref05_reader_word.l1 kj14 a1 a0_1 t166 (wrap64 (x8_2 + 1)) a0_0 x162001_1 a0_2 false)) else (betrothalref05_reader_word.l1 kj14 a1 a0_1 false (wrap64 (x8_2 + 1)) a0_0 x162001_1 a0_2 false)) else (none)) else (none)) = some (r1, r2, r3, r4, r5) := by first | (rw [hji32] at H; exact H) | (simp only [hji32] at H ⊢; exact H)
                                (try rw [hji32] at c31b0)
                                have hji32w : (IntKind.i64.wrap (x162001_1 - a0_1)) = ji32 := (i64_w _).trans hji32
                                by_cases c33 : 0 ≤ (ji32)
                                · rw [if_pos c33] at H
                                  have c33b0 := eq_true c33
                                  have c33b1 : decide (0 ≤ (ji32)) = true := decide_eq_true c33
                                  clear c33
                                  by_cases c34 : (ji32) ≤ (t163.size : Int)
                                  · rw [if_pos c34] at H
                                    have c34b0 := eq_true c34
                                    have c34b1 : decide ((ji32) ≤ (t163.size : Int)) = true := decide_eq_true c34
                                    clear c34
                                    have c35b0 := eq_true (of_decide_eq_true (by first | (with_reducible assumption) | assumption) : 0 ≤ a0_1)
                                    have c36b0 := eq_true (of_decide_eq_true (by first | (with_reducible assumption) | assumption) : a0_1 ≤ x162001_1)
                                    have c37b0 := eq_true (of_decide_eq_true (by first | (with_reducible assumption) | assumption) : x162001_1 ≤ (a0_0.size : Int))
                                    by_cases c38 : (t163.extract 0 ((ji32) : Int).toNat).toList = (a0_0.extract (a0_1 : Int).toNat (x162001_1 : Int).toNat).toList
                                    · rw [if_pos c38] at H
                                      have c38b0 : ((t163.extract 0 ((ji32) : Int).toNat).toList == (a0_0.extract (a0_1 : Int).toNat (x162001_1 : Int).toNat).toList) = true := beq_iff_eq.mpr c38
                                      have c38b1 : ((t163.extract 0 ((ji32) : Int).toNat).toList != (a0_0.extract (a0_1 : Int).toNat (x162001_1 : Int).toNat).toList) = false := bne_eq_false_iff_eq.mpr c38
                                      clear c38
                                      replace H := Option.bind_eq_some_iff.mp H
                                      obtain ⟨t166, A400, H⟩ := H
                                      replace H : (betrothalref05_reader_word.l1 kj14 a1 a0_1 t166 (wrap64 (x8_2 + 1)) a0_0 x162001_1 a0_2 false) = some (r1, r2, r3, r4, r5) := H
                                      have A40 := Aside0.mk A400
                                      clear A400
                                      have H' := Aside0.mk H
                                      clear H
                                      have hnb41 := NB161_162.out
                                      have hnc41 := NB162_161.out
                                      have hcz42_0 : wc.cell? ⟨gb161, 0, none⟩ = some (.string a0_0) := (blk_cell BK161.out 0).trans rfl
                                      have hcz42_1 : wc.cell? ⟨gb161, 1, none⟩ = some (.int .i64 x162001_1) := (blk_cell BK161.out 1).trans rfl
                                      have hcz42_2 : wc.cell? ⟨gb161, 2, none⟩ = some (.int .i64 a0_2) := (blk_cell BK161.out 2).trans rfl
                                      have hcz42_3 : wc.cell? ⟨gb161, 3, none⟩ = some (.bool false) := (blk_cell BK161.out 3).trans rfl
                                      have hfz42_0 := blk_frozen BK161.out 0
                                      have hfz42_1 := blk_frozen BK161.out 1
                                      have hfz42_2 := blk_frozen BK161.out 2
                                      have hfz42_3 := blk_frozen BK161.out 3
                                      try go_wp2
                                      have n0_ := Aside0.mk (blk_drew BK161.out)
                                      have n1_ := Aside0.mk (blk_drew BK162.out)
                                      have n2_ := Aside0.mk (below_drew1 HB.out)
                                      clear BK161
                                      clear BK162
                                      clear HB
                                      have BK161 := n0_
                                      have BK162 := n1_
                                      have HB := n2_
                                      clear n0_ n1_ n2_
                                      have p39 : 0 ≤ ((ji32) : Int) := of_decide_eq_true (by first | (with_reducible assumption) | assumption)
                                      have q39 : (ji32) < (t163.size : Int) := of_decide_eq_true (by first | (with_reducible assumption) | assumption)
                                      have hx39 := bt_at t163 (ji32)
                                      replace p39 := eq_true p39
                                      replace q39 := eq_true q39
                                      refine start_ (n := 27) (S := fun w' => w'.cell? ⟨gb161, 0, none⟩ = some (.string a0_0) ∧ w'.cell? ⟨gb161, 1, none⟩ = some (.int .i64 x162001_1) ∧ w'.cell? ⟨gb161, 2, none⟩ = some (.int .i64 a0_2) ∧ w'.cell? ⟨gb161, 3, none⟩ = some (.bool false)) (ds := []) #[false, false, false, false, false, false, false, false, false, false, false, false, false, false, false, false, false, false, false, false, false, false, false, false, false, false, false] (by kernel_rfl) rfl rfl ⟨(blk_cell BK161.out 0).trans rfl, (blk_cell BK161.out 1).trans rfl, (blk_cell BK161.out 2).trans rfl, (blk_cell BK161.out 3).trans rfl⟩ (fun hHeld => ?_); refine with_tabW betrothalref05_reader_word.tab12 betrothalref05_reader_word.bits12 (fun HT_ HW_ => ?_)
                                      generalize wc.drew = w43 at BK161 BK162 HB hHeld ⊢
                                      refine pure_ (i := 0) (N := some 48) (v := ?_) (a' := ?_) #[true, false, false, false, false, false, false, false, false, false, false, false, false, false, false, false, false, false, false, false, false, false, false, false, false, false, false] rfl rfl (any_of HT_.out (by kernel_rfl)) (fun _ _ _ h => h) (Or.inl ⟨by rfl, ?_⟩) ?_ ?_
                                      rotate_left
                                      · intro w'
                                        go_simp
                                        with_reducible rfl
                                      rotate_left
                                      · simp only [Act.put, List.setIfInBounds_toArray, List.set_cons_zero, List.set_cons_succ, i64_w, i32_w]
                                        rfl
                                      refine pure_ (i := 1) (N := some 49) (v := ?_) (a' := ?_) #[true, true, false, false, false, false, false, false, false, false, false, false, false, false, false, false, false, false, false, false, false, false, false, false, false, false, false] rfl rfl (any_of HT_.out (by kernel_rfl)) (fun _ _ _ h => h) (Or.inl ⟨by rfl, ?_⟩) ?_ ?_
                                      rotate_left
                                      · intro w'
                                        go_simp
                                        with_reducible rfl
                                      rotate_left
                                      · simp only [Act.put, List.setIfInBounds_toArray, List.set_cons_zero, List.set_cons_succ, i64_w, i32_w]
                                        rfl
                                      refine pure_ (i := 2) (N := some 50) (v := ?_) (a' := ?_) #[true, true, true, false, false, false, false, false, false, false, false, false, false, false, false, false, false, false, false, false, false, false, false, false, false, false, false] rfl rfl (any_of HT_.out (by kernel_rfl)) (fun _ _ _ h => h) (Or.inl ⟨by rfl, ?_⟩) ?_ ?_
                                      rotate_left
                                      · intro w'
                                        go_simp
                                        with_reducible rfl
                                      rotate_left
                                      · simp only [Act.put, List.setIfInBounds_toArray, List.set_cons_zero, List.set_cons_succ, i64_w, i32_w]
                                        rfl
                                      refine pure_ (i := 3) (N := some 51) (v := ?_) (a' := ?_) #[true, true, true, true, false, false, false, false, false, false, false, false, false, false, false, false, false, false, false, false, false, false, false, false, false, false, false] rfl rfl (any_of HT_.out (by kernel_rfl)) (fun _ _ _ h => h) (Or.inl ⟨by rfl, ?_⟩) ?_ ?_
                                      rotate_left
                                      · intro w'
                                        go_simp
                                        with_reducible rfl
                                      rotate_left
                                      · simp only [Act.put, List.setIfInBounds_toArray, List.set_cons_zero, List.set_cons_succ, i64_w, i32_w]
                                        rfl
                                      refine pure_ (i := 4) (N := some 52) (v := ?_) (a' := ?_) #[true, true, true, true, true, false, false, false, false, false, false, false, false, false, false, false, false, false, false, false, false, false, false, false, false, false, false] rfl rfl (any_of HT_.out (by kernel_rfl)) (fun _ _ _ h => h) (Or.inl ⟨by rfl, ?_⟩) ?_ ?_
                                      rotate_left
                                      · intro w'
                                        go_simp
                                        with_reducible rfl
                                      rotate_left
                                      · simp only [Act.put, List.setIfInBounds_toArray, List.set_cons_zero, List.set_cons_succ, i64_w, i32_w]
                                        rfl
                                      refine pure_ (i := 5) (N := some 53) (v := ?_) (a' := ?_) #[true, true, true, true, true, true, false, false, false, false, false, false, false, false, false, false, false, false, false, false, false, false, false, false, false, false, false] rfl rfl (any_of HT_.out (by kernel_rfl)) (fun _ _ _ h => h) (Or.inl ⟨by rfl, ?_⟩) ?_ ?_
                                      rotate_left
                                      · intro w'
                                        go_simp
                                        with_reducible rfl
                                      rotate_left
                                      · simp only [Act.put, List.setIfInBounds_toArray, List.set_cons_zero, List.set_cons_succ, i64_w, i32_w]
                                        rfl
                                      refine pure_ (i := 6) (N := some 54) (v := ?_) (a' := ?_) #[true, true, true, true, true, true, true, false, false, false, false, false, false, false, false, false, false, false, false, false, false, false, false, false, false, false, false] rfl rfl (any_of HT_.out (by kernel_rfl)) (fun _ _ _ h => h) (Or.inl ⟨by rfl, ?_⟩) ?_ ?_
                                      rotate_left
                                      · intro w'
                                        go_simp
                                        with_reducible rfl
                                      rotate_left
                                      · simp only [Act.put, List.setIfInBounds_toArray, List.set_cons_zero, List.set_cons_succ, i64_w, i32_w]
                                        rfl
                                      refine pure_ (i := 7) (N := some 55) (v := ?_) (a' := ?_) #[true, true, true, true, true, true, true, true, false, false, false, false, false, false, false, false, false, false, false, false, false, false, false, false, false, false, false] rfl rfl (any_of HT_.out (by kernel_rfl)) (fun _ _ _ h => h) (Or.inl ⟨by rfl, ?_⟩) ?_ ?_
                                      rotate_left
                                      · intro w'
                                        go_simp
                                        with_reducible rfl
                                      rotate_left
                                      · simp only [Act.put, List.setIfInBounds_toArray, List.set_cons_zero, List.set_cons_succ, i64_w, i32_w]
                                        rfl
                                      refine pure_ (i := 8) (N := some 56) (v := ?_) (a' := ?_) #[true, true, true, true, true, true, true, true, true, false, false, false, false, false, false, false, false, false, false, false, false, false, false, false, false, false, false] rfl rfl (any_of HT_.out (by kernel_rfl)) (fun _ _ _ h => h) (Or.inl ⟨by rfl, ?_⟩) ?_ ?_
                                      rotate_left
                                      · intro w'
                                        go_simp
                                        with_reducible rfl
                                      rotate_left
                                      · simp only [Act.put, List.setIfInBounds_toArray, List.set_cons_zero, List.set_cons_succ, i64_w, i32_w]
                                        rfl
                                      refine pure_ (i := 9) (N := some 57) (v := ?_) (a' := ?_) #[true, true, true, true, true, true, true, true, true, true, false, false, false, false, false, false, false, false, false, false, false, false, false, false, false, false, false] rfl rfl (any_of HT_.out (by kernel_rfl)) (fun _ _ _ h => h) (Or.inl ⟨by rfl, ?_⟩) ?_ ?_
                                      rotate_left
                                      · intro w'
                                        go_simp
                                        with_reducible rfl
                                      rotate_left
                                      · simp only [Act.put, List.setIfInBounds_toArray, List.set_cons_zero, List.set_cons_succ, i64_w, i32_w]
                                        rfl
                                      refine pure_ (i := 10) (N := some 58) (v := ?_) (a' := ?_) #[true, true, true, true, true, true, true, true, true, true, true, false, false, false, false, false, false, false, false, false, false, false, false, false, false, false, false] rfl rfl (any_of HT_.out (by kernel_rfl)) (fun _ _ _ h => h) (Or.inl ⟨by rfl, ?_⟩) ?_ ?_
                                      rotate_left
                                      · intro w'
                                        go_simp
                                        with_reducible rfl
                                      rotate_left
                                      · simp only [Act.put, List.setIfInBounds_toArray, List.set_cons_zero, List.set_cons_succ, i64_w, i32_w]
                                        rfl
                                      refine pure_ (i := 12) (N := some 60) (v := ?_) (a' := ?_) #[true, true, true, true, true, true, true, true, true, true, true, false, true, false, false, false, false, false, false, false, false, false, false, false, false, false, false] rfl rfl (any_of HT_.out (by kernel_rfl)) (fun _ _ _ h => h) (Or.inl ⟨by rfl, ?_⟩) ?_ ?_
                                      rotate_left
                                      · intro w'
                                        go_simp
                                        with_reducible rfl
                                      rotate_left
                                      · simp only [Act.put, List.setIfInBounds_toArray, List.set_cons_zero, List.set_cons_succ, i64_w, i32_w]
                                        rfl
                                      refine pure_ (i := 13) (N := some 61) (v := ?_) (a' := ?_) #[true, true, true, true, true, true, true, true, true, true, true, false, true, true, false, false, false, false, false, false, false, false, false, false, false, false, false] rfl rfl (any_of HT_.out (by kernel_rfl)) (fun _ _ _ h => h) (Or.inl ⟨by rfl, ?_⟩) ?_ ?_
                                      rotate_left
                                      · intro w'
                                        go_simp
                                        with_reducible rfl
                                      rotate_left
                                      · simp only [Act.put, List.setIfInBounds_toArray, List.set_cons_zero, List.set_cons_succ, i64_w, i32_w]
                                        rfl
                                      refine take_ (i := 11) (N := some 59) (v := ?_) (a' := ?_) #[true, true, true, true, true, true, true, true, true, true, true, true, true, true, false, false, false, false, false, false, false, false, false, false, false, false, false] rfl rfl (take_ofW HT_.out HW_.out (by kernel_rfl)) (fun _ _ _ h => h) (Or.inl ⟨by rfl, ?_⟩) hHeld ?_ ?_
                                      rotate_left
                                      · rintro w' ⟨s0, s1, s2, s3⟩
                                        go_simp
                                        with_reducible rfl
                                      rotate_left
                                      · simp only [Act.put, List.setIfInBounds_toArray, List.set_cons_zero, List.set_cons_succ, i64_w, i32_w]
                                        rfl
                                      refine take_ (i := 14) (N := some 62) (v := ?_) (a' := ?_) #[true, true, true, true, true, true, true, true, true, true, true, true, true, true, true, false, false, false, false, false, false, false, false, false, false, false, false] rfl rfl (take_ofW HT_.out HW_.out (by kernel_rfl)) (fun _ _ _ h => h) (Or.inl ⟨by rfl, ?_⟩) hHeld ?_ ?_
                                      rotate_left
                                      · rintro w' ⟨s0, s1, s2, s3⟩
                                        go_simp
                                        with_reducible rfl
                                      rotate_left
                                      · simp only [Act.put, List.setIfInBounds_toArray, List.set_cons_zero, List.set_cons_succ, i64_w, i32_w]
                                        rfl
                                      refine pure_ (i := 15) (N := some 63) (v := ?_) (a' := ?_) #[true, true, true, true, true, true, true, true, true, true, true, true, true, true, true, true, false, false, false, false, false, false, false, false, false, false, false] rfl rfl (any_of HT_.out (by kernel_rfl)) (fun _ _ _ h => h) (Or.inl ⟨by rfl, ?_⟩) ?_ ?_
                                      rotate_left
                                      · intro w'
                                        go_simp
                                        with_reducible rfl
                                      rotate_left
                                      · simp only [Act.put, List.setIfInBounds_toArray, List.set_cons_zero, List.set_cons_succ, i64_w, i32_w]
                                        rfl
                                      refine pure_ (i := 16) (N := some 64) (v := ?_) (a' := ?_) #[true, true, true, true, true, true, true, true, true, true, true, true, true, true, true, true, true, false, false, false, false, false, false, false, false, false, false] rfl rfl (any_of HT_.out (by kernel_rfl)) (fun _ _ _ h => h) (Or.inl ⟨by rfl, ?_⟩) ?_ ?_
                                      rotate_left
                                      · intro w'
                                        go_simp
                                        with_reducible rfl
                                      rotate_left
                                      · simp only [Act.put, List.setIfInBounds_toArray, List.set_cons_zero, List.set_cons_succ, i64_w, i32_w]
                                        rfl
                                      refine pure_ (i := 17) (N := some 65) (v := ?_) (a' := ?_) #[true, true, true, true, true, true, true, true, true, true, true, true, true, true, true, true, true, true, false, false, false, false, false, false, false, false, false] rfl rfl (any_of HT_.out (by kernel_rfl)) (fun _ _ _ h => h) (Or.inl ⟨by rfl, ?_⟩) ?_ ?_
                                      rotate_left
                                      · intro w'
                                        go_simp
                                        with_reducible rfl
                                      rotate_left
                                      · simp only [Act.put, List.setIfInBounds_toArray, List.set_cons_zero, List.set_cons_succ, i64_w, i32_w]
                                        rfl
                                      refine pure_ (i := 18) (N := some 66) (v := ?_) (a' := ?_) #[true, true, true, true, true, true, true, true, true, true, true, true, true, true, true, true, true, true, true, false, false, false, false, false, false, false, false] rfl rfl (any_of HT_.out (by kernel_rfl)) (fun _ _ _ h => h) (Or.inl ⟨by rfl, ?_⟩) ?_ ?_
                                      rotate_left
                                      · intro w'
                                        go_simp
                                        with_reducible rfl
                                      rotate_left
                                      · simp only [Act.put, List.setIfInBounds_toArray, List.set_cons_zero, List.set_cons_succ, i64_w, i32_w]
                                        rfl
                                      refine pure_ (i := 20) (N := some 68) (v := ?_) (a' := ?_) #[true, true, true, true, true, true, true, true, true, true, true, true, true, true, true, true, true, true, true, false, true, false, false, false, false, false, false] rfl rfl (any_of HT_.out (by kernel_rfl)) (fun _ _ _ h => h) (Or.inl ⟨by rfl, ?_⟩) ?_ ?_
                                      rotate_left
                                      · intro w'
                                        go_simp
                                        with_reducible rfl
                                      rotate_left
                                      · simp only [Act.put, List.setIfInBounds_toArray, List.set_cons_zero, List.set_cons_succ, i64_w, i32_w]
                                        rfl
                                      refine pure_ (i := 21) (N := some 69) (v := ?_) (a' := ?_) #[true, true, true, true, true, true, true, true, true, true, true, true, true, true, true, true, true, true, true, false, true, true, false, false, false, false, false] rfl rfl (any_of HT_.out (by kernel_rfl)) (fun _ _ _ h => h) (Or.inl ⟨by rfl, ?_⟩) ?_ ?_
                                      rotate_left
                                      · intro w'
                                        go_simp
                                        with_reducible rfl
                                      rotate_left
                                      · simp only [Act.put, List.setIfInBounds_toArray, List.set_cons_zero, List.set_cons_succ, i64_w, i32_w]
                                        rfl
                                      refine take_ (i := 19) (N := some 67) (v := ?_) (a' := ?_) #[true, true, true, true, true, true, true, true, true, true, true, true, true, true, true, true, true, true, true, true, true, true, false, false, false, false, false] rfl rfl (take_ofW HT_.out HW_.out (by kernel_rfl)) (fun _ _ _ h => h) (Or.inl ⟨by rfl, ?_⟩) hHeld ?_ ?_
                                      rotate_left
                                      · rintro w' ⟨s0, s1, s2, s3⟩
                                        go_simp
                                        with_reducible rfl
                                      rotate_left
                                      · simp only [Act.put, List.setIfInBounds_toArray, List.set_cons_zero, List.set_cons_succ, i64_w, i32_w]
                                        rfl
                                      refine take_ (i := 22) (N := some 70) (v := ?_) (a' := ?_) #[true, true, true, true, true, true, true, true, true, true, true, true, true, true, true, true, true, true, true, true, true, true, true, false, false, false, false] rfl rfl (take_ofW HT_.out HW_.out (by kernel_rfl)) (fun _ _ _ h => h) (Or.inl ⟨by rfl, ?_⟩) hHeld ?_ ?_
                                      rotate_left
                                      · rintro w' ⟨s0, s1, s2, s3⟩
                                        go_simp
                                        with_reducible rfl
                                      rotate_left
                                      · simp only [Act.put, List.setIfInBounds_toArray, List.set_cons_zero, List.set_cons_succ, i64_w, i32_w]
                                        rfl
                                      refine one_ (i := 23) (N := some 71) #[true, true, true, true, true, true, true, true, true, true, true, true, true, true, true, true, true, true, true, true, true, true, true, true, false, false, false] rfl rfl (one_of HT_.out (by kernel_rfl)) (by decide) (fun K hK => ?_)
                                      refine goes_ Tryd.func56 (by kernel_rfl) rfl #[.agg #[.string a0_0, .int .i64 x162001_1, .int .i64 a0_2, .bool false], .int .u8 (bt t163 (ji32))] (by rfl) rfl rfl (by (try simp only [List.map_toArray, List.map_cons, List.map_nil]); first | done | (simp only [hji32]; rfl) | rfl | (simp only [List.length_drop, List.length_take]; rfl)) ?_
                                      with_reducible refine (betrothalref05_reader_is.calls a0_0 x162001_1 a0_2 false (bt t163 (ji32)) t166 _ A40.out).mono ?_
                                      rintro e w44 ⟨rfl, hb⟩
                                      refine ⟨_, rfl, ?_⟩
                                      have n0_ := Aside0.mk (blk_below (g := gb161) (o := .cells #[.string a0_0, .int .i64 x162001_1, .int .i64 a0_2, .bool false] 71 (0, 0)) (by (with_reducible repeat (first | refine blk_drewN ?_ _ | refine blk_drew ?_ | refine blk_alloc ?_ _)); exact BK161.out) hb)
                                      have n1_ := Aside0.mk (blk_below (g := gb162) (o := .cells #[.string x163000_2, .int .i64 x163001_2, .int .i64 x163002_2, .bool x163003_2] 71 (0, 0)) (by (with_reducible repeat (first | refine blk_drewN ?_ _ | refine blk_drew ?_ | refine blk_alloc ?_ _)); exact BK162.out) hb)
                                      have n2_ := Aside0.mk (below_step (by repeat (first | (with_reducible first | exact HB.out | apply below_alloc | apply pw_below_drewN | apply below_drew1 | refine below_set ?_ GE161.out | refine below_set ?_ GE162.out) | exact HB.out)) hb)
                                      clear BK161
                                      clear BK162
                                      clear HB
                                      have BK161 := n0_
                                      have BK162 := n1_
                                      have HB := n2_
                                      clear n0_ n1_ n2_
                                      (try clear hb)
                                      (try clear hb2)
                                      (try clear hk)
                                      (try clear hi)
                                      refine hK.out _ _ ⟨(blk_cell BK161.out 0).trans rfl, (blk_cell BK161.out 1).trans rfl, (blk_cell BK161.out 2).trans rfl, (blk_cell BK161.out 3).trans rfl⟩ (fun hHeld => ?_)
                                      clear hK K
                                      refine norm_ (a' := ?_) ?_ ?_
                                      rotate_left
                                      · show Act.put _ (some 71) _ = _
                                        simp only [Act.put, List.setIfInBounds_toArray, List.set_cons_zero, List.set_cons_succ, i64_w, i32_w]
                                        rfl
                                      refine pure_ (i := 24) (N := some 72) (v := ?_) (a' := ?_) #[true, true, true, true, true, true, true, true, true, true, true, true, true, true, true, true, true, true, true, true, true, true, true, true, true, false, false] rfl rfl (any_of HT_.out (by kernel_rfl)) (fun _ _ _ h => h) (Or.inl ⟨by rfl, ?_⟩) ?_ ?_
                                      rotate_left
                                      · intro w'
                                        go_simp
                                        with_reducible rfl
                                      rotate_left
                                      · simp only [Act.put, List.setIfInBounds_toArray, List.set_cons_zero, List.set_cons_succ, i64_w, i32_w]
                                        rfl
                                      refine pure_ (i := 25) (N := some 73) (v := ?_) (a' := ?_) #[true, true, true, true, true, true, true, true, true, true, true, true, true, true, true, true, true, true, true, true, true, true, true, true, true, true, false] rfl rfl (any_of HT_.out (by kernel_rfl)) (fun _ _ _ h => h) (Or.inl ⟨by rfl, ?_⟩) ?_ ?_
                                      rotate_left
                                      · intro w'
                                        go_simp
                                        with_reducible rfl
                                      rotate_left
                                      · simp only [Act.put, List.setIfInBounds_toArray, List.set_cons_zero, List.set_cons_succ, i64_w, i32_w]
                                        rfl
                                      refine pure_ (i := 26) (N := some 7) (v := ?_) (a' := ?_) #[true, true, true, true, true, true, true, true, true, true, true, true, true, true, true, true, true, true, true, true, true, true, true, true, true, true, true] rfl rfl (any_of HT_.out (by kernel_rfl)) (fun _ _ _ h => h) (Or.inl ⟨by rfl, ?_⟩) ?_ ?_
                                      rotate_left
                                      · intro w'
                                        go_simp
                                        with_reducible rfl
                                      rotate_left
                                      · simp only [Act.put, List.setIfInBounds_toArray, List.set_cons_zero, List.set_cons_succ, i64_w, i32_w]
                                        rfl
                                      refine done_ (done_of HT_.out (by kernel_rfl)) ?_
                                      try go_wp2
                                      go_roundg kj14
                                      case measure => have := HK1.out; have := HK2.out; have := HJ14.out; omega
                                      case rel => exact ⟨(t166), (wrap64 (x8_2 + 1)), (x163000_2), (x163001_2), (x163002_2), (x163003_2), (by first | rfl | (simp; done) | (simp [*]; done)), (by first | rfl | (simp; done) | (simp [*]; done)), H', ⟨by have := HK1.out; have := HK2.out; have := HJ14.out; omega⟩, ⟨by (with_reducible repeat (first | refine blk_drewN ?_ _ | refine blk_drew ?_ | refine blk_alloc ?_ _)); exact BK161.out⟩, ⟨by (with_reducible repeat (first | refine blk_drewN ?_ _ | refine blk_drew ?_ | refine blk_alloc ?_ _)); exact BK162.out⟩, ⟨by repeat (first | (with_reducible first | exact HB.out | apply below_alloc | apply pw_below_drewN | apply below_drew1 | refine below_set ?_ GE161.out | refine below_set ?_ GE162.out) | exact HB.out)⟩⟩
                                    · rw [if_neg c38] at H
                                      have c38b0 : ((t163.extract 0 ((ji32) : Int).toNat).toList == (a0_0.extract (a0_1 : Int).toNat (x162001_1 : Int).toNat).toList) = false := beq_eq_false_iff_ne.mpr c38
                                      have c38b1 : ((t163.extract 0 ((ji32) : Int).toNat).toList != (a0_0.extract (a0_1 : Int).toNat (x162001_1 : Int).toNat).toList) = true := bne_iff_ne.mpr c38
                                      have H' := Aside0.mk H
                                      clear H
                                      have hnb45 := NB161_162.out
                                      have hnc45 := NB162_161.out
                                      have hcz46_0 : wc.cell? ⟨gb161, 0, none⟩ = some (.string a0_0) := (blk_cell BK161.out 0).trans rfl
                                      have hcz46_1 : wc.cell? ⟨gb161, 1, none⟩ = some (.int .i64 x162001_1) := (blk_cell BK161.out 1).trans rfl
                                      have hcz46_2 : wc.cell? ⟨gb161, 2, none⟩ = some (.int .i64 a0_2) := (blk_cell BK161.out 2).trans rfl
                                      have hcz46_3 : wc.cell? ⟨gb161, 3, none⟩ = some (.bool false) := (blk_cell BK161.out 3).trans rfl
                                      have hfz46_0 := blk_frozen BK161.out 0
                                      have hfz46_1 := blk_frozen BK161.out 1
                                      have hfz46_2 := blk_frozen BK161.out 2
                                      have hfz46_3 := blk_frozen BK161.out 3
                                      try go_wp2
                                      have n0_ := Aside0.mk (blk_drew BK161.out)
                                      have n1_ := Aside0.mk (blk_drew BK162.out)
                                      have n2_ := Aside0.mk (below_drew1 HB.out)
                                      clear BK161
                                      clear BK162
                                      clear HB
                                      have BK161 := n0_
                                      have BK162 := n1_
                                      have HB := n2_
                                      clear n0_ n1_ n2_
                                      refine start_ (n := 27) (S := fun w' => w'.cell? ⟨gb161, 0, none⟩ = some (.string a0_0) ∧ w'.cell? ⟨gb161, 1, none⟩ = some (.int .i64 x162001_1) ∧ w'.cell? ⟨gb161, 2, none⟩ = some (.int .i64 a0_2) ∧ w'.cell? ⟨gb161, 3, none⟩ = some (.bool false)) (ds := []) #[false, false, false, false, false, false, false, false, false, false, false, false, false, false, false, false, false, false, false, false, false, false, false, false, false, false, false] (by kernel_rfl) rfl rfl ⟨(blk_cell BK161.out 0).trans rfl, (blk_cell BK161.out 1).trans rfl, (blk_cell BK161.out 2).trans rfl, (blk_cell BK161.out 3).trans rfl⟩ (fun hHeld => ?_); refine with_tabW betrothalref05_reader_word.tab12 betrothalref05_reader_word.bits12 (fun HT_ HW_ => ?_)
                                      generalize wc.drew = w47 at BK161 BK162 HB hHeld ⊢
                                      refine pure_ (i := 0) (N := some 48) (v := ?_) (a' := ?_) #[true, false, false, false, false, false, false, false, false, false, false, false, false, false, false, false, false, false, false, false, false, false, false, false, false, false, false] rfl rfl (any_of HT_.out (by kernel_rfl)) (fun _ _ _ h => h) (Or.inl ⟨by rfl, ?_⟩) ?_ ?_
                                      rotate_left
                                      · intro w'
                                        go_simp
                                        with_reducible rfl
                                      rotate_left
                                      · simp only [Act.put, List.setIfInBounds_toArray, List.set_cons_zero, List.set_cons_succ, i64_w, i32_w]
                                        rfl
                                      refine pure_ (i := 1) (N := some 49) (v := ?_) (a' := ?_) #[true, true, false, false, false, false, false, false, false, false, false, false, false, false, false, false, false, false, false, false, false, false, false, false, false, false, false] rfl rfl (any_of HT_.out (by kernel_rfl)) (fun _ _ _ h => h) (Or.inl ⟨by rfl, ?_⟩) ?_ ?_
                                      rotate_left
                                      · intro w'
                                        go_simp
                                        with_reducible rfl
                                      rotate_left
                                      · simp only [Act.put, List.setIfInBounds_toArray, List.set_cons_zero, List.set_cons_succ, i64_w, i32_w]
                                        rfl
                                      refine pure_ (i := 2) (N := some 50) (v := ?_) (a' := ?_) #[true, true, true, false, false, false, false, false, false, false, false, false, false, false, false, false, false, false, false, false, false, false, false, false, false, false, false] rfl rfl (any_of HT_.out (by kernel_rfl)) (fun _ _ _ h => h) (Or.inl ⟨by rfl, ?_⟩) ?_ ?_
                                      rotate_left
                                      · intro w'
                                        go_simp
                                        with_reducible rfl
                                      rotate_left
                                      · simp only [Act.put, List.setIfInBounds_toArray, List.set_cons_zero, List.set_cons_succ, i64_w, i32_w]
                                        rfl
                                      refine pure_ (i := 3) (N := some 51) (v := ?_) (a' := ?_) #[true, true, true, true, false, false, false, false, false, false, false, false, false, false, false, false, false, false, false, false, false, false, false, false, false, false, false] rfl rfl (any_of HT_.out (by kernel_rfl)) (fun _ _ _ h => h) (Or.inl ⟨by rfl, ?_⟩) ?_ ?_
                                      rotate_left
                                      · intro w'
                                        go_simp
                                        with_reducible rfl
                                      rotate_left
                                      · simp only [Act.put, List.setIfInBounds_toArray, List.set_cons_zero, List.set_cons_succ, i64_w, i32_w]
                                        rfl
                                      refine pure_ (i := 4) (N := some 52) (v := ?_) (a' := ?_) #[true, true, true, true, true, false, false, false, false, false, false, false, false, false, false, false, false, false, false, false, false, false, false, false, false, false, false] rfl rfl (any_of HT_.out (by kernel_rfl)) (fun _ _ _ h => h) (Or.inl ⟨by rfl, ?_⟩) ?_ ?_
                                      rotate_left
                                      · intro w'
                                        go_simp
                                        with_reducible rfl
                                      rotate_left
                                      · simp only [Act.put, List.setIfInBounds_toArray, List.set_cons_zero, List.set_cons_succ, i64_w, i32_w]
                                        rfl
                                      refine pure_ (i := 5) (N := some 53) (v := ?_) (a' := ?_) #[true, true, true, true, true, true, false, false, false, false, false, false, false, false, false, false, false, false, false, false, false, false, false, false, false, false, false] rfl rfl (any_of HT_.out (by kernel_rfl)) (fun _ _ _ h => h) (Or.inl ⟨by rfl, ?_⟩) ?_ ?_
                                      rotate_left
                                      · intro w'
                                        go_simp
                                        with_reducible rfl
                                      rotate_left
                                      · simp only [Act.put, List.setIfInBounds_toArray, List.set_cons_zero, List.set_cons_succ, i64_w, i32_w]
                                        rfl
                                      refine pure_ (i := 6) (N := some 54) (v := ?_) (a' := ?_) #[true, true, true, true, true, true, true, false, false, false, false, false, false, false, false, false, false, false, false, false, false, false, false, false, false, false, false] rfl rfl (any_of HT_.out (by kernel_rfl)) (fun _ _ _ h => h) (Or.inl ⟨by rfl, ?_⟩) ?_ ?_
                                      rotate_left
                                      · intro w'
                                        go_simp
                                        with_reducible rfl
                                      rotate_left
                                      · simp only [Act.put, List.setIfInBounds_toArray, List.set_cons_zero, List.set_cons_succ, i64_w, i32_w]
                                        rfl
                                      refine pure_ (i := 7) (N := some 55) (v := ?_) (a' := ?_) #[true, true, true, true, true, true, true, true, false, false, false, false, false, false, false, false, false, false, false, false, false, false, false, false, false, false, false] rfl rfl (any_of HT_.out (by kernel_rfl)) (fun _ _ _ h => h) (Or.inl ⟨by rfl, ?_⟩) ?_ ?_
                                      rotate_left
                                      · intro w'
                                        go_simp
                                        with_reducible rfl
                                      rotate_left
                                      · simp only [Act.put, List.setIfInBounds_toArray, List.set_cons_zero, List.set_cons_succ, i64_w, i32_w]
                                        rfl
                                      refine pure_ (i := 8) (N := some 56) (v := ?_) (a' := ?_) #[true, true, true, true, true, true, true, true, true, false, false, false, false, false, false, false, false, false, false, false, false, false, false, false, false, false, false] rfl rfl (any_of HT_.out (by kernel_rfl)) (fun _ _ _ h => h) (Or.inl ⟨by rfl, ?_⟩) ?_ ?_
                                      rotate_left
                                      · intro w'
                                        go_simp
                                        with_reducible rfl
                                      rotate_left
                                      · simp only [Act.put, List.setIfInBounds_toArray, List.set_cons_zero, List.set_cons_succ, i64_w, i32_w]
                                        rfl
                                      refine pure_ (i := 9) (N := some 57) (v := ?_) (a' := ?_) #[true, true, true, true, true, true, true, true, true, true, false, false, false, false, false, false, false, false, false, false, false, false, false, false, false, false, false] rfl rfl (any_of HT_.out (by kernel_rfl)) (fun _ _ _ h => h) (Or.inl ⟨by rfl, ?_⟩) ?_ ?_
                                      rotate_left
                                      · intro w'
                                        go_simp
                                        with_reducible rfl
                                      rotate_left
                                      · simp only [Act.put, List.setIfInBounds_toArray, List.set_cons_zero, List.set_cons_succ, i64_w, i32_w]
                                        rfl
                                      refine pure_ (i := 10) (N := some 58) (v := ?_) (a' := ?_) #[true, true, true, true, true, true, true, true, true, true, true, false, false, false, false, false, false, false, false, false, false, false, false, false, false, false, false] rfl rfl (any_of HT_.out (by kernel_rfl)) (fun _ _ _ h => h) (Or.inl ⟨by rfl, ?_⟩) ?_ ?_
                                      rotate_left
                                      · intro w'
                                        go_simp
                                        with_reducible rfl
                                      rotate_left
                                      · simp only [Act.put, List.setIfInBounds_toArray, List.set_cons_zero, List.set_cons_succ, i64_w, i32_w]
                                        rfl
                                      refine pure_ (i := 12) (N := some 60) (v := ?_) (a' := ?_) #[true, true, true, true, true, true, true, true, true, true, true, false, true, false, false, false, false, false, false, false, false, false, false, false, false, false, false] rfl rfl (any_of HT_.out (by kernel_rfl)) (fun _ _ _ h => h) (Or.inl ⟨by rfl, ?_⟩) ?_ ?_
                                      rotate_left
                                      · intro w'
                                        go_simp
                                        with_reducible rfl
                                      rotate_left
                                      · simp only [Act.put, List.setIfInBounds_toArray, List.set_cons_zero, List.set_cons_succ, i64_w, i32_w]
                                        rfl
                                      refine pure_ (i := 13) (N := some 61) (v := ?_) (a' := ?_) #[true, true, true, true, true, true, true, true, true, true, true, false, true, true, false, false, false, false, false, false, false, false, false, false, false, false, false] rfl rfl (any_of HT_.out (by kernel_rfl)) (fun _ _ _ h => h) (Or.inl ⟨by rfl, ?_⟩) ?_ ?_
                                      rotate_left
                                      · intro w'
                                        go_simp
                                        with_reducible rfl
                                      rotate_left
                                      · simp only [Act.put, List.setIfInBounds_toArray, List.set_cons_zero, List.set_cons_succ, i64_w, i32_w]
                                        rfl
                                      refine take_ (i := 11) (N := some 59) (v := ?_) (a' := ?_) #[true, true, true, true, true, true, true, true, true, true, true, true, true, true, false, false, false, false, false, false, false, false, false, false, false, false, false] rfl rfl (take_ofW HT_.out HW_.out (by kernel_rfl)) (fun _ _ _ h => h) (Or.inl ⟨by rfl, ?_⟩) hHeld ?_ ?_
                                      rotate_left
                                      · rintro w' ⟨s0, s1, s2, s3⟩
                                        go_simp
                                        with_reducible rfl
                                      rotate_left
                                      · simp only [Act.put, List.setIfInBounds_toArray, List.set_cons_zero, List.set_cons_succ, i64_w, i32_w]
                                        rfl
                                      refine take_ (i := 14) (N := some 62) (v := ?_) (a' := ?_) #[true, true, true, true, true, true, true, true, true, true, true, true, true, true, true, false, false, false, false, false, false, false, false, false, false, false, false] rfl rfl (take_ofW HT_.out HW_.out (by kernel_rfl)) (fun _ _ _ h => h) (Or.inl ⟨by rfl, ?_⟩) hHeld ?_ ?_
                                      rotate_left
                                      · rintro w' ⟨s0, s1, s2, s3⟩
                                        go_simp
                                        with_reducible rfl
                                      rotate_left
                                      · simp only [Act.put, List.setIfInBounds_toArray, List.set_cons_zero, List.set_cons_succ, i64_w, i32_w]
                                        rfl
                                      refine pure_ (i := 15) (N := some 63) (v := ?_) (a' := ?_) #[true, true, true, true, true, true, true, true, true, true, true, true, true, true, true, true, false, false, false, false, false, false, false, false, false, false, false] rfl rfl (any_of HT_.out (by kernel_rfl)) (fun _ _ _ h => h) (Or.inl ⟨by rfl, ?_⟩) ?_ ?_
                                      rotate_left
                                      · intro w'
                                        go_simp
                                        with_reducible rfl
                                      rotate_left
                                      · simp only [Act.put, List.setIfInBounds_toArray, List.set_cons_zero, List.set_cons_succ, i64_w, i32_w]
                                        rfl
                                      refine pure_ (i := 16) (N := some 64) (v := ?_) (a' := ?_) #[true, true, true, true, true, true, true, true, true, true, true, true, true, true, true, true, true, false, false, false, false, false, false, false, false, false, false] rfl rfl (any_of HT_.out (by kernel_rfl)) (fun _ _ _ h => h) (Or.inl ⟨by rfl, ?_⟩) ?_ ?_
                                      rotate_left
                                      · intro w'
                                        go_simp
                                        with_reducible rfl
                                      rotate_left
                                      · simp only [Act.put, List.setIfInBounds_toArray, List.set_cons_zero, List.set_cons_succ, i64_w, i32_w]
                                        rfl
                                      refine pure_ (i := 17) (N := some 65) (v := ?_) (a' := ?_) #[true, true, true, true, true, true, true, true, true, true, true, true, true, true, true, true, true, true, false, false, false, false, false, false, false, false, false] rfl rfl (any_of HT_.out (by kernel_rfl)) (fun _ _ _ h => h) (Or.inl ⟨by rfl, ?_⟩) ?_ ?_
                                      rotate_left
                                      · intro w'
                                        go_simp
                                        with_reducible rfl
                                      rotate_left
                                      · simp only [Act.put, List.setIfInBounds_toArray, List.set_cons_zero, List.set_cons_succ, i64_w, i32_w]
                                        rfl
                                      refine pure_ (i := 18) (N := some 66) (v := ?_) (a' := ?_) #[true, true, true, true, true, true, true, true, true, true, true, true, true, true, true, true, true, true, true, false, false, false, false, false, false, false, false] rfl rfl (any_of HT_.out (by kernel_rfl)) (fun _ _ _ h => h) (Or.inl ⟨by rfl, ?_⟩) ?_ ?_
                                      rotate_left
                                      · intro w'
                                        go_simp
                                        with_reducible rfl
                                      rotate_left
                                      · simp only [Act.put, List.setIfInBounds_toArray, List.set_cons_zero, List.set_cons_succ, i64_w, i32_w]
                                        rfl
                                      refine pure_ (i := 19) (N := some 67) (v := undef) (a' := ?_) #[true, true, true, true, true, true, true, true, true, true, true, true, true, true, true, true, true, true, true, true, false, false, false, false, false, false, false] rfl rfl (any_of HT_.out (by kernel_rfl)) (fun _ _ _ h => h) (Or.inr ⟨by rfl, rfl⟩) ?_ ?_
                                      rotate_left
                                      · simp only [Act.put, List.setIfInBounds_toArray, List.set_cons_zero, List.set_cons_succ, i64_w, i32_w]
                                        rfl
                                      refine pure_ (i := 20) (N := some 68) (v := undef) (a' := ?_) #[true, true, true, true, true, true, true, true, true, true, true, true, true, true, true, true, true, true, true, true, true, false, false, false, false, false, false] rfl rfl (any_of HT_.out (by kernel_rfl)) (fun _ _ _ h => h) (Or.inr ⟨by rfl, rfl⟩) ?_ ?_
                                      rotate_left
                                      · simp only [Act.put, List.setIfInBounds_toArray, List.set_cons_zero, List.set_cons_succ, i64_w, i32_w]
                                        rfl
                                      refine pure_ (i := 21) (N := some 69) (v := undef) (a' := ?_) #[true, true, true, true, true, true, true, true, true, true, true, true, true, true, true, true, true, true, true, true, true, true, false, false, false, false, false] rfl rfl (any_of HT_.out (by kernel_rfl)) (fun _ _ _ h => h) (Or.inr ⟨by rfl, rfl⟩) ?_ ?_
                                      rotate_left
                                      · simp only [Act.put, List.setIfInBounds_toArray, List.set_cons_zero, List.set_cons_succ, i64_w, i32_w]
                                        rfl
                                      refine pure_ (i := 22) (N := some 70) (v := undef) (a' := ?_) #[true, true, true, true, true, true, true, true, true, true, true, true, true, true, true, true, true, true, true, true, true, true, true, false, false, false, false] rfl rfl (any_of HT_.out (by kernel_rfl)) (fun _ _ _ h => h) (Or.inr ⟨by rfl, rfl⟩) ?_ ?_
                                      rotate_left
                                      · simp only [Act.put, List.setIfInBounds_toArray, List.set_cons_zero, List.set_cons_succ, i64_w, i32_w]
                                        rfl
                                      refine pure_ (i := 23) (N := some 71) (v := undef) (a' := ?_) #[true, true, true, true, true, true, true, true, true, true, true, true, true, true, true, true, true, true, true, true, true, true, true, true, false, false, false] rfl rfl (any_of HT_.out (by kernel_rfl)) (fun _ _ _ h => h) (Or.inr ⟨by rfl, rfl⟩) ?_ ?_
                                      rotate_left
                                      · simp only [Act.put, List.setIfInBounds_toArray, List.set_cons_zero, List.set_cons_succ, i64_w, i32_w]
                                        rfl
                                      refine pure_ (i := 24) (N := some 72) (v := ?_) (a' := ?_) #[true, true, true, true, true, true, true, true, true, true, true, true, true, true, true, true, true, true, true, true, true, true, true, true, true, false, false] rfl rfl (any_of HT_.out (by kernel_rfl)) (fun _ _ _ h => h) (Or.inl ⟨by rfl, ?_⟩) ?_ ?_
                                      rotate_left
                                      · intro w'
                                        go_simp
                                        with_reducible rfl
                                      rotate_left
                                      · simp only [Act.put, List.setIfInBounds_toArray, List.set_cons_zero, List.set_cons_succ, i64_w, i32_w]
                                        rfl
                                      refine pure_ (i := 25) (N := some 73) (v := ?_) (a' := ?_) #[true, true, true, true, true, true, true, true, true, true, true, true, true, true, true, true, true, true, true, true, true, true, true, true, true, true, false] rfl rfl (any_of HT_.out (by kernel_rfl)) (fun _ _ _ h => h) (Or.inl ⟨by rfl, ?_⟩) ?_ ?_
                                      rotate_left
                                      · intro w'
                                        go_simp
                                        with_reducible rfl
                                      rotate_left
                                      · simp only [Act.put, List.setIfInBounds_toArray, List.set_cons_zero, List.set_cons_succ, i64_w, i32_w]
                                        rfl
                                      refine pure_ (i := 26) (N := some 7) (v := ?_) (a' := ?_) #[true, true, true, true, true, true, true, true, true, true, true, true, true, true, true, true, true, true, true, true, true, true, true, true, true, true, true] rfl rfl (any_of HT_.out (by kernel_rfl)) (fun _ _ _ h => h) (Or.inl ⟨by rfl, ?_⟩) ?_ ?_
                                      rotate_left
                                      · intro w'
                                        go_simp
                                        with_reducible rfl
                                      rotate_left
                                      · simp only [Act.put, List.setIfInBounds_toArray, List.set_cons_zero, List.set_cons_succ, i64_w, i32_w]
                                        rfl
                                      refine done_ (done_of HT_.out (by kernel_rfl)) ?_
                                      try go_wp2
                                      go_roundg kj14
                                      case measure => have := HK1.out; have := HK2.out; have := HJ14.out; omega
                                      case rel => exact ⟨(false), (wrap64 (x8_2 + 1)), (x163000_2), (x163001_2), (x163002_2), (x163003_2), (by first | rfl | (simp; done) | (simp [*]; done)), (by first | rfl | (simp; done) | (simp [*]; done)), H', ⟨by have := HK1.out; have := HK2.out; have := HJ14.out; omega⟩, ⟨by (with_reducible repeat (first | refine blk_drewN ?_ _ | refine blk_drew ?_ | refine blk_alloc ?_ _)); exact BK161.out⟩, ⟨by (with_reducible repeat (first | refine blk_drewN ?_ _ | refine blk_drew ?_ | refine blk_alloc ?_ _)); exact BK162.out⟩, ⟨by repeat (first | (with_reducible first | exact HB.out | apply below_alloc | apply pw_below_drewN | apply below_drew1 | refine below_set ?_ GE161.out | refine below_set ?_ GE162.out) | exact HB.out)⟩⟩
                                  · rw [if_neg c34] at H
                                    exact absurd H (by simp)
                                · rw [if_neg c33] at H
                                  exact absurd H (by simp)
                              · rw [if_neg c31] at H
                                have c31b0 : decide ((wrap64 (x162001_1 - a0_1)) < (t163.size : Int)) = false := decide_eq_false c31
                                clear c31
                                have H' := Aside0.mk H
                                clear H
                                have hnb48 := NB161_162.out
                                have hnc48 := NB162_161.out
                                have hcz49_0 : wc.cell? ⟨gb161, 0, none⟩ = some (.string a0_0) := (blk_cell BK161.out 0).trans rfl
                                have hcz49_1 : wc.cell? ⟨gb161, 1, none⟩ = some (.int .i64 x162001_1) := (blk_cell BK161.out 1).trans rfl
                                have hcz49_2 : wc.cell? ⟨gb161, 2, none⟩ = some (.int .i64 a0_2) := (blk_cell BK161.out 2).trans rfl
                                have hcz49_3 : wc.cell? ⟨gb161, 3, none⟩ = some (.bool false) := (blk_cell BK161.out 3).trans rfl
                                have hfz49_0 := blk_frozen BK161.out 0
                                have hfz49_1 := blk_frozen BK161.out 1
                                have hfz49_2 := blk_frozen BK161.out 2
                                have hfz49_3 := blk_frozen BK161.out 3
                                try go_wp2
                                have n0_ := Aside0.mk (blk_drew BK161.out)
                                have n1_ := Aside0.mk (blk_drew BK162.out)
                                have n2_ := Aside0.mk (below_drew1 HB.out)
                                clear BK161
                                clear BK162
                                clear HB
                                have BK161 := n0_
                                have BK162 := n1_
                                have HB := n2_
                                clear n0_ n1_ n2_
                                refine start_ (n := 27) (S := fun w' => True) (ds := []) #[false, false, false, false, false, false, false, false, false, false, false, false, false, false, false, false, false, false, false, false, false, false, false, false, false, false, false] (by kernel_rfl) rfl rfl trivial (fun hHeld => ?_); refine with_tabW betrothalref05_reader_word.tab12 betrothalref05_reader_word.bits12 (fun HT_ HW_ => ?_)
                                generalize wc.drew = w50 at BK161 BK162 HB hHeld ⊢
                                refine pure_ (i := 0) (N := some 48) (v := ?_) (a' := ?_) #[true, false, false, false, false, false, false, false, false, false, false, false, false, false, false, false, false, false, false, false, false, false, false, false, false, false, false] rfl rfl (any_of HT_.out (by kernel_rfl)) (fun _ _ _ h => h) (Or.inl ⟨by rfl, ?_⟩) ?_ ?_
                                rotate_left
                                · intro w'
                                  go_simp
                                  with_reducible rfl
                                rotate_left
                                · simp only [Act.put, List.setIfInBounds_toArray, List.set_cons_zero, List.set_cons_succ, i64_w, i32_w]
                                  rfl
                                refine pure_ (i := 1) (N := some 49) (v := ?_) (a' := ?_) #[true, true, false, false, false, false, false, false, false, false, false, false, false, false, false, false, false, false, false, false, false, false, false, false, false, false, false] rfl rfl (any_of HT_.out (by kernel_rfl)) (fun _ _ _ h => h) (Or.inl ⟨by rfl, ?_⟩) ?_ ?_
                                rotate_left
                                · intro w'
                                  go_simp
                                  with_reducible rfl
                                rotate_left
                                · simp only [Act.put, List.setIfInBounds_toArray, List.set_cons_zero, List.set_cons_succ, i64_w, i32_w]
                                  rfl
                                refine pure_ (i := 2) (N := some 50) (v := ?_) (a' := ?_) #[true, true, true, false, false, false, false, false, false, false, false, false, false, false, false, false, false, false, false, false, false, false, false, false, false, false, false] rfl rfl (any_of HT_.out (by kernel_rfl)) (fun _ _ _ h => h) (Or.inl ⟨by rfl, ?_⟩) ?_ ?_
                                rotate_left
                                · intro w'
                                  go_simp
                                  with_reducible rfl
                                rotate_left
                                · simp only [Act.put, List.setIfInBounds_toArray, List.set_cons_zero, List.set_cons_succ, i64_w, i32_w]
                                  rfl
                                refine pure_ (i := 3) (N := some 51) (v := ?_) (a' := ?_) #[true, true, true, true, false, false, false, false, false, false, false, false, false, false, false, false, false, false, false, false, false, false, false, false, false, false, false] rfl rfl (any_of HT_.out (by kernel_rfl)) (fun _ _ _ h => h) (Or.inl ⟨by rfl, ?_⟩) ?_ ?_
                                rotate_left
                                · intro w'
                                  go_simp
                                  with_reducible rfl
                                rotate_left
                                · simp only [Act.put, List.setIfInBounds_toArray, List.set_cons_zero, List.set_cons_succ, i64_w, i32_w]
                                  rfl
                                refine pure_ (i := 4) (N := some 52) (v := ?_) (a' := ?_) #[true, true, true, true, true, false, false, false, false, false, false, false, false, false, false, false, false, false, false, false, false, false, false, false, false, false, false] rfl rfl (any_of HT_.out (by kernel_rfl)) (fun _ _ _ h => h) (Or.inl ⟨by rfl, ?_⟩) ?_ ?_
                                rotate_left
                                · intro w'
                                  go_simp
                                  with_reducible rfl
                                rotate_left
                                · simp only [Act.put, List.setIfInBounds_toArray, List.set_cons_zero, List.set_cons_succ, i64_w, i32_w]
                                  rfl
                                refine pure_ (i := 5) (N := some 53) (v := ?_) (a' := ?_) #[true, true, true, true, true, true, false, false, false, false, false, false, false, false, false, false, false, false, false, false, false, false, false, false, false, false, false] rfl rfl (any_of HT_.out (by kernel_rfl)) (fun _ _ _ h => h) (Or.inl ⟨by rfl, ?_⟩) ?_ ?_
                                rotate_left
                                · intro w'
                                  go_simp
                                  with_reducible rfl
                                rotate_left
                                · simp only [Act.put, List.setIfInBounds_toArray, List.set_cons_zero, List.set_cons_succ, i64_w, i32_w]
                                  rfl
                                refine pure_ (i := 6) (N := some 54) (v := ?_) (a' := ?_) #[true, true, true, true, true, true, true, false, false, false, false, false, false, false, false, false, false, false, false, false, false, false, false, false, false, false, false] rfl rfl (any_of HT_.out (by kernel_rfl)) (fun _ _ _ h => h) (Or.inl ⟨by rfl, ?_⟩) ?_ ?_
                                rotate_left
                                · intro w'
                                  go_simp
                                  with_reducible rfl
                                rotate_left
                                · simp only [Act.put, List.setIfInBounds_toArray, List.set_cons_zero, List.set_cons_succ, i64_w, i32_w]
                                  rfl
                                refine pure_ (i := 7) (N := some 55) (v := undef) (a' := ?_) #[true, true, true, true, true, true, true, true, false, false, false, false, false, false, false, false, false, false, false, false, false, false, false, false, false, false, false] rfl rfl (any_of HT_.out (by kernel_rfl)) (fun _ _ _ h => h) (Or.inr ⟨by rfl, rfl⟩) ?_ ?_
                                rotate_left
                                · simp only [Act.put, List.setIfInBounds_toArray, List.set_cons_zero, List.set_cons_succ, i64_w, i32_w]
                                  rfl
                                refine pure_ (i := 8) (N := some 56) (v := undef) (a' := ?_) #[true, true, true, true, true, true, true, true, true, false, false, false, false, false, false, false, false, false, false, false, false, false, false, false, false, false, false] rfl rfl (any_of HT_.out (by kernel_rfl)) (fun _ _ _ h => h) (Or.inr ⟨by rfl, rfl⟩) ?_ ?_
                                rotate_left
                                · simp only [Act.put, List.setIfInBounds_toArray, List.set_cons_zero, List.set_cons_succ, i64_w, i32_w]
                                  rfl
                                refine pure_ (i := 9) (N := some 57) (v := undef) (a' := ?_) #[true, true, true, true, true, true, true, true, true, true, false, false, false, false, false, false, false, false, false, false, false, false, false, false, false, false, false] rfl rfl (any_of HT_.out (by kernel_rfl)) (fun _ _ _ h => h) (Or.inr ⟨by rfl, rfl⟩) ?_ ?_
                                rotate_left
                                · simp only [Act.put, List.setIfInBounds_toArray, List.set_cons_zero, List.set_cons_succ, i64_w, i32_w]
                                  rfl
                                refine pure_ (i := 10) (N := some 58) (v := undef) (a' := ?_) #[true, true, true, true, true, true, true, true, true, true, true, false, false, false, false, false, false, false, false, false, false, false, false, false, false, false, false] rfl rfl (any_of HT_.out (by kernel_rfl)) (fun _ _ _ h => h) (Or.inr ⟨by rfl, rfl⟩) ?_ ?_
                                rotate_left
                                · simp only [Act.put, List.setIfInBounds_toArray, List.set_cons_zero, List.set_cons_succ, i64_w, i32_w]
                                  rfl
                                refine pure_ (i := 11) (N := some 59) (v := undef) (a' := ?_) #[true, true, true, true, true, true, true, true, true, true, true, true, false, false, false, false, false, false, false, false, false, false, false, false, false, false, false] rfl rfl (any_of HT_.out (by kernel_rfl)) (fun _ _ _ h => h) (Or.inr ⟨by rfl, rfl⟩) ?_ ?_
                                rotate_left
                                · simp only [Act.put, List.setIfInBounds_toArray, List.set_cons_zero, List.set_cons_succ, i64_w, i32_w]
                                  rfl
                                refine pure_ (i := 12) (N := some 60) (v := undef) (a' := ?_) #[true, true, true, true, true, true, true, true, true, true, true, true, true, false, false, false, false, false, false, false, false, false, false, false, false, false, false] rfl rfl (any_of HT_.out (by kernel_rfl)) (fun _ _ _ h => h) (Or.inr ⟨by rfl, rfl⟩) ?_ ?_
                                rotate_left
                                · simp only [Act.put, List.setIfInBounds_toArray, List.set_cons_zero, List.set_cons_succ, i64_w, i32_w]
                                  rfl
                                refine pure_ (i := 13) (N := some 61) (v := undef) (a' := ?_) #[true, true, true, true, true, true, true, true, true, true, true, true, true, true, false, false, false, false, false, false, false, false, false, false, false, false, false] rfl rfl (any_of HT_.out (by kernel_rfl)) (fun _ _ _ h => h) (Or.inr ⟨by rfl, rfl⟩) ?_ ?_
                                rotate_left
                                · simp only [Act.put, List.setIfInBounds_toArray, List.set_cons_zero, List.set_cons_succ, i64_w, i32_w]
                                  rfl
                                refine pure_ (i := 14) (N := some 62) (v := undef) (a' := ?_) #[true, true, true, true, true, true, true, true, true, true, true, true, true, true, true, false, false, false, false, false, false, false, false, false, false, false, false] rfl rfl (any_of HT_.out (by kernel_rfl)) (fun _ _ _ h => h) (Or.inr ⟨by rfl, rfl⟩) ?_ ?_
                                rotate_left
                                · simp only [Act.put, List.setIfInBounds_toArray, List.set_cons_zero, List.set_cons_succ, i64_w, i32_w]
                                  rfl
                                refine pure_ (i := 15) (N := some 63) (v := undef) (a' := ?_) #[true, true, true, true, true, true, true, true, true, true, true, true, true, true, true, true, false, false, false, false, false, false, false, false, false, false, false] rfl rfl (any_of HT_.out (by kernel_rfl)) (fun _ _ _ h => h) (Or.inr ⟨by rfl, rfl⟩) ?_ ?_
                                rotate_left
                                · simp only [Act.put, List.setIfInBounds_toArray, List.set_cons_zero, List.set_cons_succ, i64_w, i32_w]
                                  rfl
                                refine pure_ (i := 16) (N := some 64) (v := undef) (a' := ?_) #[true, true, true, true, true, true, true, true, true, true, true, true, true, true, true, true, true, false, false, false, false, false, false, false, false, false, false] rfl rfl (any_of HT_.out (by kernel_rfl)) (fun _ _ _ h => h) (Or.inr ⟨by rfl, rfl⟩) ?_ ?_
                                rotate_left
                                · simp only [Act.put, List.setIfInBounds_toArray, List.set_cons_zero, List.set_cons_succ, i64_w, i32_w]
                                  rfl
                                refine pure_ (i := 17) (N := some 65) (v := ?_) (a' := ?_) #[true, true, true, true, true, true, true, true, true, true, true, true, true, true, true, true, true, true, false, false, false, false, false, false, false, false, false] rfl rfl (any_of HT_.out (by kernel_rfl)) (fun _ _ _ h => h) (Or.inl ⟨by rfl, ?_⟩) ?_ ?_
                                rotate_left
                                · intro w'
                                  go_simp
                                  with_reducible rfl
                                rotate_left
                                · simp only [Act.put, List.setIfInBounds_toArray, List.set_cons_zero, List.set_cons_succ, i64_w, i32_w]
                                  rfl
                                refine pure_ (i := 18) (N := some 66) (v := ?_) (a' := ?_) #[true, true, true, true, true, true, true, true, true, true, true, true, true, true, true, true, true, true, true, false, false, false, false, false, false, false, false] rfl rfl (any_of HT_.out (by kernel_rfl)) (fun _ _ _ h => h) (Or.inl ⟨by rfl, ?_⟩) ?_ ?_
                                rotate_left
                                · intro w'
                                  go_simp
                                  with_reducible rfl
                                rotate_left
                                · simp only [Act.put, List.setIfInBounds_toArray, List.set_cons_zero, List.set_cons_succ, i64_w, i32_w]
                                  rfl
                                refine pure_ (i := 19) (N := some 67) (v := undef) (a' := ?_) #[true, true, true, true, true, true, true, true, true, true, true, true, true, true, true, true, true, true, true, true, false, false, false, false, false, false, false] rfl rfl (any_of HT_.out (by kernel_rfl)) (fun _ _ _ h => h) (Or.inr ⟨by rfl, rfl⟩) ?_ ?_
                                rotate_left
                                · simp only [Act.put, List.setIfInBounds_toArray, List.set_cons_zero, List.set_cons_succ, i64_w, i32_w]
                                  rfl
                                refine pure_ (i := 20) (N := some 68) (v := undef) (a' := ?_) #[true, true, true, true, true, true, true, true, true, true, true, true, true, true, true, true, true, true, true, true, true, false, false, false, false, false, false] rfl rfl (any_of HT_.out (by kernel_rfl)) (fun _ _ _ h => h) (Or.inr ⟨by rfl, rfl⟩) ?_ ?_
                                rotate_left
                                · simp only [Act.put, List.setIfInBounds_toArray, List.set_cons_zero, List.set_cons_succ, i64_w, i32_w]
                                  rfl
                                refine pure_ (i := 21) (N := some 69) (v := undef) (a' := ?_) #[true, true, true, true, true, true, true, true, true, true, true, true, true, true, true, true, true, true, true, true, true, true, false, false, false, false, false] rfl rfl (any_of HT_.out (by kernel_rfl)) (fun _ _ _ h => h) (Or.inr ⟨by rfl, rfl⟩) ?_ ?_
                                rotate_left
                                · simp only [Act.put, List.setIfInBounds_toArray, List.set_cons_zero, List.set_cons_succ, i64_w, i32_w]
                                  rfl
                                refine pure_ (i := 22) (N := some 70) (v := undef) (a' := ?_) #[true, true, true, true, true, true, true, true, true, true, true, true, true, true, true, true, true, true, true, true, true, true, true, false, false, false, false] rfl rfl (any_of HT_.out (by kernel_rfl)) (fun _ _ _ h => h) (Or.inr ⟨by rfl, rfl⟩) ?_ ?_
                                rotate_left
                                · simp only [Act.put, List.setIfInBounds_toArray, List.set_cons_zero, List.set_cons_succ, i64_w, i32_w]
                                  rfl
                                refine pure_ (i := 23) (N := some 71) (v := undef) (a' := ?_) #[true, true, true, true, true, true, true, true, true, true, true, true, true, true, true, true, true, true, true, true, true, true, true, true, false, false, false] rfl rfl (any_of HT_.out (by kernel_rfl)) (fun _ _ _ h => h) (Or.inr ⟨by rfl, rfl⟩) ?_ ?_
                                rotate_left
                                · simp only [Act.put, List.setIfInBounds_toArray, List.set_cons_zero, List.set_cons_succ, i64_w, i32_w]
                                  rfl
                                refine pure_ (i := 24) (N := some 72) (v := ?_) (a' := ?_) #[true, true, true, true, true, true, true, true, true, true, true, true, true, true, true, true, true, true, true, true, true, true, true, true, true, false, false] rfl rfl (any_of HT_.out (by kernel_rfl)) (fun _ _ _ h => h) (Or.inl ⟨by rfl, ?_⟩) ?_ ?_
                                rotate_left
                                · intro w'
                                  go_simp
                                  with_reducible rfl
                                rotate_left
                                · simp only [Act.put, List.setIfInBounds_toArray, List.set_cons_zero, List.set_cons_succ, i64_w, i32_w]
                                  rfl
                                refine pure_ (i := 25) (N := some 73) (v := ?_) (a' := ?_) #[true, true, true, true, true, true, true, true, true, true, true, true, true, true, true, true, true, true, true, true, true, true, true, true, true, true, false] rfl rfl (any_of HT_.out (by kernel_rfl)) (fun _ _ _ h => h) (Or.inl ⟨by rfl, ?_⟩) ?_ ?_
                                rotate_left
                                · intro w'
                                  go_simp
                                  with_reducible rfl
                                rotate_left
                                · simp only [Act.put, List.setIfInBounds_toArray, List.set_cons_zero, List.set_cons_succ, i64_w, i32_w]
                                  rfl
                                refine pure_ (i := 26) (N := some 7) (v := ?_) (a' := ?_) #[true, true, true, true, true, true, true, true, true, true, true, true, true, true, true, true, true, true, true, true, true, true, true, true, true, true, true] rfl rfl (any_of HT_.out (by kernel_rfl)) (fun _ _ _ h => h) (Or.inl ⟨by rfl, ?_⟩) ?_ ?_
                                rotate_left
                                · intro w'
                                  go_simp
                                  with_reducible rfl
                                rotate_left
                                · simp only [Act.put, List.setIfInBounds_toArray, List.set_cons_zero, List.set_cons_succ, i64_w, i32_w]
                                  rfl
                                refine done_ (done_of HT_.out (by kernel_rfl)) ?_
                                try go_wp2
                                go_roundg kj14
                                case measure => have := HK1.out; have := HK2.out; have := HJ14.out; omega
                                case rel => exact ⟨(false), (wrap64 (x8_2 + 1)), (x163000_2), (x163001_2), (x163002_2), (x163003_2), (by first | rfl | (simp; done) | (simp [*]; done)), (by first | rfl | (simp; done) | (simp [*]; done)), H', ⟨by have := HK1.out; have := HK2.out; have := HJ14.out; omega⟩, ⟨by (with_reducible repeat (first | refine blk_drewN ?_ _ | refine blk_drew ?_ | refine blk_alloc ?_ _)); exact BK161.out⟩, ⟨by (with_reducible repeat (first | refine blk_drewN ?_ _ | refine blk_drew ?_ | refine blk_alloc ?_ _)); exact BK162.out⟩, ⟨by repeat (first | (with_reducible first | exact HB.out | apply below_alloc | apply pw_below_drewN | apply below_drew1 | refine below_set ?_ GE161.out | refine below_set ?_ GE162.out) | exact HB.out)⟩⟩
                        · rw [if_neg c22] at H
                          exact absurd H (by simp)
                      · rw [if_neg c21] at H
                        exact absurd H (by simp)
                    · rw [if_neg c20] at H
                      exact absurd H (by simp)
            · rw [if_neg c13] at H
              have c13b0 : decide (x8_2 ≤ 13) = false := decide_eq_false c13
              clear c13
              by_cases c51 : x7_2 = true
              · subst c51
                have H1 : (betrothalref05_reader_word.l0 k2 a1 a0_1 a0_0 (wrap64 (x162001_1 + 1)) a0_2 false) = some (r1, r2, r3, r4, r5) := by rw [if_pos rfl] at H; exact H
                clear H
                have H := H1
                clear H1
                have H' := Aside0.mk H
                clear H
                have hnb52 := NB161_162.out
                have hnc52 := NB162_161.out
                have hcz53_0 : wr.cell? ⟨gb161, 0, none⟩ = some (.string a0_0) := (blk_cell BK161.out 0).trans rfl
                have hcz53_1 : wr.cell? ⟨gb161, 1, none⟩ = some (.int .i64 x162001_1) := (blk_cell BK161.out 1).trans rfl
                have hcz53_2 : wr.cell? ⟨gb161, 2, none⟩ = some (.int .i64 a0_2) := (blk_cell BK161.out 2).trans rfl
                have hcz53_3 : wr.cell? ⟨gb161, 3, none⟩ = some (.bool false) := (blk_cell BK161.out 3).trans rfl
                have hfz53_0 := blk_frozen BK161.out 0
                have hfz53_1 := blk_frozen BK161.out 1
                have hfz53_2 := blk_frozen BK161.out 2
                have hfz53_3 := blk_frozen BK161.out 3
                go_wp2
                go_roundg k2
                case measure => have := HK1.out; have := HK2.out; omega
                case rel => exact ⟨(wrap64 (x162001_1 + 1)), (false), (x163000_2), (x163001_2), (x163002_2), (x163003_2), H', ⟨by have := HK1.out; have := HK2.out; omega⟩, ⟨by (with_reducible repeat (first | refine blk_drewN ?_ _ | refine blk_drew ?_ | refine blk_alloc ?_ _)); refine blk_put (cs := #[.string a0_0, .int .i64 x162001_1, .int .i64 a0_2, .bool false]) ?_ 1 _ rfl; (with_reducible repeat (first | refine blk_drewN ?_ _ | refine blk_drew ?_ | refine blk_alloc ?_ _)); exact BK161.out⟩, ⟨by (with_reducible repeat (first | refine blk_drewN ?_ _ | refine blk_drew ?_ | refine blk_alloc ?_ _)); refine blk_far ?_ NB162_161.out _; (with_reducible repeat (first | refine blk_drewN ?_ _ | refine blk_drew ?_ | refine blk_alloc ?_ _)); exact BK162.out⟩, ⟨by repeat (first | (with_reducible first | exact HB.out | apply below_alloc | apply pw_below_drewN | apply below_drew1 | refine below_set ?_ GE161.out | refine below_set ?_ GE162.out) | exact HB.out)⟩⟩
              · replace c51 := Bool.eq_false_iff.mpr c51
                subst c51
                have H1 : (some (a0_0, x162001_1, a0_2, true, 0)) = some (r1, r2, r3, r4, r5) := by rw [if_neg (show ¬ (false = true) by decide)] at H; exact H
                clear H
                have H := H1
                clear H1
                simp only [Option.some.injEq, Prod.mk.injEq] at H
                obtain ⟨rfl, rfl, rfl, rfl, rfl⟩ := H
                have hnb54 := NB161_162.out
                have hnc54 := NB162_161.out
                have hcz55_0 : wr.cell? ⟨gb161, 0, none⟩ = some (.string a0_0) := (blk_cell BK161.out 0).trans rfl
                have hcz55_1 : wr.cell? ⟨gb161, 1, none⟩ = some (.int .i64 x162001_1) := (blk_cell BK161.out 1).trans rfl
                have hcz55_2 : wr.cell? ⟨gb161, 2, none⟩ = some (.int .i64 a0_2) := (blk_cell BK161.out 2).trans rfl
                have hcz55_3 : wr.cell? ⟨gb161, 3, none⟩ = some (.bool false) := (blk_cell BK161.out 3).trans rfl
                have hfz55_0 := blk_frozen BK161.out 0
                have hfz55_1 := blk_frozen BK161.out 1
                have hfz55_2 := blk_frozen BK161.out 2
                have hfz55_3 := blk_frozen BK161.out 3
                have hcz56_0 : wr.cell? ⟨gb162, 0, none⟩ = some (.string x163000_2) := (blk_cell BK162.out 0).trans rfl
                have hcz56_1 : wr.cell? ⟨gb162, 1, none⟩ = some (.int .i64 x163001_2) := (blk_cell BK162.out 1).trans rfl
                have hcz56_2 : wr.cell? ⟨gb162, 2, none⟩ = some (.int .i64 x163002_2) := (blk_cell BK162.out 2).trans rfl
                have hcz56_3 : wr.cell? ⟨gb162, 3, none⟩ = some (.bool x163003_2) := (blk_cell BK162.out 3).trans rfl
                have hfz56_0 := blk_frozen BK162.out 0
                have hfz56_1 := blk_frozen BK162.out 1
                have hfz56_2 := blk_frozen BK162.out 2
                have hfz56_3 := blk_frozen BK162.out 3
                go_wp2
                refine bodyPost_ret (results_ct rfl _ _ gb162 71 #[.string a0_0, .int .i64 x162001_1, .int .i64 a0_2, .bool true] (0, 0) _ rfl (by (with_reducible repeat (first | refine blk_drewN ?_ _ | refine blk_drew ?_ | refine blk_alloc ?_ _)); refine blk_put (cs := #[.string a0_0, .int .i64 x162001_1, .int .i64 a0_2, .bool x163003_2]) ?_ 3 _ rfl; (with_reducible repeat (first | refine blk_drewN ?_ _ | refine blk_drew ?_ | refine blk_alloc ?_ _)); refine blk_put (cs := #[.string a0_0, .int .i64 x162001_1, .int .i64 x163002_2, .bool x163003_2]) ?_ 2 _ rfl; (with_reducible repeat (first | refine blk_drewN ?_ _ | refine blk_drew ?_ | refine blk_alloc ?_ _)); refine blk_put (cs := #[.string a0_0, .int .i64 x163001_2, .int .i64 x163002_2, .bool x163003_2]) ?_ 1 _ rfl; (with_reducible repeat (first | refine blk_drewN ?_ _ | refine blk_drew ?_ | refine blk_alloc ?_ _)); refine blk_put (cs := #[.string x163000_2, .int .i64 x163001_2, .int .i64 x163002_2, .bool x163003_2]) ?_ 0 _ rfl; (with_reducible repeat (first | refine blk_drewN ?_ _ | refine blk_drew ?_ | refine blk_alloc ?_ _)); refine blk_far ?_ NB162_161.out _; (with_reducible repeat (first | refine blk_drewN ?_ _ | refine blk_drew ?_ | refine blk_alloc ?_ _)); exact BK162.out) Tryd.underlying71 rfl (by kernel_rfl)) rfl ?_
                exact ⟨by first | rfl | (simp [errW_none, errW_some] <;> rfl) | (simp [*, errW_none, errW_some] <;> rfl), by repeat (first | (with_reducible first | exact HB.out | apply below_alloc | apply pw_below_drewN | apply below_drew1 | refine below_set ?_ GE161.out | refine below_set ?_ GE162.out) | exact HB.out)⟩
end Go.Proofs.YtfnekpgbfdhnmaaDoor.PAll

namespace Go.Proofs.YtfnekpgbfdhnmaaDoor.PAll
open Go.RowKit Go.Proofs.YtfnekpgbfdhnmaaDoorW.PrintWords Go.Proofs.YtfnekpgbfdhnmaaDoorW.PrintLast Go.Proofs.YtfnekpgbfdhnmaaDoorW.PrintMore
attribute [local go_sem] max2_int min2_int max_two min_two max_three min_three max_four min_four   -- for this text's walks alone
set_option linter.unusedVariables false
set_option linter.unusedSimpArgs false
def betrothalref05_numbered.f (a0 : Int) : Option (Bool) := if a0 = 4 then (some true) else (some (decide (a0 ≥ 10)))
set_option maxHeartbeats 8000000 in
set_option maxRecDepth 100000 in
theorem betrothalref05_numbered.calls (a0 : Int) (r : Bool) (w : World) (h : betrothalref05_numbered.f a0 = some r) :
    Calls Tryd.prog 60 #[.int .i64 a0] w fun e w' => e = .returned (.bool r) ∧ Drawn0 w w' := by
  have H : (if a0 = 4 then (some true) else (some (decide (a0 ≥ 10)))) = some r := h
  clear h
  by_cases c2 : a0 = 4
  · rw [if_pos c2] at H
    have c2b0 : (a0 == 4) = true := beq_iff_eq.mpr c2
    have c2b1 : (a0 != 4) = false := bne_eq_false_iff_eq.mpr c2
    clear c2
    obtain rfl := Option.some.inj H
    go_enter Tryd.func60, Tryd.ntmps60
    go_wp2
    go_ret
    exact ⟨by first | rfl | (simp; done) | (simp [*]; done), by repeat (first | exact Drawn0.refl _ | apply Drawn0.step)⟩
  · rw [if_neg c2] at H
    have c2b0 : (a0 == 4) = false := beq_eq_false_iff_ne.mpr c2
    have c2b1 : (a0 != 4) = true := bne_iff_ne.mpr c2
    obtain rfl := Option.some.inj H
    go_enter Tryd.func60, Tryd.ntmps60
    go_wp2
    go_ret
    exact ⟨by first | rfl | (simp; done) | (simp [*]; done), by repeat (first | exact Drawn0.refl _ | apply Drawn0.step)⟩
def betrothalref05_needs.f (a0 : Int) : Option (Int × Int × Int × Int) := if a0 = 3 then (some (2, 2, 0, 0)) else (if a0 = 5 then (some (2, 2, 1, 0)) else (if a0 = 6 then (some (1, 1, 1, 0)) else (if a0 = 7 then (some (1, 1, 0, 0)) else (if a0 = 9 then (some (0, 16, 2, 2)) else (if a0 = 10 then (some (1, 9, 2, 0)) else (if a0 = 11 then (some (0, 8, 0, 0)) else (if a0 = 12 then (some (0, 8, 0, 0)) else (some (0, 0, 0, 0)))))))))
set_option maxHeartbeats 8000000 in
set_option maxRecDepth 100000 in
theorem betrothalref05_needs.calls (a0 : Int) (r1 : Int) (r2 : Int) (r3 : Int) (r4 : Int) (w : World) (h : betrothalref05_needs.f a0 = some (r1, r2, r3, r4)) :
    Calls Tryd.prog 61 #[.int .i64 a0] w fun e w' => e = .returned (.tuple #[.int .i64 r1, .int .i64 r2, .int .i64 r3, .int .i64 r4]) ∧ Drawn0 w w' := by
  have H : (if a0 = 3 then (some (2, 2, 0, 0)) else (if a0 = 5 then (some (2, 2, 1, 0)) else (if a0 = 6 then (some (1, 1, 1, 0)) else (if a0 = 7 then (some (1, 1, 0, 0)) else (if a0 = 9 then (some (0, 16, 2, 2)) else (if a0 = 10 then (some (1, 9, 2, 0)) else (if a0 = 11 then (some (0, 8, 0, 0)) else (if a0 = 12 then (some (0, 8, 0, 0)) else (some (0, 0, 0, 0)))))))))) = some (r1, r2, r3, r4) := h
  clear h
  by_cases c2 : a0 = 3
  · rw [if_pos c2] at H
    have c2b0 : (a0 == 3) = true := beq_iff_eq.mpr c2
    have c2b1 : (a0 != 3) = false := bne_eq_false_iff_eq.mpr c2
    clear c2
    simp only [Option.some.injEq, Prod.mk.injEq] at H
    obtain ⟨rfl, rfl, rfl, rfl⟩ := H
    go_enter Tryd.func61, Tryd.ntmps61
    go_wp2
    refine bodyPost_ret (results_list (rs := [.tmp 2, .tmp 3, .tmp 4, .tmp 5]) rfl (by simp) (.tmp (.tmp (.tmp (.tmp .nil))))) rfl ?_
    exact ⟨by first | rfl | (simp; done) | (simp [*]; done), by repeat (first | exact Drawn0.refl _ | apply Drawn0.step)⟩
  · rw [if_neg c2] at H
    have c2b0 : (a0 == 3) = false := beq_eq_false_iff_ne.mpr c2
    have c2b1 : (a0 != 3) = true := bne_iff_ne.mpr c2
    by_cases c3 : a0 = 5
    · rw [if_pos c3] at H
      have c3b0 : (a0 == 5) = true := beq_iff_eq.mpr c3
      have c3b1 : (a0 != 5) = false := bne_eq_false_iff_eq.mpr c3
      clear c3
      simp only [Option.some.injEq, Prod.mk.injEq] at H
      obtain ⟨rfl, rfl, rfl, rfl⟩ := H
      go_enter Tryd.func61, Tryd.ntmps61
      go_wp2
      refine bodyPost_ret (results_list (rs := [.tmp 2, .tmp 3, .tmp 4, .tmp 5]) rfl (by simp) (.tmp (.tmp (.tmp (.tmp .nil))))) rfl ?_
      exact ⟨by first | rfl | (simp; done) | (simp [*]; done), by repeat (first | exact Drawn0.refl _ | apply Drawn0.step)⟩
    · rw [if_neg c3] at H
      have c3b0 : (a0 == 5) = false := beq_eq_false_iff_ne.mpr c3
      have c3b1 : (a0 != 5) = true := bne_iff_ne.mpr c3
      by_cases c4 : a0 = 6
      · rw [if_pos c4] at H
        have c4b0 : (a0 == 6) = true := beq_iff_eq.mpr c4
        have c4b1 : (a0 != 6) = false := bne_eq_false_iff_eq.mpr c4
        clear c4
        simp only [Option.some.injEq, Prod.mk.injEq] at H
        obtain ⟨rfl, rfl, rfl, rfl⟩ := H
        go_enter Tryd.func61, Tryd.ntmps61
        go_wp2
        refine bodyPost_ret (results_list (rs := [.tmp 2, .tmp 3, .tmp 4, .tmp 5]) rfl (by simp) (.tmp (.tmp (.tmp (.tmp .nil))))) rfl ?_
        exact ⟨by first | rfl | (simp; done) | (simp [*]; done), by repeat (first | exact Drawn0.refl _ | apply Drawn0.step)⟩
      · rw [if_neg c4] at H
        have c4b0 : (a0 == 6) = false := beq_eq_false_iff_ne.mpr c4
        have c4b1 : (a0 != 6) = true := bne_iff_ne.mpr c4
        by_cases c5 : a0 = 7
        · rw [if_pos c5] at H
          have c5b0 : (a0 == 7) = true := beq_iff_eq.mpr c5
          have c5b1 : (a0 != 7) = false := bne_eq_false_iff_eq.mpr c5
          clear c5
          simp only [Option.some.injEq, Prod.mk.injEq] at H
          obtain ⟨rfl, rfl, rfl, rfl⟩ := H
          go_enter Tryd.func61, Tryd.ntmps61
          go_wp2
          refine bodyPost_ret (results_list (rs := [.tmp 2, .tmp 3, .tmp 4, .tmp 5]) rfl (by simp) (.tmp (.tmp (.tmp (.tmp .nil))))) rfl ?_
          exact ⟨by first | rfl | (simp; done) | (simp [*]; done), by repeat (first | exact Drawn0.refl _ | apply Drawn0.step)⟩
        · rw [if_neg c5] at H
          have c5b0 : (a0 == 7) = false := beq_eq_false_iff_ne.mpr c5
          have c5b1 : (a0 != 7) = true := bne_iff_ne.mpr c5
          by_cases c6 : a0 = 9
          · rw [if_pos c6] at H
            have c6b0 : (a0 == 9) = true := beq_iff_eq.mpr c6
            have c6b1 : (a0 != 9) = false := bne_eq_false_iff_eq.mpr c6
            clear c6
            simp only [Option.some.injEq, Prod.mk.injEq] at H
            obtain ⟨rfl, rfl, rfl, rfl⟩ := H
            go_enter Tryd.func61, Tryd.ntmps61
            go_wp2
            refine bodyPost_ret (results_list (rs := [.tmp 2, .tmp 3, .tmp 4, .tmp 5]) rfl (by simp) (.tmp (.tmp (.tmp (.tmp .nil))))) rfl ?_
            exact ⟨by first | rfl | (simp; done) | (simp [*]; done), by repeat (first | exact Drawn0.refl _ | apply Drawn0.step)⟩
          · rw [if_neg c6] at H
            have c6b0 : (a0 == 9) = false := beq_eq_false_iff_ne.mpr c6
            have c6b1 : (a0 != 9) = true := bne_iff_ne.mpr c6
            by_cases c7 : a0 = 10
            · rw [if_pos c7] at H
              have c7b0 : (a0 == 10) = true := beq_iff_eq.mpr c7
              have c7b1 : (a0 != 10) = false := bne_eq_false_iff_eq.mpr c7
              clear c7
              simp only [Option.some.injEq, Prod.mk.injEq] at H
              obtain ⟨rfl, rfl, rfl, rfl⟩ := H
              go_enter Tryd.func61, Tryd.ntmps61
              go_wp2
              refine bodyPost_ret (results_list (rs := [.tmp 2, .tmp 3, .tmp 4, .tmp 5]) rfl (by simp) (.tmp (.tmp (.tmp (.tmp .nil))))) rfl ?_
              exact ⟨by first | rfl | (simp; done) | (simp [*]; done), by repeat (first | exact Drawn0.refl _ | apply Drawn0.step)⟩
            · rw [if_neg c7] at H
              have c7b0 : (a0 == 10) = false := beq_eq_false_iff_ne.mpr c7
              have c7b1 : (a0 != 10) = true := bne_iff_ne.mpr c7
              by_cases c8 : a0 = 11
              · rw [if_pos c8] at H
                have c8b0 : (a0 == 11) = true := beq_iff_eq.mpr c8
                have c8b1 : (a0 != 11) = false := bne_eq_false_iff_eq.mpr c8
                clear c8
                simp only [Option.some.injEq, Prod.mk.injEq] at H
                obtain ⟨rfl, rfl, rfl, rfl⟩ := H
                go_enter Tryd.func61, Tryd.ntmps61
                go_wp2
                refine bodyPost_ret (results_list (rs := [.tmp 2, .tmp 3, .tmp 4, .tmp 5]) rfl (by simp) (.tmp (.tmp (.tmp (.tmp .nil))))) rfl ?_
                exact ⟨by first | rfl | (simp; done) | (simp [*]; done), by repeat (first | exact Drawn0.refl _ | apply Drawn0.step)⟩
              · rw [if_neg c8] at H
                have c8b0 : (a0 == 11) = false := beq_eq_false_iff_ne.mpr c8
                have c8b1 : (a0 != 11) = true := bne_iff_ne.mpr c8
                by_cases c9 : a0 = 12
                · rw [if_pos c9] at H
                  have c9b0 : (a0 == 12) = true := beq_iff_eq.mpr c9
                  have c9b1 : (a0 != 12) = false := bne_eq_false_iff_eq.mpr c9
                  clear c9
                  simp only [Option.some.injEq, Prod.mk.injEq] at H
                  obtain ⟨rfl, rfl, rfl, rfl⟩ := H
                  go_enter Tryd.func61, Tryd.ntmps61
                  go_wp2
                  refine bodyPost_ret (results_list (rs := [.tmp 2, .tmp 3, .tmp 4, .tmp 5]) rfl (by simp) (.tmp (.tmp (.tmp (.tmp .nil))))) rfl ?_
                  exact ⟨by first | rfl | (simp; done) | (simp [*]; done), by repeat (first | exact Drawn0.refl _ | apply Drawn0.step)⟩
                · rw [if_neg c9] at H
                  have c9b0 : (a0 == 12) = false := beq_eq_false_iff_ne.mpr c9
                  have c9b1 : (a0 != 12) = true := bne_iff_ne.mpr c9
                  simp only [Option.some.injEq, Prod.mk.injEq] at H
                  obtain ⟨rfl, rfl, rfl, rfl⟩ := H
                  go_enter Tryd.func61, Tryd.ntmps61
                  go_wp2
                  refine bodyPost_ret (results_list (rs := [.tmp 2, .tmp 3, .tmp 4, .tmp 5]) rfl (by simp) (.tmp (.tmp (.tmp (.tmp .nil))))) rfl ?_
                  exact ⟨by first | rfl | (simp; done) | (simp [*]; done), by repeat (first | exact Drawn0.refl _ | apply Drawn0.step)⟩
end Go.Proofs.YtfnekpgbfdhnmaaDoor.PAll

namespace Go.Proofs.YtfnekpgbfdhnmaaDoor
open Go.RowKit Go.Proofs.YtfnekpgbfdhnmaaDoorW.PrintWords Go.Proofs.YtfnekpgbfdhnmaaDoorW.PrintLast Go.Proofs.YtfnekpgbfdhnmaaDoorW.PrintMore Go.Proofs.YtfnekpgbfdhnmaaDoor.PAll
/-- Block g is a row of cells, of type t. -/
def Blk (w : World) (g : Nat) (t : TypeId) (cs : Array Value) : Prop := w.heap[g]? = some (.cells cs t (0, 0))
theorem Blk.cell {w : World} {g : Nat} {t : TypeId} {cs : Array Value} (h : Blk w g t cs) (i : Nat) : w.cell? ⟨g, i, none⟩ = cs[i]? := blk_cell h i
theorem Blk.frozen {w : World} {g : Nat} {t : TypeId} {cs : Array Value} (h : Blk w g t cs) (i : Nat) : w.frozen? ⟨g, i, none⟩ = false := blk_frozen h i
theorem Blk.lt {w : World} {g : Nat} {t : TypeId} {cs : Array Value} (h : Blk w g t cs) : g < w.heap.size := blk_lt h
/-- The bytes of a string. -/
def bl (s : ByteArray) : List UInt8 := s.data.toList
theorem bl_length (s : ByteArray) : (bl s).length = s.size := by simp [bl]
theorem bl_extract (s : ByteArray) (n : Nat) : bl (s.extract n s.size) = (bl s).drop n := by
  simp [bl, ByteArray.data_extract]
  rw [List.take_of_length_le]
  simp
/-- One step of an iterator over a string, wherever it lies. -/
theorem run_next_blk {P : Program} {w : World} {g pos : Nat} {s : ByteArray} (hg : w.heap[g]? = some (.stringIter s pos)) (ty : TypeId) (h : pos < s.size) :
    (Instr.next (.pointer (some ⟨g, 0, none⟩)) true ty).run P w =
      .ok (.tuple #[.bool true, .int .i64 pos, .int .i32 (Utf8.decode s pos).1]) (w.putObj g (.stringIter s (pos + (Utf8.decode s pos).2))) := by
  simp only [Instr.next, getObj, setObj, Sem.run_bind, Sem.run, hg, Result.andThen, h, if_true]
  simp [goInt, World.putObj]
theorem run_next_blk_end {P : Program} {w : World} {g pos : Nat} {s : ByteArray} (hg : w.heap[g]? = some (.stringIter s pos)) (ty : TypeId) (h : ¬ pos < s.size) :
    (Instr.next (.pointer (some ⟨g, 0, none⟩)) true ty).run P w = .ok (.tuple #[.bool false]) w := by
  simp [Instr.next, getObj, Sem.run, hg, h]
theorem prefix_bool (a b : List UInt8) : b.isPrefixOf a = (decide (b.length ≤ a.length) && (a.take b.length == b)) := by
  rw [Bool.eq_iff_iff]
  simp [List.prefix_iff_eq_take]
  grind
theorem grownBy_drewN {w w' : World} {row : Option Nat} (h : w.grownBy w' row) (n : Nat) : w.grownBy (w'.drewN n) row := ⟨h.os, h.tape, h.output, h.size, h.block⟩
theorem grownBy_put {w w' : World} {row : Option Nat} (h : w.grownBy w' row) {g : Nat} (hg : w.heap.size ≤ g) (o : Obj) : w.grownBy (w'.putObj g o) row :=
  ⟨h.os, h.tape, h.output, by simpa [World.putObj] using h.size, fun k hk hr => (World.putObj_heap_other (by omega)).trans (h.block k hk hr)⟩
theorem grownBy_alloc' {w w' : World} {row : Option Nat} (h : w.grownBy w' row) (o : Obj) : w.grownBy (w'.alloc o) row :=
  ⟨h.os, h.tape, h.output, by have := h.size; simp; omega, fun k hk hr => (Below.heap_alloc w' o k (by have := h.size; omega)).trans (h.block k hk hr)⟩
theorem grownBy_set {w w' : World} {b : Nat} (h : w.grownBy w' (some b)) (i : Nat) (v : Value) : w.grownBy (w'.setCell ⟨b, i, none⟩ v) (some b) :=
  ⟨h.os, h.tape, h.output, by simpa [World.setCell] using h.size, fun k hk hr => (Below.heap_setCell w' _ v k (by simpa using hr)).trans (h.block k hk hr)⟩
theorem bl_at {s : ByteArray} {i : Nat} (h : i < s.size) : (bl s)[i]? = some (s[i]'h) := by
  have : i < (bl s).length := by rw [bl_length]; exact h
  rw [List.getElem?_eq_getElem this]
  rfl
theorem dec_ascii {s : ByteArray} {i : Nat} {c : UInt8} (h : (bl s)[i]? = some c) (ha : c.toNat < 128) : Utf8.decode s i = (c.toNat, 1) := by
  have hi : i < s.size := by have := (List.getElem?_eq_some_iff.1 h).1; rwa [bl_length] at this
  rw [bl_at hi] at h
  cases h
  exact decode_ascii s i hi ha
theorem dec_high {s : ByteArray} {i : Nat} {c : UInt8} (h : (bl s)[i]? = some c) (ha : 128 ≤ c.toNat) : 128 ≤ (Utf8.decode s i).1 := by
  have hi : i < s.size := by have := (List.getElem?_eq_some_iff.1 h).1; rwa [bl_length] at this
  rw [bl_at hi] at h
  cases h
  exact (decode_high s i hi ha).1
theorem bl_extract_at {s : ByteArray} {n j : Nat} : (bl (s.extract n s.size))[j]? = (bl s)[n + j]? := by rw [bl_extract, List.getElem?_drop]
theorem size_extract' (s : ByteArray) (n : Nat) : (s.extract n s.size).size = s.size - n := by simp [ByteArray.size_extract]
theorem drop_cons {l : List UInt8} {i : Nat} {c : UInt8} (h : l[i]? = some c) : l.drop i = c :: l.drop (i + 1) := by
  obtain ⟨hi, rfl⟩ := List.getElem?_eq_some_iff.1 h
  exact List.drop_eq_getElem_cons hi
theorem u64_in (a : Int) (h0 : 0 ≤ a) (h1 : a < 2 ^ 64) : IntKind.u64.wrap a = a := by
  have h : a % 2 ^ 64 = a := Int.emod_eq_of_lt h0 h1
  simp only [IntKind.wrap, IntKind.signed, IntKind.bits, Bool.false_and, Bool.false_eq_true, if_false, h]
theorem tdiv_pos (a b : Int) (h : 0 ≤ a) : a.tdiv b = a / b := Int.tdiv_eq_ediv_of_nonneg h
theorem setRow_heap {w : World} {g : Nat} {t : TypeId} {cs cs' : Array Value} (h : Blk w g t cs) : Blk (w.setRow g cs') g t cs' := by
  unfold Blk at *
  obtain ⟨hlt, hk⟩ := Array.getElem?_eq_some_iff.1 h
  show (w.heap.modify g _)[g]? = _
  rw [Array.getElem?_eq_getElem (by rw [Array.size_modify]; exact hlt), Array.getElem_modify_self, hk]
theorem grownBy_setRow (w : World) (g : Nat) (cs : Array Value) : w.grownBy (w.setRow g cs) (some g) :=
  ⟨rfl, rfl, rfl, by simp, fun k _ hk => by
    show (w.heap.modify g _)[k]? = _
    rw [Array.getElem?_modify]
    have : ¬ g = k := fun e => hk (by rw [e])
    simp [this]⟩
/-- A whole struct or array is stored into a block of its own. -/
theorem store_row_event {P : Program} {ops : Array Oper} {rest : List Oper} {o : Oper} {a : Act} {Q : Exit → Act → World → Prop} {W : World} (hgd : o.guard = none) {T : TypeId} {p : Tmp} {x : Operand} (ho : o.op = .store T (.tmp p) x) (hN : o.dst = none)
    {g : Nat} {cells old : Array Value} {t : TypeId} (hx : (a.eval (.tmp p), a.eval x) = (.pointer (some ⟨g, 0, none⟩), .agg cells)) (hb : Blk W g t old) (hi : (P.info? T).map (·.size) = some cells.size)
    (hs : old.size = cells.size) (h1 : cells.all (·.oneCell') = true)
    (h : ∀ w2, Blk w2 g t cells → W.grownBy w2 (some g) → wpList P ops Q rest a w2) : wpList P ops Q (o :: rest) a W := by
  refine store_event (w1 := W.setRow g cells) hgd ho hN ?_ (fun w' hw => ?_)
  · injection hx with hx1 hx2
    have := run_storeVar_row (P := P) W g t T old cells hb hi hs h1
    unfold execOp
    simp only [ho, hx1, hx2, Instr.storeAt, Instr.sureAddr, Sem.run_bind, Sem.run_pure, Result.andThen_ok, this]
  · subst hw
    exact h _ (setRow_heap hb) (grownBy_setRow W g cells)
theorem run_storeVar_cell {P : Program} (W : World) (T : TypeId) {g i : Nat} {t : TypeId} {cells : Array Value} {old v : Value} (hb : Blk W g t cells) (hi : cells[i]? = some old) (hT : (P.info? T).map (·.size) = some 1) (h1 : v.oneCell' = true) :
    (storeVar T ⟨g, i, none⟩ v).run P W = .ok () (W.setCell ⟨g, i, none⟩ v) := by
  cases hq : P.info? T with
  | none => simp [hq] at hT
  | some z =>
    have hs : z.size = 1 := by simp [hq] at hT; exact hT
    have hc : W.cell? ⟨g, i, none⟩ = some old := (hb.cell i).trans hi
    have hf := hb.frozen i
    have hv : v.cells = #[v] := by cases v <;> first | rfl | (simp [Value.oneCell'] at h1)
    have hst : (store ⟨g, i, none⟩ v).run P W = .ok () (W.setCell ⟨g, i, none⟩ v) := by
      cases v <;> first | (simp [Value.oneCell'] at h1; done) | simp [store, Sem.run, hc, hf]
    simp only [storeVar, sizeOf, typeInfo, Sem.run_bind, hv]
    simp [hq, hs, storeCells, Addr.add, hst, go_sem]
/-- A value of one cell is stored into a block. -/
theorem store_cell_event {P : Program} {ops : Array Oper} {rest : List Oper} {o : Oper} {a : Act} {Q : Exit → Act → World → Prop} {W : World} (hgd : o.guard = none) {T : TypeId} {p : Tmp} {x : Operand} (ho : o.op = .store T (.tmp p) x) (hN : o.dst = none)
    {g i : Nat} {cells cells' : Array Value} {old v : Value} {t : TypeId} (hx : (a.eval (.tmp p), a.eval x) = (.pointer (some ⟨g, i, none⟩), v)) (hb : Blk W g t cells) (hi : cells[i]? = some old) (hT : (P.info? T).map (·.size) = some 1)
    (h1 : v.oneCell' = true) (he : cells.setIfInBounds i v = cells')
    (h : ∀ w2, Blk w2 g t cells' → W.grownBy w2 (some g) → wpList P ops Q rest a w2) : wpList P ops Q (o :: rest) a W := by
  refine store_event (w1 := W.setCell ⟨g, i, none⟩ v) hgd ho hN ?_ (fun w' hw => ?_)
  · injection hx with hx1 hx2
    have := run_storeVar_cell (P := P) W T hb hi hT h1
    unfold execOp
    simp only [ho, hx1, hx2, Instr.storeAt, Instr.sureAddr, Sem.run_bind, Sem.run_pure, Result.andThen_ok, this]
  · subst hw
    exact h _ (blk_put hb i v he) (grownBy_set (World.grownBy.refl _ _) _ _)
/-- A call of a function that has a body enters it. -/
theorem enters {P : Program} {f : FuncId} {fn : Func} {c : Code} (hf : P.funcs[f]? = some fn) (hname : (fn.name == "runtime.NumGoroutine") = false) (hb : fn.body = some c) (args : Array Value) (w : World) : (callFunc f args).run P w = .ok (.enter f args) w := by
  have hn : ¬ fn.name = "runtime.NumGoroutine" := by simpa using hname
  simp [callFunc, Sem.run_bind, hf, hn, hb, go_sem]
theorem index_str {T : TypeId} {P : Program} (hu : P.underlying T = some .string) {s : ByteArray} {i : Nat} {c : UInt8} (h : (bl s)[i]? = some c) (W : World) : (Instr.index T (.string s) (.int .i64 i)).run P W = .ok (.int .u8 c.toNat) W := by
  have hi : i < s.size := by have := (List.getElem?_eq_some_iff.1 h).1; rwa [bl_length] at this
  rw [bl_at hi] at h
  cases h
  simp [Instr.index, run_underlying hu, go_sem, hi]
theorem index_str0 {T : TypeId} {P : Program} (hu : P.underlying T = some .string) {s : ByteArray} {c : UInt8} (h : (bl s)[0]? = some c) (W : World) : (Instr.index T (.string s) (.int .i64 0)).run P W = .ok (.int .u8 c.toNat) W := index_str hu h W
theorem only_of_below {a w : World} (h : Below a.heap.size a w) (row : Option Nat) : a.grownBy w row := ⟨h.os, h.tape, h.output, h.size, fun i hi _ => h.block i hi⟩
end Go.Proofs.YtfnekpgbfdhnmaaDoor

namespace Go.Proofs.YtfnekpgbfdhnmaaDoor
open Go.RowKit Go.Proofs.YtfnekpgbfdhnmaaDoorW.PrintWords Go.Proofs.YtfnekpgbfdhnmaaDoorW.PrintLast Go.Proofs.YtfnekpgbfdhnmaaDoorW.PrintMore Go.Proofs.YtfnekpgbfdhnmaaDoor.PAll
/-- From A to B at most the blocks of S have turned, of those that lay. -/
structure Chg (S : Nat → Prop) (A B : World) : Prop where
  os : B.os = A.os
  tape : B.tape = A.tape
  output : B.output = A.output
  size : A.heap.size ≤ B.heap.size
  block : ∀ k, k < A.heap.size → ¬ S k → B.heap[k]? = A.heap[k]?
namespace Chg
variable {S S' : Nat → Prop} {A B C : World}
theorem refl (S : Nat → Prop) (A : World) : Chg S A A := ⟨rfl, rfl, rfl, Nat.le_refl _, fun _ _ _ => rfl⟩
theorem mono (h : Chg S A B) (hs : ∀ k, S k → S' k) : Chg S' A B := ⟨h.os, h.tape, h.output, h.size, fun k hk hn => h.block k hk fun h2 => hn (hs k h2)⟩
theorem trans (h : Chg S A B) (k : Chg S B C) : Chg S A C :=
  ⟨k.os.trans h.os, k.tape.trans h.tape, k.output.trans h.output, Nat.le_trans h.size k.size, fun i hi hn => (k.block i (Nat.lt_of_lt_of_le hi h.size) hn).trans (h.block i hi hn)⟩
/-- What is new since may turn. -/
theorem andThen (h : Chg S A B) (k : Chg S' B C) (hs : ∀ j, S' j → S j ∨ A.heap.size ≤ j) : Chg S A C :=
  ⟨k.os.trans h.os, k.tape.trans h.tape, k.output.trans h.output, Nat.le_trans h.size k.size, fun i hi hn => (k.block i (Nat.lt_of_lt_of_le hi h.size) (fun h2 => (hs i h2).elim hn (fun h3 => by omega))).trans (h.block i hi hn)⟩
theorem of_grown {row : Option Nat} (h : A.grownBy B row) (hs : ∀ k, row = some k → S k) : Chg S A B :=
  ⟨h.os, h.tape, h.output, h.size, fun k hk hn => h.block k hk fun e => hn (hs k e.symm)⟩
theorem of_below (h : Below A.heap.size A B) (S : Nat → Prop) : Chg S A B := ⟨h.os, h.tape, h.output, h.size, fun k hk _ => h.block k hk⟩
theorem below {n : Nat} (h : Chg S A B) (hn : ∀ k, k < n → ¬ S k) (hl : n ≤ A.heap.size) : Below n A B := ⟨h.os, h.tape, h.output, h.size, fun k hk => h.block k (by omega) (hn k hk)⟩
theorem grownBy {r : Nat} (h : Chg (fun k => k = r) A B) : A.grownBy B (some r) := ⟨h.os, h.tape, h.output, h.size, fun k hk hn => h.block k hk fun e => hn (by rw [e])⟩
theorem putObj (A : World) (r : Nat) (o : Obj) : Chg (fun k => k = r) A (A.putObj r o) := ⟨rfl, rfl, rfl, by simp, fun _ _ hn => World.putObj_heap_other hn⟩
theorem alloc (A : World) (o : Obj) (S : Nat → Prop) : Chg S A (A.alloc o) := of_below ((Below.refl _ A).alloc (Nat.le_refl _) o) S
theorem obj (h : Chg S A B) {k : Nat} {o : Obj} (hk : A.heap[k]? = some o) (hn : ¬ S k) : B.heap[k]? = some o := (h.block k (Array.getElem?_eq_some_iff.1 hk).1 hn).trans hk
theorem blk (h : Chg S A B) {g : Nat} {t : TypeId} {cs : Array Value} (hb : Blk A g t cs) (hn : ¬ S g) : Blk B g t cs := h.obj hb hn
theorem kd {α : Type} {d : Kd α} {e base : Nat} {ok : Nat → Prop} {v : Value} {xs : List α} (h : Chg S A B) (hr : Kd.R d e A base ok v xs) (hn : ∀ k, ok k → ¬ S k) : Kd.R d e B base ok v xs := Kd.R_step hr (fun k ho hk => h.block k hk (hn k ho))
end Chg
/-- The blocks that an iterator turns: those of O, and the first c that it lays. -/
def itOwn (O : Nat → Prop) (n c k : Nat) : Prop := O k ∨ (n ≤ k ∧ k < n + c)
/-- What an iterator comes to, whatever the loop's body: the body keeps what the iterator leans on (K, and what it turns itself); the iterator turns nothing else. -/
def IterSaid (P : Program) (gf : Nat) (lb : Array Value) {α : Type} (encs : α → Array Value) (all : List α) (O K : Nat → Prop) (c : Nat) (St : World → Prop) : Prop :=
  ∀ (l : Nat) (J Jx : List α → World → Prop) (W : World), St W →
    (∀ s A B, J s A → W.heap.size ≤ A.heap.size → Chg (itOwn O W.heap.size c) A B → J s B) → (∀ s A B, Jx s A → W.heap.size ≤ A.heap.size → Chg (itOwn O W.heap.size c) A B → Jx s B) →
    (∀ pre x A, J pre A → (pre ++ [x]) <+: all → W.heap.size + c ≤ A.heap.size → YieldAt Fence.wide 0 P l (encs x) A fun e B =>
      Chg (fun k => ¬ (K k ∨ itOwn O W.heap.size c k)) A B ∧ ((e = .returned (.bool true) ∧ J (pre ++ [x]) B) ∨ (e = .returned (.bool false) ∧ Jx (pre ++ [x]) B))) →
    J [] W → CallsIn Fence.wide 0 P gf (#[.func (.yield l) #[] #[]] ++ lb) W fun e W' => (∃ v, e = .returned v) ∧ (J all W' ∨ ∃ pre x, (pre ++ [x]) <+: all ∧ Jx (pre ++ [x]) W')
/-- As IterSaid; what is handed on is known by a relation only (it may lie in rows that the iterator lays under way). -/
def IterRel (P : Program) (gf : Nat) (lb : Array Value) {α : Type} (Enc : α → World → Array Value → Prop) (all : List α) (O K : Nat → Prop) (c : Nat) (St : World → Prop) : Prop :=
  ∀ (l : Nat) (J Jx : List α → World → Prop) (W : World), St W →
    (∀ s A B, J s A → W.heap.size ≤ A.heap.size → Chg (itOwn O W.heap.size c) A B → J s B) → (∀ s A B, Jx s A → W.heap.size ≤ A.heap.size → Chg (itOwn O W.heap.size c) A B → Jx s B) →
    (∀ pre x vs A, J pre A → (pre ++ [x]) <+: all → W.heap.size + c ≤ A.heap.size → Enc x A vs → YieldAt Fence.wide 0 P l vs A fun e B =>
      Chg (fun k => ¬ (K k ∨ itOwn O W.heap.size c k)) A B ∧ ((e = .returned (.bool true) ∧ J (pre ++ [x]) B) ∨ (e = .returned (.bool false) ∧ Jx (pre ++ [x]) B))) →
    J [] W → CallsIn Fence.wide 0 P gf (#[.func (.yield l) #[] #[]] ++ lb) W fun e W' => (∃ v, e = .returned v) ∧ (J all W' ∨ ∃ pre x, (pre ++ [x]) <+: all ∧ Jx (pre ++ [x]) W')
theorem IterSaid.rel {P : Program} {gf : Nat} {lb : Array Value} {α : Type} {encs : α → Array Value} {all : List α} {O K : Nat → Prop} {c : Nat} {St : World → Prop} (h : IterSaid P gf lb encs all O K c St) :
    IterRel P gf lb (fun x _ vs => vs = encs x) all O K c St :=
  fun l J Jx W hS hJ hJx hY h0 => h l J Jx W hS hJ hJx (fun pre x A hj hp hs => hY pre x _ A hj hp hs rfl) h0
/-- How a round's body may be left. -/
def iterPost {α : Type} (Rk : World → World → Prop) (I : List α → World → Prop) (Ix : Code → List α → World → Prop) (xs : List α) (A : World) : Exit → Act → World → Prop
  | .normal, _, B => Rk A B ∧ I xs B
  | .ret, _, B => Rk A B ∧ Ix .ret xs B
  | .exit id, _, B => Rk A B ∧ Ix (.exit id) xs B
  | .goto t, _, B => Rk A B ∧ Ix (.goto t) xs B
  | .panic _, _, _ => False
  | .outgrown, _, _ => False
/-- The loop's own: the record, the block for deferred calls. -/
def loopOwn (O : Nat → Prop) (n c k : Nat) : Prop := k = n ∨ k = n + 1 ∨ itOwn O (n + 2) c k
/-- What a round keeps. -/
def RkOf (O K : Nat → Prop) (n c : Nat) : World → World → Prop := Chg (fun k => ¬ (K k ∨ loopOwn O n c k))
/-- The statement 'for .. := range g { .. }', not within a round. -/
theorem wp_iterR {P : Program} {α : Type} {g : Operand} {ps : Array Tmp} {assign body : Code} {Q : Exit → Act → World → Prop} {a : Act} {w : World} {gf : Nat} {lb : Array Value} {Enc : α → World → Array Value → Prop} {all : List α} {O K : Nat → Prop} {c : Nat} {St : World → Prop}
    (hg : a.eval g = .func (.func gf) #[] lb) (eg : ∀ args w, (callFunc gf args).run P w = .ok (.enter gf args) w)
    (hit : IterRel P gf lb Enc all O K c St) (hps : ∀ x A vs, Enc x A vs → vs.size = ps.size) (hSt : ∀ W, Below w.heap.size w W → St W)
    (I : List α → World → Prop) (Ix : Code → List α → World → Prop)
    (hK : ∀ k, K k → k < w.heap.size) (hO : ∀ k, O k → k < w.heap.size)
    (hI : ∀ s A B, I s A → w.heap.size ≤ A.heap.size → Chg (loopOwn O w.heap.size c) A B → I s B) (hIx : ∀ q s A B, Ix q s A → w.heap.size ≤ A.heap.size → Chg (loopOwn O w.heap.size c) A B → Ix q s B) (h0 : I [] w)
    (hround : ∀ pre x vs A, I pre A → (pre ++ [x]) <+: all → w.heap.size + 2 + c ≤ A.heap.size → Enc x A vs →
      assign.wpIn (Fence.wide.inRound (w.heap.size + 1)) 0 P (Exit.then (fun a1 A1 => RkOf O K w.heap.size c A A1 ∧ ∀ A2, Chg (fun k => k = w.heap.size + 1) A1 A2 →
        body.wpIn (Fence.wide.inRound (w.heap.size + 1)) 0 P (iterPost (RkOf O K w.heap.size c) I Ix (pre ++ [x]) A2) a1 A2) (fun _ _ _ => False))
        { tmps := (ps.zip vs).foldl (fun t (p, v) => t.setIfInBounds p v) a.tmps, defers := [] } A)
    (hdone : ∀ W, I all W → W.heap[w.heap.size]? = some (.deferred (some [])) → Q .normal { a with defers := { target := .collected w.heap.size, args := #[] } :: a.defers } W)
    (hstop : ∀ q pre x W, (pre ++ [x]) <+: all → Ix q (pre ++ [x]) W → W.heap[w.heap.size]? = some (.deferred (some [])) → q.wp P Q { a with defers := { target := .collected w.heap.size, args := #[] } :: a.defers } W) :
    (Code.rangeFunc g ps assign body).wp P Q a w := by
  refine (wpIn_wide (n := 0)).1 (wpIn_rangeFunc fun fn hfn => ?_)
  obtain ⟨rec, hrec⟩ : ∃ rec : LoopState → Option Code → Loop, rec = fun st pe => { state := st, pending := pe, fn, tmps := a.tmps, params := ps, assign, body, defers := w.heap.size } := ⟨_, rfl⟩
  obtain ⟨D, hD⟩ : ∃ D, w.heap.size = D := ⟨_, rfl⟩
  obtain ⟨W1, hW1⟩ : ∃ W1, (w.alloc (.deferred (some []))).alloc (.loop (rec .ready none)) = W1 := ⟨_, rfl⟩
  have hb1 : Below w.heap.size w W1 := by rw [← hW1]; exact ((Below.refl _ w).alloc (Nat.le_refl _) _).alloc (by simp) _
  have hs1 : W1.heap.size = D + 2 := by rw [← hW1, ← hD]; simp
  have hL1 : W1.heap[D + 1]? = some (.loop (rec .ready none)) := by
    rw [← hW1, ← hD]; have := World.alloc_heap_new (w.alloc (.deferred (some []))) (.loop (rec .ready none)); rwa [World.size_alloc] at this
  have hK1 : W1.heap[D]? = some (.deferred (some [])) := by
    rw [← hW1, ← hD]; exact (Below.heap_alloc _ _ _ (by simp)).trans (World.alloc_heap_new w _)
  have hI1 : I [] W1 := hI _ _ _ h0 (Nat.le_refl _) (Chg.of_below hb1 _)
  have hrun := run_enterLoop_outer (P := P) (w := w) fn a.tmps ps assign body
  rw [hD] at hrun
  have hW1' : (w.alloc (.deferred (some []))).alloc (.loop { state := .ready, pending := none, fn, tmps := a.tmps, params := ps, assign, body, defers := D }) = W1 := by rw [← hW1, hrec, hD]
  rw [hW1'] at hrun
  rw [hD] at hK hO hI hIx hround hdone hstop
  refine ⟨D + 1, [{ target := .collected D, args := #[] }], W1, { target := .fn (.func gf) lb, args := #[.func (.yield (D + 1)) #[] #[]] }, W1, gf,
    #[.func (.yield (D + 1)) #[] #[]] ++ lb, W1, hrun, ?_, fun _ _ => trivial, ?_, fun h => by simp [Fence.wide] at h, ?_⟩
  · simp only [resolve, hg]
    simp [go_sem]
  · simp [invoke, go_sem, eg]
  · have hown : ∀ k, itOwn O W1.heap.size c k → loopOwn O D c k := fun k hk => by rw [hs1] at hk; exact .inr (.inr hk)
    have hDn : ¬ itOwn O W1.heap.size c D := by
      rw [hs1]; rintro (h | h)
      · have := hO _ h; omega
      · omega
    have hLn : ¬ itOwn O W1.heap.size c (D + 1) := by
      rw [hs1]; rintro (h | h)
      · have := hO _ h; omega
      · omega
    have hsz : ∀ {A : World}, W1.heap.size ≤ A.heap.size → D ≤ A.heap.size := fun h => by omega
    refine (hit (D + 1)
      (fun pre W => I pre W ∧ W.heap[D + 1]? = some (.loop (rec .ready none)) ∧ W.heap[D]? = some (.deferred (some [])))
      (fun pre W => ∃ q, Ix q pre W ∧ W.heap[D + 1]? = some (.loop (rec .done (some q))) ∧ W.heap[D]? = some (.deferred (some [])))
      W1 (hSt _ hb1) (fun s A B hs hl hc => ⟨hI s A B hs.1 (hsz hl) (hc.mono hown), hc.obj hs.2.1 hLn, hc.obj hs.2.2 hDn⟩)
      (fun s A B hs hl hc => by obtain ⟨q, h1, h2, h3⟩ := hs; exact ⟨q, hIx q s A B h1 (hsz hl) (hc.mono hown), hc.obj h2 hLn, hc.obj h3 hDn⟩)
      ?_ ⟨hI1, hL1, hK1⟩).mono ?_
    · rintro pre x vs A ⟨hi, hl, hk⟩ hpre hsA hen
      have hlt : D + 1 < A.heap.size := (Array.getElem?_eq_some_iff.1 hl).1
      have hy := run_yield (P := P) (args := vs) hl (by rw [hrec]; exact hps x A vs hen)
      rw [hrec] at hy
      have hKl : ∀ k, K k ∨ itOwn O W1.heap.size c k → K k ∨ loopOwn O D c k := fun k hk => hk.imp id (hown k)
      have hchg : ∀ {X Y : World}, Chg (fun k => k = D + 1) X Y → Chg (fun k => ¬ (K k ∨ itOwn O W1.heap.size c k)) X Y := fun h => h.mono fun k hk => by
        subst hk
        rintro (h | h)
        · have := hK _ h; omega
        · exact hLn h
      refine ⟨fn, _, assign, body, hy, roundIn_of_wpIn hfn (wpIn_mono (hround pre x vs A hi hpre (by omega) hen) ?_)⟩
      rintro e a1 A1 hp
      cases e with
      | normal =>
        obtain ⟨hr1, hbody⟩ := hp
        have hl1 := hr1.obj hl (fun h => h (.inr (.inr (.inl rfl))))
        have hk1 := hr1.obj hk (fun h => h (.inr (.inl rfl)))
        have hlt1 : D + 1 < A1.heap.size := (Array.getElem?_eq_some_iff.1 hl1).1
        refine ⟨_, run_beginRound hl1 (by rw [hrec]), ?_⟩
        have hl2 : (A1.putObj (D + 1) (.loop { rec .ready none with state := .busy })).heap[D + 1]? = some (.loop { rec .ready none with state := .busy }) := World.putObj_heap_same hlt1
        have hk2 : (A1.putObj (D + 1) (.loop { rec .ready none with state := .busy })).heap[D]? = some (.deferred (some [])) := (World.putObj_heap_other (by omega)).trans hk1
        have hc2 := Chg.putObj A1 (D + 1) (.loop { rec .ready none with state := .busy })
        have hA2 : Chg (fun k => ¬ (K k ∨ itOwn O W1.heap.size c k)) A (A1.putObj (D + 1) (.loop { rec .ready none with state := .busy })) := (hr1.mono fun k hk h => hk (hKl k h)).trans (hchg hc2)
        refine wpIn_mono (hbody _ hc2) ?_
        have fin : ∀ (jump : Option Code) (W3 : World), RkOf O K D c (A1.putObj (D + 1) (.loop { rec .ready none with state := .busy })) W3 →
            (Instr.endRound (D + 1) jump).run P W3 = .ok (.bool jump.isNone) (W3.putObj (D + 1) (.loop (rec (if jump.isNone then .ready else .done) jump))) ∧
            Chg (fun k => k = D + 1) W3 (W3.putObj (D + 1) (.loop (rec (if jump.isNone then .ready else .done) jump))) ∧ D ≤ W3.heap.size ∧
            (W3.putObj (D + 1) (.loop (rec (if jump.isNone then .ready else .done) jump))).heap[D + 1]? = some (.loop (rec (if jump.isNone then .ready else .done) jump)) ∧
            (W3.putObj (D + 1) (.loop (rec (if jump.isNone then .ready else .done) jump))).heap[D]? = some (.deferred (some [])) ∧
            Chg (fun k => ¬ (K k ∨ itOwn O W1.heap.size c k)) A (W3.putObj (D + 1) (.loop (rec (if jump.isNone then .ready else .done) jump))) := fun jump W3 hk3 => by
          have hl3 := hk3.obj hl2 (fun h => h (.inr (.inr (.inl rfl))))
          have hd3 := hk3.obj hk2 (fun h => h (.inr (.inl rfl)))
          have hlt3 := (Array.getElem?_eq_some_iff.1 hl3).1
          have hcp := Chg.putObj W3 (D + 1) (.loop (rec (if jump.isNone then .ready else .done) jump))
          have := run_endRound (P := P) jump hl3
          refine ⟨?_, hcp, by omega, World.putObj_heap_same hlt3, (World.putObj_heap_other (by omega)).trans hd3, (hA2.trans (hk3.mono fun k hk h => hk (hKl k h))).trans (hchg hcp)⟩
          rw [hrec] at this ⊢
          exact this
        have hlo : ∀ {X Y : World}, Chg (fun k => k = D + 1) X Y → Chg (loopOwn O D c) X Y := fun h => h.mono fun k hk => .inr (.inl hk)
        rintro e a3 W3 hp3
        cases e with
        | normal =>
          obtain ⟨hk3, hi3⟩ := hp3
          obtain ⟨hr, hcp, hD3, hl4, hk4, hc4⟩ := fin none W3 hk3
          exact ⟨_, _, hr, hc4, .inl ⟨rfl, hI _ _ _ hi3 hD3 (hlo hcp), hl4, hk4⟩⟩
        | ret =>
          obtain ⟨hk3, hi3⟩ := hp3
          obtain ⟨hr, hcp, hD3, hl4, hk4, hc4⟩ := fin (some .ret) W3 hk3
          exact ⟨_, _, hr, hc4, .inr ⟨rfl, .ret, hIx _ _ _ _ hi3 hD3 (hlo hcp), hl4, hk4⟩⟩
        | exit id =>
          obtain ⟨hk3, hi3⟩ := hp3
          obtain ⟨hr, hcp, hD3, hl4, hk4, hc4⟩ := fin (some (.exit id)) W3 hk3
          exact ⟨_, _, hr, hc4, .inr ⟨rfl, .exit id, hIx _ _ _ _ hi3 hD3 (hlo hcp), hl4, hk4⟩⟩
        | goto t =>
          obtain ⟨hk3, hi3⟩ := hp3
          obtain ⟨hr, hcp, hD3, hl4, hk4, hc4⟩ := fin (some (.goto t)) W3 hk3
          exact ⟨_, _, hr, hc4, .inr ⟨rfl, .goto t, hIx _ _ _ _ hi3 hD3 (hlo hcp), hl4, hk4⟩⟩
        | panic ch => exact hp3.elim
        | outgrown => exact hp3.elim
      | ret => exact hp.elim
      | exit id => exact hp.elim
      | goto t => exact hp.elim
      | panic ch => exact hp.elim
      | outgrown => exact hp.elim
    · have hlo : ∀ {X Y : World}, Chg (fun k => k = D + 1) X Y → Chg (loopOwn O D c) X Y := fun h => h.mono fun k hk => .inr (.inl hk)
      rintro e W2 ⟨⟨v, rfl⟩, (⟨hi, hl, hk⟩ | ⟨pre, x, hpre, q, hi, hl, hk⟩)⟩
      · have hlt := (Array.getElem?_eq_some_iff.1 hl).1
        refine ⟨none, _, by have := run_endLoop (P := P) hl (by rw [hrec]; simp); rw [hrec] at this; exact this, ?_⟩
        exact hdone _ (hI _ _ _ hi (by omega) (hlo (Chg.putObj _ _ _))) ((World.putObj_heap_other (by omega)).trans hk)
      · have hlt := (Array.getElem?_eq_some_iff.1 hl).1
        refine ⟨some q, _, by have := run_endLoop (P := P) hl (by rw [hrec]; simp); rw [hrec] at this; exact this, ?_⟩
        exact (wpIn_wide (n := 0)).2 (hstop q pre x _ hpre (hIx _ _ _ _ hi (by omega) (hlo (Chg.putObj _ _ _))) ((World.putObj_heap_other (by omega)).trans hk))
/-- The same, where what is handed on is known beforehand. -/
theorem wp_iter {P : Program} {α : Type} {g : Operand} {ps : Array Tmp} {assign body : Code} {Q : Exit → Act → World → Prop} {a : Act} {w : World} {gf : Nat} {lb : Array Value} {encs : α → Array Value} {all : List α} {O K : Nat → Prop} {c : Nat} {St : World → Prop}
    (hg : a.eval g = .func (.func gf) #[] lb) (eg : ∀ args w, (callFunc gf args).run P w = .ok (.enter gf args) w)
    (hit : IterSaid P gf lb encs all O K c St) (hps : ∀ x, (encs x).size = ps.size) (hSt : ∀ W, Below w.heap.size w W → St W)
    (I : List α → World → Prop) (Ix : Code → List α → World → Prop)
    (hK : ∀ k, K k → k < w.heap.size) (hO : ∀ k, O k → k < w.heap.size)
    (hI : ∀ s A B, I s A → w.heap.size ≤ A.heap.size → Chg (loopOwn O w.heap.size c) A B → I s B) (hIx : ∀ q s A B, Ix q s A → w.heap.size ≤ A.heap.size → Chg (loopOwn O w.heap.size c) A B → Ix q s B) (h0 : I [] w)
    (hround : ∀ pre x A, I pre A → (pre ++ [x]) <+: all → w.heap.size + 2 + c ≤ A.heap.size →
      assign.wpIn (Fence.wide.inRound (w.heap.size + 1)) 0 P (Exit.then (fun a1 A1 => RkOf O K w.heap.size c A A1 ∧ ∀ A2, Chg (fun k => k = w.heap.size + 1) A1 A2 →
        body.wpIn (Fence.wide.inRound (w.heap.size + 1)) 0 P (iterPost (RkOf O K w.heap.size c) I Ix (pre ++ [x]) A2) a1 A2) (fun _ _ _ => False))
        { tmps := (ps.zip (encs x)).foldl (fun t (p, v) => t.setIfInBounds p v) a.tmps, defers := [] } A)
    (hdone : ∀ W, I all W → W.heap[w.heap.size]? = some (.deferred (some [])) → Q .normal { a with defers := { target := .collected w.heap.size, args := #[] } :: a.defers } W)
    (hstop : ∀ q pre x W, (pre ++ [x]) <+: all → Ix q (pre ++ [x]) W → W.heap[w.heap.size]? = some (.deferred (some [])) → q.wp P Q { a with defers := { target := .collected w.heap.size, args := #[] } :: a.defers } W) :
    (Code.rangeFunc g ps assign body).wp P Q a w :=
  wp_iterR hg eg hit.rel (fun x _ _ h => by rw [h]; exact hps x) hSt I Ix hK hO hI hIx h0 (fun pre x vs A hi hp hs he => by rw [he]; exact hround pre x A hi hp hs) hdone hstop
/-- A function's contract out of its body's walk, where marks of loops may stand among its deferred calls. -/
theorem calls_of_wp_marks {P : Program} {f : FuncId} {fn : Func} {c : Code} {args : Array Value} {w : World} {R : Ending → World → Prop} (hf : P.funcs[f]? = some fn) (hb : fn.body = some c)
    (h : c.wp P (bodyPostM Fence.wide 0 P fn R) { tmps := args ++ Array.replicate (fn.ntmps - args.size) undef, defers := [] } w) : Calls P f args w R :=
  callsIn_wide.1 (callsIn_of_wp_marks (F := Fence.wide) (n := 0) hf hb trivial (wpIn_wide.2 h) rfl)
/-- The marks of the loops that were. -/
def marks (ds : List Nat) : List Deferred := ds.map fun d => { target := .collected d, args := #[] }
/-- Behind the marks. -/
theorem leaves_marks {P : Program} {fn : Func} {tmps : Array Value} {R : Ending → World → Prop} {v : Value} : ∀ (ds : List Nat) (w : World), ds.Nodup → (∀ d, d ∈ ds → w.heap[d]? = some (.deferred (some []))) →
    (∀ w', Chg (fun k => k ∈ ds) w w' → (results fn tmps).run P w' = .ok v w' ∧ R (.returned v) w') → LeavesInM Fence.wide 0 P fn tmps R (marks ds) .returning w
  | [], w, _, _, h => ⟨v, (h w (Chg.refl _ _)).1, (h w (Chg.refl _ _)).2⟩
  | d :: ds, w, hn, hd, h => by
    refine ⟨by simp, .inl ⟨d, _, rfl, run_takeDeferred (hd d (by simp)), leaves_marks ds _ (List.nodup_cons.1 hn).2 (fun k hk => ?_) (fun w' hw => h w' ?_)⟩⟩
    · exact (World.putObj_heap_other (fun e : k = d => (List.nodup_cons.1 hn).1 (by rw [← e]; exact hk))).trans (hd k (by simp [hk]))
    · exact ((Chg.putObj w d _).mono fun k hk => by simp [hk]).trans (hw.mono fun k hk => by simp [hk])
end Go.Proofs.YtfnekpgbfdhnmaaDoor

namespace Go.Proofs.YtfnekpgbfdhnmaaDoor
open Go.RowKit Go.Proofs.YtfnekpgbfdhnmaaDoorW.PrintWords Go.Proofs.YtfnekpgbfdhnmaaDoorW.PrintLast Go.Proofs.YtfnekpgbfdhnmaaDoorW.PrintMore Go.Proofs.YtfnekpgbfdhnmaaDoor.PAll
/-- What was made goes on through a turn of a block of another type. -/
theorem kd_keep {α : Type} {d : Kd α} {e base : Nat} {ok : Nat → Prop} {W w1 : World} {v : Value} {xs : List α} (h : Kd.R d e W base ok v xs) {g t : Nat} {cs : Array Value} (hg : W.grownBy w1 (some g)) (hb : Blk W g t cs) (ht : ∀ q, q ∈ e :: d.E → q ≠ t) : Kd.R d e w1 base ok v xs :=
  Kd.R_mono (Kd.R_grown (Kd.R_types h hb ht) hg (fun k hk => by simpa using hk.2)) (fun _ hk => hk.1)
section
variable {P : Program} {ops : Array Oper} {Q : Exit → Act → World → Prop} {md : Region.Mode} {S : World → Prop} {tl : Nat → Bool}
/-- Whatever comes up: S holds behind it, unless it is one of the tail. -/
def AnyL (P : Program) (md : Region.Mode) (ops : Array Oper) (Q : Exit → Act → World → Prop) (S : World → Prop) (tl : Nat → Bool) : Nat → Array Bool → Act → World → Prop
  | 0, listed, a, w => Region.ready md ops listed = [] ∧ Q .normal a w
  | f + 1, listed, a, w => (Region.ready md ops listed = [] → Q .normal a w) ∧
    ∀ i ∈ Region.ready md ops listed, wpOp P ops Q i (fun a' w' => (tl i = false → S w') ∧ AnyL P md ops Q S tl f (listed.setIfInBounds i true) a' w') a w
theorem any_of_L : ∀ (f : Nat) (listed : Array Bool) (a : Act) (w : World), AnyL P md ops Q S tl f listed a w → wpAny P md ops Q f listed a w
  | 0, _, _, _, h => h
  | f + 1, _, _, _, h => ⟨h.1, fun i hi => wpOp_mono (fun a' w' h' => any_of_L f _ a' w' h'.2) (h.2 i hi)⟩
theorem AnyL_first {i : Nat} {oi : Oper} {v : Value} (hi : ops[i]? = some oi) (hsel : ∀ (j : Nat) (o : Oper) cs b, ops[j]? = some o → o.op ≠ .select cs b)
    (hQ : ∀ c a w, Q (.panic c) (a.put oi.dst v) w → Q (.panic c) a w) :
    ∀ (f : Nat) (listed : Array Bool) (a : Act) (w : World),
      (∀ j oj, ops[j]? = some oj → j ≠ i → listed.getD j true = false → (∀ e ∈ oj.after, Region.binds md e = true → e.on ≠ i) → oi.apart ops oj = true) →
      (∀ j oj, ops[j]? = some oj → tl j = true → j ≠ i → ∃ e ∈ oj.after, Region.binds md e = true ∧ e.on = i) →
      i ∈ Region.ready md ops listed → YieldsIf P ops S oi v a → S w →
      AnyL P md ops Q S tl f (listed.setIfInBounds i true) (a.put oi.dst v) w → AnyL P md ops Q S tl (f + 1) listed a w := by
  intro f
  induction f with
  | zero =>
    intro listed a w _ _ hr hy hS H
    refine ⟨fun h => (by rw [h] at hr; cases hr), fun j hj => ?_⟩
    by_cases hji : j = i
    · subst hji; exact hy.wpOp hi hS ⟨fun _ => hS, H⟩
    · have := ready_mono hj hji
      rw [H.1] at this
      cases this
  | succ f ih =>
    intro listed a w hfree htl hr hy hS H
    refine ⟨fun h => (by rw [h] at hr; cases hr), fun j hj => ?_⟩
    by_cases hji : j = i
    · subst hji; exact hy.wpOp hi hS ⟨fun _ => hS, H⟩
    · have h1 := H.2 j (ready_mono hj hji)
      obtain ⟨hjun, oj, hoj, hall⟩ := mem_ready.1 hj
      have hnot : ∀ e ∈ oj.after, Region.binds md e = true → e.on ≠ i := by
        intro e he hb heq
        have h1 := hall e he hb
        have h0 := (mem_ready.1 hr).1
        rw [heq] at h1
        rcases Nat.lt_or_ge i listed.size with h' | h'
        · simp [h'] at h0 h1; rw [h0] at h1; cases h1
        · simp [Array.getElem?_eq_none h'] at h1
      have h2 := wpOp_putIf hoj (hfree j oj hoj hji hjun hnot) (fun cs b => hsel i oi cs b hi) (fun cs b => hsel j oj cs b hoj) hQ hy h1
      have hfree' : ∀ k ok, ops[k]? = some ok → k ≠ i → (listed.setIfInBounds j true).getD k true = false →
          (∀ e ∈ ok.after, Region.binds md e = true → e.on ≠ i) → oi.apart ops ok = true := by
        intro k ok hk hki hun hno
        refine hfree k ok hk hki ?_ hno
        by_cases hjk : j = k
        · subst hjk; exact hjun
        · rw [getD_set_ne true hjk] at hun; exact hun
      refine wpOp_mono (fun a' w' h3 => ?_) h2
      have htj : tl j = false := by
        cases hb : tl j with
        | false => rfl
        | true =>
          obtain ⟨e, he, hbd, heq⟩ := htl j oj hoj hb hji
          exact absurd heq (hnot e he hbd)
      have hS' : S w' := h3.2.1 htj
      refine ⟨fun _ => hS', ih (listed.setIfInBounds j true) a' w' hfree' htl (ready_mono hr (Ne.symm hji)) h3.1 hS' ?_⟩
      rw [Array.setIfInBounds_comm _ _ hji]
      exact h3.2.2
/-- All of the tail wait for number i. -/
def waitFor (md : Region.Mode) (ops : Array Oper) (tl : Nat → Bool) (i : Nat) : Bool :=
  (List.range ops.size).all fun j => !tl j || j == i || (ops.getD j default).after.any fun e => Region.binds md e && e.on == i
theorem waitFor_spec {i : Nat} (h : waitFor md ops tl i = true) (j : Nat) (oj : Oper) (hj : ops[j]? = some oj) (ht : tl j = true) (hji : j ≠ i) : ∃ e ∈ oj.after, Region.binds md e = true ∧ e.on = i := by
  have hlt : j < ops.size := (Array.getElem?_eq_some_iff.1 hj).1
  have h1 := (List.all_eq_true.1 h) j (by simpa using hlt)
  have hg : ops.getD j default = oj := by rw [Array.getD_eq_getD_getElem?, hj]; rfl
  rw [hg] at h1
  simp only [ht, Bool.not_true, Bool.false_or, Bool.or_eq_true, beq_iff_eq, hji, false_or] at h1
  obtain ⟨e, he, hb⟩ := Array.any_eq_true'.1 h1
  simp only [Bool.and_eq_true, beq_iff_eq] at hb
  exact ⟨e, he, hb⟩
/-- Number i is taken first: it only reads. -/
theorem draw_take {i : Nat} {oi : Oper} {v : Value} {f : Nat} {listed l2 : Array Bool} {a : Act} {w : World} (hi : ops[i]? = some oi)
    (hs : Region.noSelect ops = true) (hf : Region.free md ops listed i = true) (hr : (Region.ready md ops listed).contains i = true) (hl : listed.setIfInBounds i true = l2)
    (ht : waitFor md ops tl i = true)
    (hQ : ∀ c a w, Q (.panic c) (a.put oi.dst v) w → Q (.panic c) a w) (hy : YieldsIf P ops S oi v a) (hS : S w)
    (h : AnyL P md ops Q S tl f l2 (a.put oi.dst v) w) : AnyL P md ops Q S tl (f + 1) listed a w :=
  AnyL_first hi (Region.noSelect_spec hs) hQ f listed a w (Region.free_spec hi hf) (waitFor_spec ht) (by simpa using hr) hy hS (hl ▸ h)
/-- One operation alone may come up. -/
theorem draw_one {i : Nat} {f : Nat} {listed l2 : Array Bool} {a : Act} {w : World} (hr : Region.ready md ops listed = [i]) (hl : listed.setIfInBounds i true = l2)
    (h : wpOp P ops Q i (fun a' w' => (tl i = false → S w') ∧ AnyL P md ops Q S tl f l2 a' w') a w) : AnyL P md ops Q S tl (f + 1) listed a w :=
  ⟨fun h0 => (by rw [hr] at h0; cases h0), fun j hj => by
    rw [hr] at hj
    obtain rfl : j = i := by simpa using hj
    rw [hl]; exact h⟩
/-- One of two may come up. -/
theorem draw_two {i j : Nat} {f : Nat} {listed li lj : Array Bool} {a : Act} {w : World} (hr : Region.ready md ops listed = [i, j]) (hli : listed.setIfInBounds i true = li) (hlj : listed.setIfInBounds j true = lj)
    (h : wpOp P ops Q i (fun a' w' => (tl i = false → S w') ∧ AnyL P md ops Q S tl f li a' w') a w)
    (h' : wpOp P ops Q j (fun a' w' => (tl j = false → S w') ∧ AnyL P md ops Q S tl f lj a' w') a w) : AnyL P md ops Q S tl (f + 1) listed a w :=
  ⟨fun h0 => (by rw [hr] at h0; cases h0), fun k hk => by
    rw [hr] at hk
    rcases (by simpa using hk : k = i ∨ k = j) with rfl | rfl
    · rw [hli]; exact h
    · rw [hlj]; exact h'⟩
theorem draw_done {listed : Array Bool} {a : Act} {w : World} (hr : Region.ready md ops listed = []) (h : Q .normal a w) : AnyL P md ops Q S tl 0 listed a w := ⟨hr, h⟩
/-- The beginning. -/
theorem draw_begin {id : Nat} {a : Act} {w : World} (S : World → Prop) (tl : Nat → Bool) (hm : P.follows .mixedOrders = true) {n : Nat} {l : Array Bool} (hn : ops.size = n) (hl : Array.replicate n false = l)
    (h : ∀ W : World, W.heap = w.heap → w.grownBy W none → AnyL P .any ops Q S tl n l a W) : (Code.region id ops true).wp P Q a w := by
  subst hn; subst hl
  exact wp_region_any hm (any_of_L _ _ _ _ (h { w with drawn := w.drawn + 1 } rfl ⟨rfl, rfl, rfl, Nat.le_refl _, fun _ _ _ => rfl⟩))
/-- A whole struct or array is stored. -/
theorem run_store_row {o : Oper} {a : Act} {W : World} {T : TypeId} {x y : Operand} (ho : o.op = .store T x y) {g : Nat} {cells old : Array Value} {t : TypeId} (hx : (a.eval x, a.eval y) = (.pointer (some ⟨g, 0, none⟩), .agg cells)) (hb : Blk W g t old)
    (hi : (P.info? T).map (·.size) = some cells.size) (hs : old.size = cells.size) (h1 : cells.all (·.oneCell') = true) : (execOp a.eval o).run P W = .ok .skip (W.setRow g cells) := by
  injection hx with hx1 hx2
  have := run_storeVar_row (P := P) W g t T old cells hb hi hs h1
  unfold execOp
  simp only [ho, hx1, hx2, Instr.storeAt, Instr.sureAddr, Sem.run_bind, Sem.run_pure, Result.andThen_ok, this]
/-- One cell is stored. -/
theorem run_store_cell {o : Oper} {a : Act} {W : World} {T : TypeId} {x y : Operand} (ho : o.op = .store T x y) {g i : Nat} {cells : Array Value} {old v : Value} {t : TypeId} (hx : (a.eval x, a.eval y) = (.pointer (some ⟨g, i, none⟩), v)) (hb : Blk W g t cells)
    (hi : cells[i]? = some old) (hT : (P.info? T).map (·.size) = some 1) (h1 : v.oneCell' = true) : (execOp a.eval o).run P W = .ok .skip (W.setCell ⟨g, i, none⟩ v) := by
  injection hx with hx1 hx2
  have := run_storeVar_cell (P := P) W T hb hi hT h1
  unfold execOp
  simp only [ho, hx1, hx2, Instr.storeAt, Instr.sureAddr, Sem.run_bind, Sem.run_pure, Result.andThen_ok, this]
/-- An operation that yields a value. -/
theorem op_value {i : Nat} {o : Oper} {v : Value} {a : Act} {w w1 : World} {K : Act → World → Prop} (hi : ops[i]? = some o) (hw : Region.wanted o (yielded ops a.tmps) = true) (hr : (execOp a.eval o).run P w = .ok (.value v) w1)
    (h : K (a.put o.dst v) w1) : wpOp P ops Q i K a w := by
  unfold wpOp; simp only [hi, hw, if_true, Oper.wp, hr, Oper.upon]; exact .inl h
/-- An operation that yields none. -/
theorem op_skip {i : Nat} {o : Oper} {a : Act} {w w1 : World} {K : Act → World → Prop} (hi : ops[i]? = some o) (hw : Region.wanted o (yielded ops a.tmps) = true) (hr : (execOp a.eval o).run P w = .ok .skip w1)
    (h : K (a.put o.dst undef) w1) : wpOp P ops Q i K a w := by
  unfold wpOp; simp only [hi, hw, if_true, Oper.wp, hr, Oper.upon]; exact .inl h
/-- A call. -/
theorem op_call {i : Nat} {o : Oper} {a : Act} {w : World} {f : FuncId} {args : Array Value} {K : Act → World → Prop} {R : Ending → World → Prop} (hi : ops[i]? = some o) (hw : Region.wanted o (yielded ops a.tmps) = true) (hr : (execOp a.eval o).run P w = .ok (.enter f args) w)
    (hc : Calls P f args w R) (h : ∀ v w1, R (.returned v) w1 → K (a.put o.dst v) w1) (hp : ∀ c w1, R (.panicked c) w1 → Q (.panic c) a w1) (ho : ∀ w1, ¬ R .outgrown w1) : wpOp P ops Q i K a w := by
  unfold wpOp; simp only [hi, hw, if_true, Oper.wp, hr, Oper.upon]
  refine .inl (hc.mono fun e w1 hR => ?_)
  cases e with
  | returned v => exact h v w1 hR
  | panicked c => exact hp c w1 hR
  | outgrown => exact absurd hR (ho w1)
/-- A step that is written out. -/
theorem op_step {i : Nat} {o : Oper} {a : Act} {w : World} {K : Act → World → Prop} (hi : ops[i]? = some o) (h : if Region.wanted o (yielded ops a.tmps) = true then Oper.wp P o a w K Q else K (a.put o.dst undef) w) : wpOp P ops Q i K a w := by
  unfold wpOp
  simp only [hi]
  by_cases hw : Region.wanted o (yielded ops a.tmps) = true
  · rw [if_pos hw] at h ⊢; exact .inl h
  · rw [if_neg hw] at h ⊢; exact h
/-- An operation that isn't wanted. -/
theorem op_off {i : Nat} {o : Oper} {a : Act} {w : World} {K : Act → World → Prop} (hi : ops[i]? = some o) (hw : Region.wanted o (yielded ops a.tmps) = false) (h : K (a.put o.dst undef) w) : wpOp P ops Q i K a w := by
  unfold wpOp; simp only [hi, hw, Bool.false_eq_true, if_false]; exact h
end
end Go.Proofs.YtfnekpgbfdhnmaaDoor

namespace Go.Proofs.YtfnekpgbfdhnmaaDoor
open Go.RowKit Go.Proofs.YtfnekpgbfdhnmaaDoorW.PrintWords Go.Proofs.YtfnekpgbfdhnmaaDoorW.PrintLast Go.Proofs.YtfnekpgbfdhnmaaDoorW.PrintMore Go.Proofs.YtfnekpgbfdhnmaaDoor.PAll
/-- The words, in the order of the Kinds. -/
def wordsL : List ByteArray := [⟨#[]⟩, ⟨#[117, 110, 105, 116]⟩, ⟨#[]⟩, ⟨#[112, 97, 105, 114]⟩, ⟨#[99, 104, 97, 110]⟩, ⟨#[115, 101, 110, 100]⟩, ⟨#[114, 101, 99, 118]⟩, ⟨#[97, 108, 119, 97, 121, 115]⟩, ⟨#[110, 101, 118, 101, 114]⟩, ⟨#[99, 104, 111, 111, 115, 101]⟩, ⟨#[119, 114, 97, 112]⟩, ⟨#[103, 117, 97, 114, 100]⟩, ⟨#[110, 97, 99, 107]⟩, ⟨#[99, 111, 110, 100]⟩]
def wordsV : Array Value := (wordsL.map Value.string).toArray
def words0 : Array Value := (List.replicate 14 (Value.string ⟨#[]⟩)).toArray
set_option maxHeartbeats 1000000 in
theorem words_calls (w : World) :
    Calls Tryd.prog 33 #[] w fun e w' => e = .returned (.agg wordsV) ∧ Below w.heap.size w w' := by
  go_enter Tryd.func33, Tryd.ntmps33
  go_wp2_with (first
    | ((with_reducible refine gate_dst (N := 0) rfl ?_); refine box_event rfl (N := 0) rfl (cs := words0) (t := 74) (by kernel_rfl) ?_; intro g hg w1 hb hbel; have hge : w.heap.size ≤ g := Nat.le_of_eq hg.symm; clear hg)
    | ((with_reducible refine gate_dst (N := 1) rfl ?_); refine Kd.event_run rfl (v := .agg wordsV) (w1 := w1) (by kernel_rfl) ?_)
    | ((with_reducible refine gate_store rfl ?_); refine store_row_event rfl rfl rfl rfl hb (by kernel_rfl) rfl (by kernel_rfl) ?_; intro w2 hb2 hg2; clear hb))
  refine bodyPost_ret (results_cell_row rfl _ _ g 74 wordsV (0, 0) _ rfl hb2 Tryd.underlying74 rfl (by kernel_rfl)) rfl ⟨rfl, hbel.grown hg2 hbel.size (by rintro k ⟨⟩; exact hge)⟩
/-- What a Kind needs: least, most, what may stand first, and behind that. -/
def fnV (f : Nat) : Value := .func (.func f) #[] #[]
def need0 : List Value := [.int .i64 0, .int .i64 0, .nilFunc, .nilFunc]
def needOf (least most : Int) (f g : Nat) : List Value := [.int .i64 least, .int .i64 most, fnV f, fnV g]
def needsL : List (List Value) :=
  [need0, need0, need0, needOf 2 2 27 27, need0, needOf 2 2 75 27, needOf 1 1 75 27,
   needOf 1 1 27 27, need0, needOf 0 16 76 76, needOf 1 9 76 27,
   needOf 0 8 27 27, needOf 0 8 27 27, need0]
def needsV : Array Value := (needsL.flatten).toArray
def needs0 : Array Value := ((List.replicate 14 need0).flatten).toArray
set_option maxHeartbeats 1000000 in
theorem needs_calls (w : World) :
    Calls Tryd.prog 54 #[] w fun e w' => e = .returned (.agg needsV) ∧ Below w.heap.size w w' := by
  go_enter Tryd.func54, Tryd.ntmps54
  go_wp2_with (first
    | ((with_reducible refine gate_dst (N := 0) rfl ?_); refine box_event rfl (N := 0) rfl (cs := needs0) (t := 112) (by kernel_rfl) ?_; intro g hg w1 hb hbel; have hge : w.heap.size ≤ g := Nat.le_of_eq hg.symm; clear hg)
    | ((with_reducible refine gate_dst (N := 19) rfl ?_); refine Kd.event_run rfl (v := .agg needsV) (w1 := w1) (by kernel_rfl) ?_)
    | ((with_reducible refine gate_store rfl ?_); refine store_row_event rfl rfl rfl rfl hb (by kernel_rfl) rfl (by kernel_rfl) ?_; intro w2 hb2 hg2; clear hb))
  refine bodyPost_ret (results_cell_row rfl _ _ g 112 needsV (0, 0) _ rfl hb2 Tryd.underlying112 rfl (by kernel_rfl)) rfl ⟨rfl, hbel.grown hg2 hbel.size (by rintro k ⟨⟩; exact hge)⟩
end Go.Proofs.YtfnekpgbfdhnmaaDoor

namespace Go.Proofs.YtfnekpgbfdhnmaaDoor
open Go.RowKit Go.Proofs.YtfnekpgbfdhnmaaDoorW.PrintWords Go.Proofs.YtfnekpgbfdhnmaaDoorW.PrintLast Go.Proofs.YtfnekpgbfdhnmaaDoorW.PrintMore Go.Proofs.YtfnekpgbfdhnmaaDoor.PAll
def wordOf (k : Int) : ByteArray := wordsL.getD k.toNat ⟨#[]⟩
theorem words_index (k : Int) (h0 : 0 ≤ k) (h1 : k ≤ 13) : ∀ W, (Instr.index 74 (.agg wordsV) (.int .i64 k)).run Tryd.prog W = .ok (.string (wordOf k)) W := by
  intro W
  have : k = 0 ∨ k = 1 ∨ k = 2 ∨ k = 3 ∨ k = 4 ∨ k = 5 ∨ k = 6 ∨ k = 7 ∨ k = 8 ∨ k = 9 ∨ k = 10 ∨ k = 11 ∨ k = 12 ∨ k = 13 := by omega
  rcases this with rfl | rfl | rfl | rfl | rfl | rfl | rfl | rfl | rfl | rfl | rfl | rfl | rfl | rfl <;> (show _ = _; kernel_rfl)
set_option maxHeartbeats 1000000 in
theorem Word_calls (k : Int) (w : World) :
    Calls Tryd.prog 12 #[.int .i64 k] w fun e w' => e = .returned (.tuple #[.string (wordOf k), .bool (!(bl (wordOf k)).isEmpty)]) ∧ Below w.heap.size w w' := by
  by_cases h : 0 ≤ k ∧ k ≤ 13
  · obtain ⟨h0, h1⟩ := h
    have hix := words_index k h0 h1
    generalize wordOf k = x at *
    go_enter Tryd.func12, Tryd.ntmps12
    go_wp2_with (first
      | (go_at_call 33; refine (words_calls _).mono ?_; rintro e w' ⟨rfl, hb⟩))
    exact bodyPost_ret (v := .tuple #[.string x, .bool (!x.toList.isEmpty)]) (by simp [results, Tryd.results12, go_sem]) rfl ⟨by rw [ByteArray.toList_eq]; rfl, hb⟩
  · have hx : wordOf k = ⟨#[]⟩ := by
      by_cases h0 : k < 0
      · rw [wordOf, show k.toNat = 0 from by omega]; rfl
      · rw [wordOf, List.getD_eq_getElem?_getD, List.getElem?_eq_none (by simp [wordsL]; omega)]; rfl
    rw [hx]
    clear hx
    by_cases h0 : k < 0
    · clear h
      go_enter Tryd.func12, Tryd.ntmps12
      go_wp2
      go_ret2
      exact ⟨by simp [bl], Below.refl _ _⟩
    · have h1 : 13 < k := by omega
      clear h
      go_enter Tryd.func12, Tryd.ntmps12
      go_wp2
      go_ret2
      exact ⟨by simp [bl], Below.refl _ _⟩
/-- Where a text stands first in a list of texts; -1: nowhere. -/
def idxOf (xs : List ByteArray) (v : ByteArray) : Int := match xs.findIdx? (fun x => v.toList == x.toList) with | some i => i | none => -1
theorem idxOf_here {xs : List ByteArray} {v x : ByteArray} {i : Nat} (hi : xs[i]? = some x) (he : (v.toList == x.toList) = true) (hb : ∀ j y, j < i → xs[j]? = some y → (v.toList == y.toList) = false) : idxOf xs v = i := by
  have : xs.findIdx? (fun x => v.toList == x.toList) = some i := by
    rw [List.findIdx?_eq_some_iff_getElem]
    obtain ⟨hl, rfl⟩ := List.getElem?_eq_some_iff.1 hi
    refine ⟨hl, he, fun j hj => ?_⟩
    have := hb j xs[j] hj (List.getElem?_eq_getElem (by omega))
    simp only [this]; simp
  rw [idxOf, this]
theorem idxOf_none {xs : List ByteArray} {v : ByteArray} (hb : ∀ (j : Nat) y, xs[j]? = some y → (v.toList == y.toList) = false) : idxOf xs v = -1 := by
  have : xs.findIdx? (fun x => v.toList == x.toList) = none := by
    rw [List.findIdx?_eq_none_iff]
    intro x hx
    obtain ⟨j, hj⟩ := List.getElem?_of_mem hx
    exact hb j x hj
  rw [idxOf, this]
set_option maxHeartbeats 1000000 in
theorem sindex_calls (xs : List ByteArray) (v : ByteArray) (g c : Nat) (w : World) (hc : ∀ (i : Nat) x, xs[i]? = some x → w.cell? ⟨g, i, none⟩ = some (.string x)) (hl : xs.length ≤ maxLen) :
    Calls Tryd.prog 35 #[.slice (some ⟨g, 0, none⟩) xs.length c, .string v] w fun e w' => e = .returned (.int .i64 (idxOf xs v)) ∧ w = w' := by
  unfold maxLen at hl
  go_enter Tryd.func35, Tryd.ntmps35
  go_wp2
  go_loop [8] (fun t => ∃ i : Nat, t = .int .i64 i ∧ i ≤ xs.length ∧ ∀ j y, j < i → xs[j]? = some y → (v.toList == y.toList) = false) (fun t => xs.length - (intOf t).toNat)
  case atStart => exact ⟨0, rfl, by omega, fun j y h => by omega⟩
  case round =>
    obtain ⟨i, rfl, hi, hb⟩ := hrel
    by_cases hlt : i < xs.length
    · obtain ⟨x, hx⟩ : ∃ x, xs[i]? = some x := ⟨_, List.getElem?_eq_getElem hlt⟩
      have h1 := hc i x hx
      cases he : (v.toList == x.toList) with
      | true =>
        have H := Lib.hid (idxOf_here hx he hb)
        clear hb hx hc
        go_wp2
        go_ret
        exact ⟨by rw [H.out]; rfl, rfl⟩
      | false =>
        have H : Hid (∀ j y, j < i + 1 → xs[j]? = some y → (v.toList == y.toList) = false) := fun j y hj hy => by
          rcases Nat.lt_or_ge j i with h | h
          · exact hb j y h hy
          · obtain rfl : j = i := by omega
            rw [hx] at hy; cases hy; exact he
        clear hb hx hc
        go_wp2
        go_round
        case rel => exact ⟨i + 1, by go_num, by omega, H.out⟩
        case measure => simp [intOf]; omega
    · have H := Lib.hid (idxOf_none (xs := xs) (v := v) (fun j y hy => hb j y (by have := (List.getElem?_eq_some_iff.1 hy).1; omega) hy))
      clear hb hc
      go_wp2
      go_ret
      exact ⟨by rw [H.out]; rfl, rfl⟩
/-- The Kind of a word. -/
def kindOf (v : ByteArray) : Int × Bool := if idxOf wordsL v < 0 ∨ bl v = [] then (0, false) else (idxOf wordsL v, true)
theorem sindex_words (v : ByteArray) (g : Nat) (w : World) (hb : Blk w g 74 wordsV) :
    Calls Tryd.prog 35 #[.slice (some ⟨g, 0, none⟩) 14 14, .string v] w fun e w' => e = .returned (.int .i64 (idxOf wordsL v)) ∧ w = w' := by
  have hl : wordsL.length = 14 := rfl
  have h := sindex_calls wordsL v g 14 w (fun i x hx => by rw [hb.cell]; simp [wordsV, hx]) (by rw [hl]; decide)
  rw [hl] at h
  exact h
set_option maxHeartbeats 1000000 in
theorem Kind_calls (v : ByteArray) (w : World) :
    Calls Tryd.prog 14 #[.string v] w fun e w' => e = .returned (.tuple #[.int .i64 (kindOf v).1, .bool (kindOf v).2]) ∧ Below w.heap.size w w' := by
  have hrange : -1 ≤ idxOf wordsL v := by
    unfold idxOf; split <;> omega
  have hk : kindOf v = if idxOf wordsL v < 0 ∨ bl v = [] then (0, false) else (idxOf wordsL v, true) := rfl
  obtain ⟨z, hz⟩ : ∃ z, idxOf wordsL v = z := ⟨_, rfl⟩
  have Hz := Lib.hid hz
  rw [hz] at hk hrange
  clear hz
  go_enter Tryd.func14, Tryd.ntmps14
  go_wp2_with (first
    | (go_at_call 33; refine (words_calls _).mono ?_; rintro e w1 ⟨rfl, hb1⟩)
    | ((with_reducible refine gate_dst (N := 4) rfl ?_); refine box_event rfl (N := 4) rfl (cs := words0) (t := 74) (by kernel_rfl) ?_; intro g hg w2 hb hbel; have hge : w.heap.size ≤ g := (by have := hb1.size; omega); clear hg)
    | ((with_reducible refine gate_store rfl ?_); refine store_row_event rfl rfl rfl rfl hb (by kernel_rfl) rfl (by kernel_rfl) ?_; intro w3 hb3 hg3; clear hb))
  refine (sindex_words v g w3 hb3).mono ?_
  rintro e w4 ⟨rfl, rfl⟩
  rw [Hz.out]
  go_wp2
  all_goals have hbw : Below w.heap.size w w2 := hb1.trans (hbel.mono hb1.size)
  all_goals have hB : Below w.heap.size w w3 := hbw.grown hg3 hbw.size (by rintro k ⟨⟩; exact hge)
  · have h : v.toList.isEmpty = true := by rcases ‹z < 0 ∨ _› with h | h; (exfalso; omega); exact h
    have h' : bl v = [] := by simpa [bl, ByteArray.toList_eq] using h
    rw [if_pos (.inr h')] at hk
    rw [hk]
    go_ret2
    exact ⟨rfl, hB⟩
  · have h : v.toList.isEmpty = false := (‹0 ≤ z ∧ _› : 0 ≤ z ∧ v.toList.isEmpty = false).2
    have h' : ¬ bl v = [] := by simpa [bl, ByteArray.toList_eq] using h
    rw [if_neg (by rintro (h | h); omega; exact h' h)] at hk
    rw [hk]
    go_ret2
    exact ⟨rfl, hB⟩
  · go_ret2
    exact ⟨rfl, hB⟩
end Go.Proofs.YtfnekpgbfdhnmaaDoor

namespace Go.Proofs.YtfnekpgbfdhnmaaDoor
/-- How far two lists go on alike. -/
def cpl : List UInt8 → List UInt8 → Nat
  | a :: s, b :: t => if a = b then cpl s t + 1 else 0
  | _, _ => 0
theorem cpl_le : ∀ (s t : List UInt8), cpl s t ≤ s.length ∧ cpl s t ≤ t.length
  | [], t => by simp [cpl]
  | _ :: _, [] => by simp [cpl]
  | a :: s, b :: t => by
    have := cpl_le s t
    simp only [cpl]
    split <;> simp <;> omega
theorem cpl_lt : ∀ (s t : List UInt8) (n : Nat), n ≤ cpl s t → (n < cpl s t ↔ n < s.length ∧ n < t.length ∧ s[n]? = t[n]?)
  | [], t, n => by simp [cpl]
  | _ :: _, [], n => by simp [cpl]
  | a :: s, b :: t, 0 => by
    simp only [cpl]
    split <;> simp_all
  | a :: s, b :: t, n + 1 => by
    simp only [cpl]
    intro h
    split at h
    · rename_i he
      have := cpl_lt s t n (by omega)
      simp only [he, if_true, List.length_cons, List.getElem?_cons_succ, Nat.add_lt_add_iff_right]
      exact this
    · omega
theorem cpl_whole : ∀ (s t : List UInt8), cpl s t = s.length ↔ s <+: t
  | [], t => by simp [cpl]
  | a :: s, [] => by simp [cpl]
  | a :: s, b :: t => by
    have := cpl_whole s t
    simp only [cpl, List.cons_prefix_cons, List.length_cons]
    split
    · rename_i h; simp [h, this]
    · rename_i h; simp [h]
/-- May a Kind stand: 0 any, 1 a channel, 2 an event. -/
def mayB (m : Nat) (k : Int) : Bool := if m = 0 then true else if m = 1 then k == 4 else decide (5 ≤ k)
/-- Over the Kinds that are left: the Kind, and how long its word is; or how far one went on. -/
def kindGo (m : Nat) (h : List UInt8) : List Nat → Nat → Except Nat (Nat × Nat)
  | [], far => .error far
  | k :: ks, far =>
    if bl (wordOf k) = [] ∨ mayB m k = false then kindGo m h ks far
    else if cpl (bl (wordOf k)) h = (bl (wordOf k)).length then .ok (k, cpl (bl (wordOf k)) h)
    else kindGo m h ks (max far (cpl (bl (wordOf k)) h))
def kindF (m : Nat) (h : List UInt8) : Except Nat (Nat × Nat) := kindGo m h [1, 2, 3, 4, 5, 6, 7, 8, 9, 10, 11, 12, 13] 0
/-- The Kinds from k on. -/
def kindsFrom (k : Nat) : List Nat := [1, 2, 3, 4, 5, 6, 7, 8, 9, 10, 11, 12, 13].drop (k - 1)
theorem kindsFrom_cons (k : Nat) (h1 : 1 ≤ k) (h2 : k ≤ 13) : kindsFrom k = k :: kindsFrom (k + 1) := by
  have : k = 1 ∨ k = 2 ∨ k = 3 ∨ k = 4 ∨ k = 5 ∨ k = 6 ∨ k = 7 ∨ k = 8 ∨ k = 9 ∨ k = 10 ∨ k = 11 ∨ k = 12 ∨ k = 13 := by omega
  rcases this with rfl | rfl | rfl | rfl | rfl | rfl | rfl | rfl | rfl | rfl | rfl | rfl | rfl <;> rfl
theorem kindsFrom_end (k : Nat) (h : 14 ≤ k) : kindsFrom k = [] := by
  rw [kindsFrom, List.drop_of_length_le]; simp; omega
end Go.Proofs.YtfnekpgbfdhnmaaDoor

namespace Go.Proofs.YtfnekpgbfdhnmaaDoor
open Go.RowKit Go.Proofs.YtfnekpgbfdhnmaaDoorW.PrintWords Go.Proofs.YtfnekpgbfdhnmaaDoorW.PrintLast Go.Proofs.YtfnekpgbfdhnmaaDoorW.PrintMore Go.Proofs.YtfnekpgbfdhnmaaDoor.PAll
/-- What a reader's text is given up with. -/
def wrongAt (n : Int) : List PanicEntry := [{ v := .iface 102 (.int .i64 n), recovered := false }]
/-- The reader at block r. -/
def RD (w : World) (r : Nat) (s : ByteArray) (n p : Int) : Prop := Blk w r 65 #[.string s, .int .i64 n, .int .i64 p]
set_option maxHeartbeats 400000 in
theorem must_ok (r : Value) (w : World) : Calls Tryd.prog 28 #[r, .bool true] w fun e w' => e = .returned (.tuple #[]) ∧ w = w' := by
  go_enter Tryd.func28, Tryd.ntmps28
  go_wp2
  go_end0
  exact ⟨rfl, rfl⟩
set_option maxHeartbeats 400000 in
theorem must_bad {r : Nat} {s : ByteArray} {n p : Int} {w : World} (hR : RD w r s n p) :
    Calls Tryd.prog 28 #[.pointer (some ⟨r, 0, none⟩), .bool false] w fun e w' => e = .panicked (wrongAt n) ∧ w = w' := by
  have hc : w.cell? ⟨r, 1, none⟩ = some (.int .i64 n) := hR.cell 1
  go_enter Tryd.func28, Tryd.ntmps28
  go_wp2
  exact ⟨rfl, rfl, rfl⟩
set_option maxHeartbeats 400000 in
theorem here_calls {r : Nat} {s : ByteArray} {n : Nat} {p : Int} {w : World} (hR : RD w r s n p) (hn : n ≤ s.size) :
    Calls Tryd.prog 29 #[.pointer (some ⟨r, 0, none⟩)] w fun e w' => e = .returned (.string (s.extract n s.size)) ∧ ∃ k, w' = w.drewN k := by
  have hs : w.cell? ⟨r, 0, none⟩ = some (.string s) := hR.cell 0
  have hc : w.cell? ⟨r, 1, none⟩ = some (.int .i64 n) := hR.cell 1
  go_enter Tryd.func29, Tryd.ntmps29
  go_wp2
  go_quiet (fail)
  go_wp2
  go_ret
  exact ⟨rfl, _, rfl⟩
end Go.Proofs.YtfnekpgbfdhnmaaDoor

namespace Go.Proofs.YtfnekpgbfdhnmaaDoor
open Go.RowKit Go.Proofs.YtfnekpgbfdhnmaaDoorW.PrintWords Go.Proofs.YtfnekpgbfdhnmaaDoorW.PrintLast Go.Proofs.YtfnekpgbfdhnmaaDoorW.PrintMore Go.Proofs.YtfnekpgbfdhnmaaDoor.PAll
theorem hasPrefix_f (a b : ByteArray) : strings_HasPrefix.f a b = some ((bl b).isPrefixOf (bl a)) := by
  unfold strings_HasPrefix.f stringslite_HasPrefix.f
  rw [prefix_bool, bl_length, bl_length, ByteArray.toList_eq, ByteArray.toList_eq]
  by_cases h : b.size ≤ a.size
  · have h1 : (a.size : Int) ≥ (b.size : Int) := by omega
    have h2 : (0 : Int) ≤ b.size := by omega
    have h3 : (b.size : Int) ≤ a.size := by omega
    simp [h1, h2, h, bl, ByteArray.data_extract]
  · have h1 : ¬ (a.size : Int) ≥ (b.size : Int) := by omega
    rw [if_neg h1]; simp [h]
theorem hasPrefix_calls (a b : ByteArray) (w : World) :
    Calls Tryd.prog 51 #[.string a, .string b] w fun e w' => e = .returned (.bool ((bl b).isPrefixOf (bl a))) ∧ ∃ k, w' = w.drewN k :=
  (strings_HasPrefix.calls a b _ w (hasPrefix_f a b)).mono fun _ _ h => ⟨h.1, h.2.out⟩
set_option maxHeartbeats 400000 in
theorem starts_no {r : Nat} {s c : ByteArray} {n : Nat} {p : Int} {w : World} (hR : RD w r s n p) (hn : n ≤ s.size) (hp : (bl c).isPrefixOf (bl (s.extract n s.size)) = false) :
    Calls Tryd.prog 50 #[.pointer (some ⟨r, 0, none⟩), .string c] w fun e w' => e = .returned (.bool false) ∧ ∃ k, w' = w.drewN k := by
  go_enter Tryd.func50, Tryd.ntmps50
  go_wp2_with (first
    | (go_at_call 29; refine (here_calls hR hn).mono ?_; rintro e w' ⟨rfl, k, rfl⟩)
    | (go_at_call 51; refine (hasPrefix_calls _ _ _).mono ?_; rintro e w' ⟨rfl, k2, rfl⟩; rw [hp]))
  go_ret
  exact ⟨rfl, _, rfl⟩
set_option maxHeartbeats 400000 in
theorem starts_yes {r : Nat} {s c : ByteArray} {n : Nat} {p : Int} {w : World} (hR : RD w r s n p) (hn : n ≤ s.size) (hs : s.size ≤ maxLen) (hp : (bl c).isPrefixOf (bl (s.extract n s.size)) = true) (hc : n + c.size ≤ s.size) :
    Calls Tryd.prog 50 #[.pointer (some ⟨r, 0, none⟩), .string c] w fun e w' => e = .returned (.bool true) ∧ RD w' r s (n + c.size : Nat) p ∧ w.grownBy w' (some r) := by
  unfold maxLen at hs
  have h1 : w.cell? ⟨r, 1, none⟩ = some (.int .i64 n) := hR.cell 1
  have f1 : w.frozen? ⟨r, 1, none⟩ = false := hR.frozen 1
  go_enter Tryd.func50, Tryd.ntmps50
  go_wp2_with (first
    | (go_at_call 29; refine (here_calls hR hn).mono ?_; rintro e w' ⟨rfl, k, rfl⟩)
    | (go_at_call 51; refine (hasPrefix_calls _ _ _).mono ?_; rintro e w' ⟨rfl, k2, rfl⟩; rw [hp]))
  go_ret
  exact ⟨rfl, blk_put (blk_drewN hR _) 1 _ (by simp), grownBy_set (grownBy_drewN (World.grownBy.refl _ _) _) _ _⟩
end Go.Proofs.YtfnekpgbfdhnmaaDoor

namespace Go.Proofs.YtfnekpgbfdhnmaaDoor
open Go.RowKit Go.Proofs.YtfnekpgbfdhnmaaDoorW.PrintWords Go.Proofs.YtfnekpgbfdhnmaaDoorW.PrintLast Go.Proofs.YtfnekpgbfdhnmaaDoorW.PrintMore Go.Proofs.YtfnekpgbfdhnmaaDoor.PAll
attribute [local go_sem] max2_int min2_int max_two min_two
/-- The functions that tell which Kinds may stand. -/
def mayF (m : Nat) : Nat := if m = 0 then 27 else if m = 1 then 75 else 76
def mayV (m : Nat) : Value := .func (.func (mayF m)) #[] #[]
theorem any_calls (k : Int) (w : World) : Calls Tryd.prog 27 #[.int .i64 k] w fun e w' => e = .returned (.bool true) ∧ w = w' := by
  go_enter Tryd.func27, Tryd.ntmps27
  go_wp2
  go_ret
  exact ⟨rfl, rfl⟩
theorem channel_calls (k : Int) (w : World) : Calls Tryd.prog 75 #[.int .i64 k] w fun e w' => e = .returned (.bool (k == 4)) ∧ w = w' := by
  go_enter Tryd.func75, Tryd.ntmps75
  go_wp2
  go_ret
  exact ⟨rfl, rfl⟩
theorem event_calls (k : Int) (w : World) : Calls Tryd.prog 76 #[.int .i64 k] w fun e w' => e = .returned (.bool (decide (5 ≤ k))) ∧ w = w' := by
  go_enter Tryd.func76, Tryd.ntmps76
  go_wp2
  go_ret
  exact ⟨rfl, rfl⟩
theorem may_calls (m : Nat) (k : Int) (w : World) : Calls Tryd.prog (mayF m) #[.int .i64 k] w fun e w' => e = .returned (.bool (mayB m k)) ∧ w = w' := by
  unfold mayF mayB
  split
  · exact any_calls k w
  · split
    · exact channel_calls k w
    · exact event_calls k w
/-- A function value of these, called. -/
theorem may_invoke (m : Nat) (args : Array Value) (W : World) : (callFunc (mayF m) args).run Tryd.prog W = .ok (.enter (mayF m) args) W := by
  unfold mayF
  split
  · exact enters Tryd.func27 (by kernel_rfl) rfl args W
  · split
    · exact enters Tryd.func75 (by kernel_rfl) rfl args W
    · exact enters Tryd.func76 (by kernel_rfl) rfl args W
/-- What a call of kind comes to. -/
def KindPost (w : World) (r : Nat) (s : ByteArray) (n : Nat) (p : Int) (x : Except Nat (Nat × Nat)) (e : Ending) (w' : World) : Prop :=
  match x with
  | .ok (k, d) => e = .returned (.int .i64 k) ∧ RD w' r s (n + d : Nat) p ∧ w.grownBy w' (some r)
  | .error far => e = .panicked (wrongAt (n + far : Nat)) ∧ RD w' r s (n + far : Nat) p ∧ w.grownBy w' (some r)
set_option maxHeartbeats 1000000 in
theorem kind_calls (m : Nat) {r : Nat} {s : ByteArray} {n : Nat} {p : Int} {w : World} (hR : RD w r s n p) (hn : n ≤ s.size) (hs : s.size ≤ maxLen) :
    Calls Tryd.prog 52 #[.pointer (some ⟨r, 0, none⟩), mayV m] w (KindPost w r s n p (kindF m ((bl s).drop n))) := by
  unfold maxLen at hs
  have hr := hR.lt
  have hmi := may_invoke m
  unfold mayV
  generalize hfm : mayF m = fm
  have Hfm := Lib.hid hfm
  rw [hfm] at hmi
  have Hmc := Lib.hid (fun k w => (hfm ▸ may_calls m k w : Calls Tryd.prog fm #[.int .i64 k] w fun e w' => e = .returned (.bool (mayB m k)) ∧ w = w'))
  clear hfm
  go_enter Tryd.func52, Tryd.ntmps52
  go_wp2_with (first
    | (go_at_call 33; refine (words_calls _).mono ?_; rintro e w1 ⟨rfl, hb1⟩)
    | ((with_reducible refine gate_dst (N := 5) rfl ?_); refine box_event rfl (N := 5) rfl (cs := words0) (t := 74) (by kernel_rfl) ?_; intro g hg w2 hb hbel; have hge : w.heap.size ≤ g := (by have := hb1.size; omega); clear hg)
    | ((with_reducible refine gate_store rfl ?_); refine store_row_event rfl rfl rfl rfl hb (by kernel_rfl) rfl (by kernel_rfl) ?_; intro w3 hb3 hg3; clear hb))
  have hGb : w.grownBy w2 (some r) := only_of_below (hb1.trans (hbel.mono hb1.size)) _
  have hG3 : w.grownBy w3 (some r) := hGb.andThen hg3 (fun j hj => .inl (by cases hj; exact hge))
  have hgr : g ≠ r := by omega
  have hR3 : RD w3 r s n p := blk_grown (blk_below (blk_below hR hb1) hbel) hg3 (by simpa using hgr.symm)
  generalize hH : (bl s).drop n = h at *
  have hHe : bl (s.extract n s.size) = h := by rw [bl_extract, hH]
  have hhl : h.length = s.size - n := by rw [← hH, List.length_drop, bl_length]
  go_loopw [6, 7] (fun x y wr => ∃ k far : Nat, x = .int .i64 far ∧ y = .int .i64 k ∧ 1 ≤ k ∧ k ≤ 14 ∧ far ≤ h.length ∧ RD wr r s n p ∧ Blk wr g 74 wordsV ∧ w.grownBy wr (some r) ∧ kindF m h = kindGo m h (kindsFrom k) far) (fun _ y _ => 14 - (intOf y).toNat)
  case atStart => exact ⟨1, 0, rfl, rfl, by omega, by omega, by omega, hR3, hb3, hG3, rfl⟩
  case round =>
    obtain ⟨k, far, rfl, rfl, hk1, hk2, hfar, hRr, hbr, hGr, hkind⟩ := hrel
    by_cases hk : k ≤ 13
    · have hcons := kindsFrom_cons k hk1 hk
      have hcell : wr.cell? ⟨g, k, none⟩ = some (.string (wordOf k)) := by
        rw [hbr.cell]; simp [wordsV, wordOf, List.getD_eq_getElem?_getD, show k < wordsL.length from by simp [wordsL]; omega]
      rw [hcons, kindGo] at hkind
      generalize wordOf k = x at hcell hkind
      cases hm : mayB m k with
      | false =>
        rw [if_pos (.inr hm)] at hkind
        have H := Lib.hid hkind
        clear hkind hcons
        have Hm := Lib.hid hm
        clear hm
        cases hx : x.toList.isEmpty with
        | true =>
          go_wp2_with (first
            | (refine (Hmc.out _ _).mono ?_; rintro e w' ⟨rfl, rfl⟩; rw [Hm.out]))
          go_roundw
          case rel => exact ⟨k + 1, far, rfl, by go_num, by omega, by omega, hfar, hRr, hbr, hGr, H.out⟩
          case measure => simp [intOf]; omega
        | false =>
          go_wp2_with (first
            | (with_reducible refine (Hmc.out _ _).mono ?_; rintro e w' ⟨rfl, rfl⟩; rw [Hm.out]))
          go_roundw
          case rel => exact ⟨k + 1, far, rfl, by go_num, by omega, by omega, hfar, hRr, hbr, hGr, H.out⟩
          case measure => simp [intOf]; omega
      | true =>
        have Hm := Lib.hid hm
        cases hx : x.toList.isEmpty with
        | true =>
          rw [if_pos (.inl (by simpa [bl, ByteArray.toList_eq] using hx))] at hkind
          have H := Lib.hid hkind
          clear hkind hcons hm
          go_wp2
          go_roundw
          case rel => exact ⟨k + 1, far, rfl, by go_num, by omega, by omega, hfar, hRr, hbr, hGr, H.out⟩
          case measure => simp [intOf]; omega
        | false =>
          rw [if_neg (by rintro (h | h); (have := hx; rw [ByteArray.toList_eq] at this; simp [bl] at h; simp [h] at this); (rw [hm] at h; cases h))] at hkind
          have H := Lib.hid hkind
          have hlx := bl_length x
          have hcl := cpl_le (bl x) h
          clear hkind hcons hm
          go_wp2_with (first
            | (with_reducible refine (Hmc.out _ _).mono ?_; rintro e w' ⟨rfl, rfl⟩; rw [Hm.out]))
          go_loopw [9] (fun z wq => ∃ d : Nat, z = .int .i64 d ∧ d ≤ cpl (bl x) h ∧ RD wq r s n p ∧ Blk wq g 74 wordsV ∧ w.grownBy wq (some r)) (fun z _ => x.size - (intOf z).toNat)
          case atStart => exact ⟨0, rfl, by omega, hRr, hbr, hGr⟩
          case round =>
            obtain ⟨d, rfl, hd, hRq, hbq, hGq⟩ := hrel
            have hcond := cpl_lt (bl x) h d hd
            by_cases hlt : d < cpl (bl x) h
            · obtain ⟨hd1, hd2, hd3⟩ := hcond.1 hlt
              obtain ⟨c, hc⟩ : ∃ c, (bl x)[d]? = some c := ⟨_, List.getElem?_eq_getElem hd1⟩
              have i1 := fun W => index_str (P := Tryd.prog) (T := 9) Tryd.underlying9 hc W
              have i2 := fun W => index_str (P := Tryd.prog) (T := 9) Tryd.underlying9 (s := s.extract n s.size) (i := d) (c := c) (by rw [hHe, ← hd3, hc]) W
              have b1 : d < x.size := by omega
              have b2 : decide (d < s.size - n) = true := by simp; omega
              have b1' : decide (d < x.size) = true := by simp; omega
              clear hc hd3 hcond
              go_wp2
              go_quiet ((go_at_call 29; exact Calls.quiet_of (here_calls hRq hn)))
              clear i1 i2 b2 b1'
              go_wp2
              go_roundw
              case rel => exact ⟨d + 1, by go_num, by omega, hRq, hbq, hGq.trans (grownBy_drewN (World.grownBy.refl _ _) _)⟩
              case measure => simp [intOf]; omega
            · obtain rfl : d = cpl (bl x) h := by omega
              have hh := H.out
              by_cases hd1 : cpl (bl x) h = (bl x).length
              · rw [if_pos hd1] at hh
                have hq : ∀ W, RD W r s n p → w.grownBy W (some r) → KindPost w r s n p (kindF m h) (.returned (.int .i64 k)) (W.setCell ⟨r, 1, none⟩ (.int .i64 ((n : Int) + cpl (bl x) h))) := fun W hRW hGW => by
                  rw [hh]
                  exact ⟨rfl, blk_put hRW 1 _ (by simp), grownBy_set hGW _ _⟩
                have hb0 : decide ((cpl (bl x) h) < x.size) = false := by simp; omega
                have he0 : (((cpl (bl x) h : Nat) : Int) == x.size) = true := by rw [beq_iff_eq]; omega
                generalize cpl (bl x) h = d at *
                clear hh H hcond hlt hd1 hHe hH
                go_wp2
                go_quiet ((go_at_call 29; exact Calls.quiet_of (here_calls hRq hn)))
                have h1 : wr.cell? ⟨r, 1, none⟩ = some (.int .i64 n) := hRq.cell 1
                have f1 : wr.frozen? ⟨r, 1, none⟩ = false := hRq.frozen 1
                go_wp2
                go_ret
                exact hq _ (blk_drewN hRq _) (grownBy_drewN hGq _)
              · rw [if_neg hd1] at hh
                have H2 := Lib.hid hh
                have hmx : Hid ((if far < cpl (bl x) h then ((cpl (bl x) h : Nat) : Int) else far) = ((max far (cpl (bl x) h) : Nat) : Int)) := by show _ = _; split <;> omega
                have hmb : max far (cpl (bl x) h) ≤ h.length := by omega
                have he0 : (((cpl (bl x) h : Nat) : Int) == x.size) = false := by rw [beq_eq_false_iff_ne]; omega
                have b1 : decide (cpl (bl x) h < x.size) = true := by simp; omega
                by_cases hd2 : cpl (bl x) h < h.length
                · have hne : ¬ (bl x)[cpl (bl x) h]? = h[cpl (bl x) h]? := fun e => hlt (hcond.2 ⟨by omega, hd2, e⟩)
                  obtain ⟨c, hc⟩ : ∃ c, (bl x)[cpl (bl x) h]? = some c := ⟨_, List.getElem?_eq_getElem (by omega)⟩
                  obtain ⟨c', hc'⟩ : ∃ c, h[cpl (bl x) h]? = some c := ⟨_, List.getElem?_eq_getElem hd2⟩
                  have hcc : (((c'.toNat : Nat) : Int) == c.toNat) = false := by
                    rw [beq_eq_false_iff_ne]; intro e; apply hne; rw [hc, hc']
                    congr 1; apply UInt8.toNat.inj; omega
                  have i1 := fun W => index_str (P := Tryd.prog) (T := 9) Tryd.underlying9 hc W
                  have i2 := fun W => index_str (P := Tryd.prog) (T := 9) Tryd.underlying9 (s := s.extract n s.size) (i := cpl (bl x) h) (c := c') (by rw [hHe, hc']) W
                  have b2 : decide (cpl (bl x) h < s.size - n) = true := by simp; omega
                  generalize max far (cpl (bl x) h) = far' at *
                  generalize cpl (bl x) h = d at *
                  clear hh H hcond hlt hd1 hHe hH hc hc' hne
                  go_wp2
                  go_quiet ((go_at_call 29; exact Calls.quiet_of (here_calls hRq hn)))
                  clear i1 i2 b1 b2 hcc
                  go_wp2
                  go_roundw
                  case rel => exact ⟨k + 1, far', by rw [hmx.out], by go_num, by omega, by omega, hmb, blk_drewN hRq _, blk_drewN hbq _, grownBy_drewN hGq _, H2.out⟩
                  case measure => simp [intOf]; omega
                · have b2 : decide (cpl (bl x) h < s.size - n) = false := by simp; omega
                  generalize max far (cpl (bl x) h) = far' at *
                  generalize cpl (bl x) h = d at *
                  clear hh H hcond hlt hd1 hHe hH
                  go_wp2
                  go_quiet ((go_at_call 29; exact Calls.quiet_of (here_calls hRq hn)))
                  clear b1 b2
                  go_wp2
                  go_roundw
                  case rel => exact ⟨k + 1, far', by rw [hmx.out], by go_num, by omega, by omega, hmb, blk_drewN hRq _, blk_drewN hbq _, grownBy_drewN hGq _, H2.out⟩
                  case measure => simp [intOf]; omega
    · obtain rfl : k = 14 := by omega
      rw [kindsFrom_end 14 (by omega), kindGo] at hkind
      have hq : KindPost w r s n p (kindF m h) (.panicked (wrongAt (n + far : Nat))) (wr.setCell ⟨r, 1, none⟩ (.int .i64 ((n : Int) + far))) := by
        rw [hkind]; exact ⟨rfl, blk_put hRr 1 _ (by simp), grownBy_set hGr _ _⟩
      have h1 : wr.cell? ⟨r, 1, none⟩ = some (.int .i64 n) := hRr.cell 1
      have f1 : wr.frozen? ⟨r, 1, none⟩ = false := hRr.frozen 1
      clear hkind
      go_wp2
      go_outline
      exact ⟨rfl, hq⟩
end Go.Proofs.YtfnekpgbfdhnmaaDoor

namespace Go.Proofs.YtfnekpgbfdhnmaaDoor
open Go.RowKit Go.Proofs.YtfnekpgbfdhnmaaDoorW.PrintWords Go.Proofs.YtfnekpgbfdhnmaaDoorW.PrintLast Go.Proofs.YtfnekpgbfdhnmaaDoorW.PrintMore Go.Proofs.YtfnekpgbfdhnmaaDoor.PAll
/-- Digits from a place on: n is what was read, seen how many. -/
def numGo (most : Nat) : List UInt8 → Nat → Nat → Nat → Except Nat (Nat × Nat × Nat)
  | [], n, seen, at_ => .ok (n, seen, at_)
  | c :: t, n, seen, at_ =>
    if c.toNat < 48 ∨ 57 < c.toNat ∨ (seen = 1 ∧ n = 0) then .ok (n, seen, at_)
    else if c.toNat - 48 ≤ most ∧ n ≤ (most - (c.toNat - 48)) / 10 then numGo most t (10 * n + (c.toNat - 48)) (seen + 1) (at_ + 1)
    else .error at_
/-- A number from a place on: the number and the place behind it; or where it is wrong. -/
def numF (most : Nat) (l : List UInt8) (at_ : Nat) : Except Nat (Nat × Nat) :=
  match numGo most (l.drop at_) 0 0 at_ with
  | .ok (n, seen, at') => if 0 < seen then .ok (n, at') else .error at'
  | .error at' => .error at'
/-- What a call of number comes to. -/
def NumPost (w : World) (r : Nat) (s : ByteArray) (p : Int) (x : Except Nat (Nat × Nat)) (e : Ending) (w' : World) : Prop :=
  match x with
  | .ok (n, at') => e = .returned (.int .u64 n) ∧ RD w' r s at' p ∧ w.grownBy w' (some r)
  | .error at' => e = .panicked (wrongAt at') ∧ RD w' r s at' p ∧ w.grownBy w' (some r)
set_option maxHeartbeats 1000000 in
theorem number_calls {r : Nat} {s : ByteArray} {n : Nat} {p : Int} {w : World} (most : Nat) (hm : most < 2 ^ 64) (hR : RD w r s n p) (hn : n ≤ s.size) (hs : s.size ≤ maxLen) :
    Calls Tryd.prog 49 #[.pointer (some ⟨r, 0, none⟩), .int .u64 most] w (NumPost w r s p (numF most (bl s) n)) := by
  unfold maxLen at hs
  have hr := hR.lt
  go_enter Tryd.func49, Tryd.ntmps49
  go_wp2_with (first
    | (go_at_call 29; refine (here_calls hR hn).mono ?_; rintro e w' ⟨rfl, k, rfl⟩))
  have hg0 : ((w.drewN k).iter (s.extract n s.size) 0).heap[w.heap.size]? = some (.stringIter (s.extract n s.size) 0) := World.iter_heap _ _ _
  have hR0 : RD ((w.drewN k).iter (s.extract n s.size) 0) r s n p := blk_alloc (blk_drewN hR _) _
  have hG0 : w.grownBy ((w.drewN k).iter (s.extract n s.size) 0) (some r) := grownBy_alloc' (grownBy_drewN (World.grownBy.refl _ _) _) _
  go_loopw [5, 6] (fun x y wr => ∃ j N : Nat, x = .int .u64 N ∧ y = .int .i64 j ∧ wr.heap[w.heap.size]? = some (.stringIter (s.extract n s.size) j) ∧ RD wr r s (n + j : Nat) p ∧ w.grownBy wr (some r) ∧ n + j ≤ s.size ∧ N ≤ most ∧
      numGo most ((bl s).drop n) 0 0 n = numGo most ((bl s).drop (n + j)) N j (n + j)) (fun _ y _ => s.size - (intOf y).toNat)
  case atStart => exact ⟨0, 0, rfl, rfl, hg0, hR0, hG0, hn, by omega, rfl⟩
  case round =>
    obtain ⟨j, N, rfl, rfl, hgr, hRr, hGr, hle, hN, hnum⟩ := hrel
    have hrr := hRr.lt
    by_cases hlt : n + j < s.size
    · obtain ⟨c, hc⟩ : ∃ c, (bl s)[n + j]? = some c := ⟨_, bl_at hlt⟩
      have hc' := hc
      rw [← bl_extract_at] at hc'
      have hlt' : j < (s.extract n s.size).size := by rw [size_extract']; omega
      have hdrop := drop_cons hc
      obtain ⟨C, hC⟩ : ∃ C, (Utf8.decode (s.extract n s.size) j).1 = C := ⟨_, rfl⟩
      obtain ⟨D, hD⟩ : ∃ D, (Utf8.decode (s.extract n s.size) j).2 = D := ⟨_, rfl⟩
      have hnx := fun ty => run_next_blk (P := Tryd.prog) hgr ty hlt'
      rw [hC, hD] at hnx
      have hCb : C ≤ 2147483647 := by rw [← hC]; exact decode_le _ _
      have hRW : RD (wr.putObj w.heap.size (.stringIter (s.extract n s.size) (j + D))) r s (n + j : Nat) p := (World.putObj_heap_other (by omega)).trans hRr
      have hgW : (wr.putObj w.heap.size (.stringIter (s.extract n s.size) (j + D))).heap[w.heap.size]? = some (.stringIter (s.extract n s.size) (j + D)) := World.putObj_heap_same (blk_lt hgr)
      have hGW : w.grownBy (wr.putObj w.heap.size (.stringIter (s.extract n s.size) (j + D))) (some r) := grownBy_put hGr (Nat.le_refl _) _
      generalize wr.putObj w.heap.size (.stringIter (s.extract n s.size) (j + D)) = W at hnx hRW hgW hGW
      have h1 : W.cell? ⟨r, 1, none⟩ = some (.int .i64 (n + j : Nat)) := hRW.cell 1
      have f1 : W.frozen? ⟨r, 1, none⟩ = false := hRW.frozen 1
      by_cases hd : 48 ≤ c.toNat ∧ c.toNat ≤ 57 ∧ ¬ (j = 1 ∧ N = 0)
      · obtain ⟨hd1, hd2, hd3⟩ := hd
        have hdec := dec_ascii hc' (by omega)
        obtain rfl : C = c.toNat := by rw [← hC, hdec]
        obtain rfl : D = 1 := by rw [← hD, hdec]
        have hstep : numGo most ((bl s).drop n) 0 0 n = if c.toNat - 48 ≤ most ∧ N ≤ (most - (c.toNat - 48)) / 10 then numGo most ((bl s).drop (n + j + 1)) (10 * N + (c.toNat - 48)) (j + 1) (n + j + 1) else .error (n + j) := by
          rw [hnum, hdrop, numGo, if_neg (by omega)]
        clear hnum hdrop hdec hc hc' hC hD
        obtain ⟨C, hCe⟩ : ∃ C : Nat, c.toNat = C := ⟨_, rfl⟩
        rw [hCe] at hnx hd1 hd2 hstep
        clear hCb hCe
        by_cases hok : C - 48 ≤ most ∧ N ≤ (most - (C - 48)) / 10
        · rw [if_pos hok] at hstep
          have H : Hid (numGo most ((bl s).drop n) 0 0 n = numGo most ((bl s).drop (n + (j + 1))) (10 * N + (C - 48)) (j + 1) (n + (j + 1))) := hstep
          clear hstep
          obtain ⟨hok1, hok2⟩ := hok
          have hok3 : 10 * N + (C - 48) ≤ most := by omega
          have w1 := u64_in ((most : Int) - ((C : Int) - 48)) (by omega) (by omega)
          have w2 := u64_in (10 * (N : Int)) (by omega) (by omega)
          have w3 := u64_in (10 * (N : Int) + ((C : Int) - 48)) (by omega) (by omega)
          have w4 := u64_in (((most : Int) - ((C : Int) - 48)) / 10) (by omega) (by omega)
          rw [← tdiv_pos _ _ (by omega)] at w4
          have q1 : decide ((C : Int) - 48 ≤ most) = true := by simp; omega
          have q2 : decide ((N : Int) ≤ ((most : Int) - ((C : Int) - 48)).tdiv 10) = true := by rw [tdiv_pos _ _ (by omega)]; simp; omega
          have H3 : Hid (10 * N + (C - 48) ≤ most) := hok3
          have Hd1 : Hid (48 ≤ C) := hd1
          clear hok1 hok2 hm hN hok3
          have hfin : RD (W.setCell ⟨r, 1, none⟩ (.int .i64 ((n : Int) + j + 1))) r s (n + (j + 1) : Nat) p := blk_put hRW 1 _ (by simp; omega)
          by_cases hj1 : j = 1
          · subst hj1
            have hN0 : ((N : Int) == 0) = false := by rw [beq_eq_false_iff_ne]; omega
            clear hd3
            go_wp2_with (first
              | (go_at_call 28; refine (must_ok _ _).mono ?_; rintro e w' ⟨rfl, rfl⟩))
            go_roundw
            case rel => exact ⟨2, 10 * N + (C - 48), by congr 1; have := Hd1.out; omega, rfl, (Below.heap_setCell _ _ _ _ (by show w.heap.size ≠ r; omega)).trans hgW, hfin, grownBy_set hGW _ _, by omega, H3.out, H.out⟩
            case measure => simp [intOf]; omega
          · go_wp2_with (first
              | (go_at_call 28; refine (must_ok _ _).mono ?_; rintro e w' ⟨rfl, rfl⟩))
            go_roundw
            case rel => exact ⟨j + 1, 10 * N + (C - 48), by congr 1; have := Hd1.out; omega, by go_num, (Below.heap_setCell _ _ _ _ (by show w.heap.size ≠ r; omega)).trans hgW, hfin, grownBy_set hGW _ _, by omega, H3.out, H.out⟩
            case measure => simp [intOf]; omega
        · rw [if_neg hok] at hstep
          have hfin : NumPost w r s p (numF most (bl s) n) (.panicked (wrongAt (n + j : Nat))) W := by
            rw [numF, hstep]; exact ⟨rfl, hRW, hGW⟩
          have w1 : C - 48 ≤ most → IntKind.u64.wrap ((most : Int) - ((C : Int) - 48)) = (most : Int) - ((C : Int) - 48) := fun h => u64_in _ (by omega) (by omega)
          have w4 : C - 48 ≤ most → IntKind.u64.wrap (((most : Int) - ((C : Int) - 48)).tdiv 10) = ((most : Int) - ((C : Int) - 48)).tdiv 10 := fun h => by rw [tdiv_pos _ _ (by omega)]; exact u64_in _ (by omega) (by omega)
          have q2 : C - 48 ≤ most → decide ((N : Int) ≤ ((most : Int) - ((C : Int) - 48)).tdiv 10) = false := fun h => by rw [tdiv_pos _ _ (by omega)]; simp; omega
          generalize NumPost w r s p (numF most (bl s) n) = R at *
          have q0 : j = 1 → ((N : Int) == 0) = false := fun h => by rw [beq_eq_false_iff_ne]; omega
          clear hm hN hstep hd3
          by_cases hq : C - 48 ≤ most
          · have w1 := w1 hq
            have w4 := w4 hq
            have q2 := q2 hq
            have q1 : decide ((C : Int) - 48 ≤ most) = true := by simp; omega
            clear hq hok
            by_cases hj1 : j = 1
            · have hN0 := q0 hj1
              subst hj1
              clear q0
              go_wp2_with (first
                | (go_at_call 28; refine (must_bad hRW).mono ?_; rintro e w' ⟨rfl, rfl⟩))
              exact ⟨rfl, hfin⟩
            · clear q0
              go_wp2_with (first
                | (go_at_call 28; refine (must_bad hRW).mono ?_; rintro e w' ⟨rfl, rfl⟩))
              exact ⟨rfl, hfin⟩
          · have q1 : decide ((C : Int) - 48 ≤ most) = false := by simp; omega
            clear hq hok w1 w4 q2
            by_cases hj1 : j = 1
            · have hN0 := q0 hj1
              subst hj1
              clear q0
              go_wp2_with (first
                | (go_at_call 28; refine (must_bad hRW).mono ?_; rintro e w' ⟨rfl, rfl⟩))
              exact ⟨rfl, hfin⟩
            · clear q0
              go_wp2_with (first
                | (go_at_call 28; refine (must_bad hRW).mono ?_; rintro e w' ⟨rfl, rfl⟩))
              exact ⟨rfl, hfin⟩
      · have hC' : C < 48 ∨ 57 < C ∨ (j = 1 ∧ N = 0) := by
          by_cases ha : c.toNat < 128
          · have hdec := dec_ascii hc' ha
            have : C = c.toNat := by rw [← hC, hdec]
            omega
          · have := dec_high hc' (by omega)
            omega
        have hcz : True := trivial
        have hend : numGo most ((bl s).drop n) 0 0 n = .ok (N, j, n + j) := by
          rw [hnum, hdrop, numGo, if_pos (by
            by_cases ha : c.toNat < 128
            · have hdec := dec_ascii hc' ha
              have : C = c.toNat := by rw [← hC, hdec]
              omega
            · omega)]
        clear hnum hdrop hc hc' hC hD hd hcz
        by_cases hj : 0 < j
        · have hfin : NumPost w r s p (numF most (bl s) n) (.returned (.int .u64 N)) W := by
            rw [numF, hend]; simp only [hj, if_true]; exact ⟨rfl, hRW, hGW⟩
          generalize NumPost w r s p (numF most (bl s) n) = R at *
          clear hend hm hN
          rcases hC' with h | h | ⟨h, h'⟩
          · go_wp2_with (first
              | (go_at_call 28; refine (must_ok _ _).mono ?_; rintro e w' ⟨rfl, rfl⟩))
            exact hfin
          · go_wp2_with (first
              | (go_at_call 28; refine (must_ok _ _).mono ?_; rintro e w' ⟨rfl, rfl⟩))
            exact hfin
          · subst h h'
            go_wp2_with (first
              | (go_at_call 28; refine (must_ok _ _).mono ?_; rintro e w' ⟨rfl, rfl⟩))
            all_goals exact hfin
        · obtain rfl : j = 0 := by omega
          have hfin : NumPost w r s p (numF most (bl s) n) (.panicked (wrongAt (n + 0 : Nat))) W := by
            rw [numF, hend]; exact ⟨rfl, hRW, hGW⟩
          generalize NumPost w r s p (numF most (bl s) n) = R at *
          clear hend hm hN
          rcases hC' with h | h | ⟨h, h'⟩
          · go_wp2_with (first
              | (go_at_call 28; refine (must_bad hRW).mono ?_; rintro e w' ⟨rfl, rfl⟩))
            exact ⟨rfl, hfin⟩
          · go_wp2_with (first
              | (go_at_call 28; refine (must_bad hRW).mono ?_; rintro e w' ⟨rfl, rfl⟩))
            exact ⟨rfl, hfin⟩
          · omega
    · have hlt' : ¬ j < (s.extract n s.size).size := by rw [size_extract']; omega
      have hnx := fun ty => run_next_blk_end (P := Tryd.prog) hgr ty hlt'
      have hend : numGo most ((bl s).drop n) 0 0 n = .ok (N, j, n + j) := by
        rw [hnum, List.drop_of_length_le (by rw [bl_length]; omega), numGo]
      clear hnum
      have h1 : wr.cell? ⟨r, 1, none⟩ = some (.int .i64 (n + j : Nat)) := hRr.cell 1
      by_cases hj : 0 < j
      · have hfin : NumPost w r s p (numF most (bl s) n) (.returned (.int .u64 N)) wr := by
          rw [numF, hend]; simp only [hj, if_true]; exact ⟨rfl, hRr, hGr⟩
        generalize NumPost w r s p (numF most (bl s) n) = R at *
        clear hend
        go_wp2_with (first
          | (go_at_call 28; refine (must_ok _ _).mono ?_; rintro e w' ⟨rfl, rfl⟩))
        exact hfin
      · obtain rfl : j = 0 := by omega
        have hfin : NumPost w r s p (numF most (bl s) n) (.panicked (wrongAt (n + 0 : Nat))) wr := by
          rw [numF, hend]; exact ⟨rfl, hRr, hGr⟩
        generalize NumPost w r s p (numF most (bl s) n) = R at *
        clear hend
        go_wp2_with (first
          | (go_at_call 28; refine (must_bad hRr).mono ?_; rintro e w' ⟨rfl, rfl⟩))
        exact ⟨rfl, hfin⟩
end Go.Proofs.YtfnekpgbfdhnmaaDoor

namespace Go.Proofs.YtfnekpgbfdhnmaaDoor
open Go.RowKit Go.Proofs.YtfnekpgbfdhnmaaDoorW.PrintWords Go.Proofs.YtfnekpgbfdhnmaaDoorW.PrintLast Go.Proofs.YtfnekpgbfdhnmaaDoorW.PrintMore Go.Proofs.YtfnekpgbfdhnmaaDoor.PAll
abbrev Tree := S26
/-- Has a Kind a number, beside ValInt. -/
def countedB (k : Nat) : Bool := k == 4 || decide (10 ≤ k)
/-- What a Kind needs: least, most, what may stand first, and behind that. -/
def needF (k : Nat) : Nat × Nat × Nat × Nat :=
  if k = 3 then (2, 2, 0, 0) else if k = 5 then (2, 2, 1, 0) else if k = 6 then (1, 1, 1, 0) else if k = 7 then (1, 1, 0, 0) else if k = 9 then (0, 16, 2, 2)
  else if k = 10 then (1, 9, 2, 0) else if k = 11 then (0, 8, 0, 0) else if k = 12 then (0, 8, 0, 0) else (0, 0, 0, 0)
/-- The values of a value, from what was got on. val: a value that may stand as m, from a place on, behind so many parts. -/
def itemsGo (val : Nat → Nat → Nat → Except Nat (Tree × Nat × Nat)) (l : List UInt8) (counted : Bool) (least m0 m1 : Nat) : Nat → List Tree → Nat → Nat → Except Nat (List Tree × Nat × Nat)
  | 0, got, at_, parts => .ok (got, at_, parts)
  | left + 1, got, at_, parts =>
    if ¬ got.length < least ∧ l[at_]? = some 41 then .ok (got, at_, parts)
    else
      match (if got.length = 0 ∧ counted = false then .ok at_ else if l[at_]? = some 44 then .ok (at_ + 1) else .error at_ : Except Nat Nat) with
      | .error e => .error e
      | .ok at1 =>
        match val (if got.length = 0 then m0 else m1) at1 parts with
        | .error e => .error e
        | .ok (t, at2, parts2) => itemsGo val l counted least m0 m1 left (got ++ [t]) at2 parts2
/-- The number behind a Kind's word. -/
def numOf (l : List UInt8) (k at_ : Nat) : Except Nat (Nat × Nat) :=
  if k = 4 ∨ k = 13 then numF 9223372036854775807 l at_ else if countedB k then numF 63 l at_ else .ok (0, at_)
/-- The value that stands here as m. -/
def valueF : Nat → List UInt8 → Nat → Nat → Nat → Except Nat (Tree × Nat × Nat)
  | 0, _, _, at_, _ => .error at_
  | fuel + 1, l, m, at_, parts =>
    if l.length ≤ at_ ∨ 256 ≤ parts then .error at_
    else if m = 0 ∧ 48 ≤ (l.getD at_ 0).toNat ∧ (l.getD at_ 0).toNat ≤ 57 then
      match numF 9223372036854775807 l at_ with
      | .error e => .error e
      | .ok (n, at1) => .ok (⟨2, n, []⟩, at1, parts + 1)
    else if m = 0 ∧ l.getD at_ 0 = 45 then
      if l[at_ + 1]? = some 48 then .error (at_ + 1)
      else match numF 9223372036854775808 l (at_ + 1) with
        | .error e => .error e
        | .ok (n, at1) => .ok (⟨2, -(n : Int), []⟩, at1, parts + 1)
    else match kindF m (l.drop at_) with
      | .error far => .error (at_ + far)
      | .ok (k, d) =>
        if k = 1 ∨ k = 8 then .ok (⟨k, 0, []⟩, at_ + d, parts + 1)
        else if l[at_ + d]? = some 40 then
          match numOf l k (at_ + d + 1) with
          | .error e => .error e
          | .ok (n, at1) =>
            match itemsGo (valueF fuel l) l (countedB k) (needF k).1 (needF k).2.2.1 (needF k).2.2.2 (needF k).2.1 [] at1 (parts + 1) with
            | .error e => .error e
            | .ok (got, at2, parts2) => if l[at2]? = some 41 then .ok (⟨k, n, got⟩, at2 + 1, parts2) else .error at2
        else .error (at_ + d)
/-- What a call of value comes to. -/
def ValPost (w : World) (r : Nat) (s : ByteArray) (x : Except Nat (Tree × Nat × Nat)) (e : Ending) (w' : World) : Prop :=
  match x with
  | .ok (t, at', parts') => (∃ v2, e = .returned (.agg #[.int .i64 t.f0, .int .i64 t.f1, v2]) ∧ Kd.R k26 26 w' w.heap.size (fun _ => True) v2 t.f2) ∧ RD w' r s at' parts' ∧ w.grownBy w' (some r) ∧ at' ≤ s.size ∧ parts' ≤ 256
  | .error at' => e = .panicked (wrongAt at') ∧ (∃ q : Int, RD w' r s at' q) ∧ w.grownBy w' (some r)
theorem prefix_one (s : ByteArray) (n : Nat) (c : UInt8) : (bl ⟨#[c]⟩).isPrefixOf (bl (s.extract n s.size)) = decide ((bl s)[n]? = some c) := by
  rw [bl_extract, Bool.eq_iff_iff, List.isPrefixOf_iff_prefix, decide_eq_true_iff]
  show [c] <+: (bl s).drop n ↔ _
  rcases h : (bl s)[n]? with _ | d
  · rw [List.drop_of_length_le (by simpa using h)]; simp
  · rw [drop_cons h]; simp; exact eq_comm
theorem here_some {r : Nat} {w : World} {s : ByteArray} {n : Nat} (_ : r < w.heap.size) (h : n < s.size) : (s.extract n s.size).toList.isEmpty = false := by
  have : ¬ bl (s.extract n s.size) = [] := fun e => by
    have := congrArg List.length e
    rw [bl_length, size_extract'] at this
    simp at this; omega
  rw [ByteArray.toList_eq]
  simpa [bl] using this
theorem RD.dr {w : World} {r : Nat} {s : ByteArray} {n p : Int} (h : RD w r s n p) (k : Nat) : RD (w.drewN k) r s n p := h
theorem number_err {r : Nat} {s : ByteArray} {n : Nat} {p : Int} {w : World} (most : Nat) (M : Int) (hM : M = most) (hm : most < 2 ^ 64) (hR : RD w r s n p) (hn : n ≤ s.size) (hs : s.size ≤ maxLen) {e0 : Nat} (h : numF most (bl s) n = .error e0) :
    Calls Tryd.prog 49 #[.pointer (some ⟨r, 0, none⟩), .int .u64 M] w fun e w' => e = .panicked (wrongAt e0) ∧ RD w' r s e0 p ∧ w.grownBy w' (some r) :=
  hM ▸ (number_calls most hm hR hn hs).mono fun _ _ hp => by rw [h] at hp; exact hp
theorem number_ok {r : Nat} {s : ByteArray} {n : Nat} {p : Int} {w : World} (most : Nat) (M : Int) (hM : M = most) (hm : most < 2 ^ 64) (hR : RD w r s n p) (hn : n ≤ s.size) (hs : s.size ≤ maxLen) {k at' : Nat} (h : numF most (bl s) n = .ok (k, at')) :
    Calls Tryd.prog 49 #[.pointer (some ⟨r, 0, none⟩), .int .u64 M] w fun e w' => e = .returned (.int .u64 k) ∧ RD w' r s at' p ∧ w.grownBy w' (some r) :=
  hM ▸ (number_calls most hm hR hn hs).mono fun _ _ hp => by rw [h] at hp; exact hp
theorem grownBy_drewN' {w w' : World} {row : Option Nat} {k : Nat} (h : (w.drewN k).grownBy w' row) : w.grownBy w' row := ⟨h.os, h.tape, h.output, h.size, h.block⟩
theorem numGo_le {most : Nat} : ∀ {l : List UInt8} {n seen a n' seen' a' : Nat}, numGo most l n seen a = .ok (n', seen', a') → a' ≤ a + l.length ∧ a' = a + (seen' - seen) ∧ seen ≤ seen'
  | [], n, seen, a, n', seen', a', h => by simp only [numGo, Except.ok.injEq, Prod.mk.injEq] at h; obtain ⟨_, rfl, rfl⟩ := h; simp
  | c :: t, n, seen, a, n', seen', a', h => by
    rw [numGo] at h
    split at h
    · simp only [Except.ok.injEq, Prod.mk.injEq] at h; obtain ⟨_, rfl, rfl⟩ := h; simp
    · split at h
      · have := numGo_le h
        simp; omega
      · cases h
theorem numGo_most {most : Nat} : ∀ {l : List UInt8} {n seen a n' seen' a' : Nat}, n ≤ most → numGo most l n seen a = .ok (n', seen', a') → n' ≤ most
  | [], n, seen, a, n', seen', a', hn, h => by simp only [numGo, Except.ok.injEq, Prod.mk.injEq] at h; obtain ⟨rfl, _, _⟩ := h; exact hn
  | c :: t, n, seen, a, n', seen', a', hn, h => by
    rw [numGo] at h
    split at h
    · simp only [Except.ok.injEq, Prod.mk.injEq] at h; obtain ⟨rfl, _, _⟩ := h; exact hn
    · split at h
      · rename_i hq
        exact numGo_most (by omega) h
      · cases h
theorem numF_le {most : Nat} {l : List UInt8} {a n' a' : Nat} (h : numF most l a = .ok (n', a')) : a' ≤ a + (l.length - a) ∧ a < a' := by
  unfold numF at h
  split at h
  · rename_i x hx
    split at h
    · simp only [Except.ok.injEq, Prod.mk.injEq] at h
      obtain ⟨_, rfl⟩ := h
      have := numGo_le hx
      simp at this; omega
    · cases h
  · cases h
theorem numF_most {most : Nat} {l : List UInt8} {a n' a' : Nat} (h : numF most l a = .ok (n', a')) : n' ≤ most := by
  unfold numF at h
  split at h
  · rename_i x hx
    split at h
    · simp only [Except.ok.injEq, Prod.mk.injEq] at h
      obtain ⟨rfl, _⟩ := h
      exact numGo_most (Nat.zero_le _) hx
    · cases h
  · cases h
theorem kind_err (m : Nat) {r : Nat} {s : ByteArray} {n : Nat} {p : Int} {w : World} (hR : RD w r s n p) (hn : n ≤ s.size) (hs : s.size ≤ maxLen) {far : Nat} (h : kindF m ((bl s).drop n) = .error far) {fm : Nat} (hf : mayF m = fm) :
    Calls Tryd.prog 52 #[.pointer (some ⟨r, 0, none⟩), .func (.func fm) #[] #[]] w fun e w' => e = .panicked (wrongAt (n + far : Nat)) ∧ RD w' r s (n + far : Nat) p ∧ w.grownBy w' (some r) :=
  hf ▸ (kind_calls m hR hn hs).mono fun _ _ hp => by rw [h] at hp; exact hp
theorem kind_ok (m : Nat) {r : Nat} {s : ByteArray} {n : Nat} {p : Int} {w : World} (hR : RD w r s n p) (hn : n ≤ s.size) (hs : s.size ≤ maxLen) {k d : Nat} (h : kindF m ((bl s).drop n) = .ok (k, d)) {fm : Nat} (hf : mayF m = fm) :
    Calls Tryd.prog 52 #[.pointer (some ⟨r, 0, none⟩), .func (.func fm) #[] #[]] w fun e w' => e = .returned (.int .i64 k) ∧ RD w' r s (n + d : Nat) p ∧ w.grownBy w' (some r) :=
  hf ▸ (kind_calls m hR hn hs).mono fun _ _ hp => by rw [h] at hp; exact hp
theorem kindGo_ok {m : Nat} {h : List UInt8} : ∀ {ks : List Nat} {far k d : Nat}, kindGo m h ks far = .ok (k, d) → k ∈ ks ∧ ¬ bl (wordOf k) = [] ∧ mayB m k = true ∧ d = (bl (wordOf k)).length ∧ d ≤ h.length ∧ bl (wordOf k) <+: h
  | [], far, k, d, hh => by simp [kindGo] at hh
  | q :: ks, far, k, d, hh => by
    rw [kindGo] at hh
    split at hh
    · obtain ⟨a, b⟩ := kindGo_ok hh; exact ⟨List.mem_cons_of_mem _ a, b⟩
    · rename_i hq
      split at hh
      · rename_i hw
        simp only [Except.ok.injEq, Prod.mk.injEq] at hh
        obtain ⟨rfl, rfl⟩ := hh
        have := cpl_le (bl (wordOf q)) h
        refine ⟨List.mem_cons_self, fun e => hq (.inl e), ?_, hw, this.2, (cpl_whole _ _).1 hw⟩
        cases hb : mayB m q with
        | true => rfl
        | false => exact absurd (.inr hb) hq
      · obtain ⟨a, b⟩ := kindGo_ok hh; exact ⟨List.mem_cons_of_mem _ a, b⟩
theorem kindF_ok {m : Nat} {h : List UInt8} {k d : Nat} (hh : kindF m h = .ok (k, d)) : 1 ≤ k ∧ k ≤ 13 ∧ k ≠ 2 ∧ mayB m k = true ∧ d ≤ h.length ∧ 1 ≤ d := by
  obtain ⟨a, b, c, e, f, _⟩ := kindGo_ok hh
  have hne : k ≠ 2 := by rintro rfl; exact b rfl
  have hd : 1 ≤ d := by rw [e]; exact List.length_pos_iff.2 b
  simp at a
  exact ⟨by omega, by omega, hne, c, f, hd⟩
end Go.Proofs.YtfnekpgbfdhnmaaDoor

namespace Go.Proofs.YtfnekpgbfdhnmaaDoor
open Go.RowKit Go.Proofs.YtfnekpgbfdhnmaaDoorW.PrintWords Go.Proofs.YtfnekpgbfdhnmaaDoorW.PrintLast Go.Proofs.YtfnekpgbfdhnmaaDoorW.PrintMore Go.Proofs.YtfnekpgbfdhnmaaDoor.PAll
/-- Is a Kind an event's? -/
def evB (k : Int) : Bool := decide (5 ≤ k) && decide (k ≤ 13)
set_option maxHeartbeats 1000000 in
theorem vevent_calls (k n : Int) (A : Option Addr) (m c : Nat) (w : World) :
    Calls Tryd.prog 97 #[.agg #[.int .i64 k, .int .i64 n, .slice A m c]] w fun e w' => e = .returned (.bool (evB k)) ∧ Below w.heap.size w w' := by
  have hev : evB k = (decide (5 ≤ k) && decide (k ≤ 13)) := rfl
  by_cases h5 : 5 ≤ k
  · by_cases h13 : k ≤ 13
    · have hB : evB k = true := by rw [hev]; simp [h5, h13]
      rw [hB]
      clear hev hB
      go_enter Tryd.func97, Tryd.ntmps97
      go_wp2_with ((with_reducible refine gate_dst (N := 1) rfl ?_); refine box_event rfl (N := 1) rfl (cs := #[.int .i64 k, .int .i64 n, .slice A m c]) (t := 26) (by kernel_rfl) ?_; intro g hg w1 hb hbel; clear hg; have hc0 : w1.cell? ⟨g, 0, none⟩ = some (.int .i64 k) := blk_cell hb 0)
      go_ret
      exact ⟨rfl, hbel⟩
    · have hB : evB k = false := by rw [hev]; simp [h13]
      rw [hB]
      clear hev hB
      go_enter Tryd.func97, Tryd.ntmps97
      go_wp2_with ((with_reducible refine gate_dst (N := 1) rfl ?_); refine box_event rfl (N := 1) rfl (cs := #[.int .i64 k, .int .i64 n, .slice A m c]) (t := 26) (by kernel_rfl) ?_; intro g hg w1 hb hbel; clear hg; have hc0 : w1.cell? ⟨g, 0, none⟩ = some (.int .i64 k) := blk_cell hb 0)
      go_ret
      exact ⟨rfl, hbel⟩
  · have hB : evB k = false := by rw [hev]; simp [h5]
    rw [hB]
    clear hev hB
    go_enter Tryd.func97, Tryd.ntmps97
    go_wp2_with ((with_reducible refine gate_dst (N := 1) rfl ?_); refine box_event rfl (N := 1) rfl (cs := #[.int .i64 k, .int .i64 n, .slice A m c]) (t := 26) (by kernel_rfl) ?_; intro g hg w1 hb hbel; clear hg; have hc0 : w1.cell? ⟨g, 0, none⟩ = some (.int .i64 k) := blk_cell hb 0)
    go_ret
    exact ⟨rfl, hbel⟩
set_option maxHeartbeats 1000000 in
theorem many1_calls (A : Option Addr) (n c g : Nat) (m : Int) (w : World) (hb : Blk w g 3 #[.int .i64 m]) :
    Calls Tryd.prog 108 #[.slice A n c, .pointer (some ⟨g, 0, none⟩)] w fun e w' => e = .returned (.bool ((n : Int) == m)) ∧ w = w' := by
  have hc : w.cell? ⟨g, 0, none⟩ = some (.int .i64 m) := hb.cell 0
  go_enter Tryd.func108, Tryd.ntmps108
  go_wp2
  go_ret
  exact ⟨rfl, rfl⟩
theorem makeFunc_run {P : Program} (fn : Fn) (first cap : Array Value) (w : World) : (Instr.makeFunc fn first cap).run P w = .ok (.func fn first cap) w := rfl
set_option maxHeartbeats 1000000 in
theorem many_calls (m : Int) (w : World) :
    Calls Tryd.prog 88 #[.int .i64 m] w fun e w' => ∃ g, e = .returned (.func (.func 108) #[] #[.pointer (some ⟨g, 0, none⟩)]) ∧ Blk w' g 3 #[.int .i64 m] ∧ w.heap.size ≤ g ∧ Below w.heap.size w w' := by
  have hmf := fun fn first cap w => makeFunc_run (P := Tryd.prog) fn first cap w
  go_enter Tryd.func88, Tryd.ntmps88
  go_wp2_with ((with_reducible refine gate_dst (N := 1) rfl ?_); refine box_event rfl (N := 1) rfl (cs := #[.int .i64 m]) (t := 3) (by kernel_rfl) ?_; intro g hg w1 hb hbel; have hge : w.heap.size ≤ g := Nat.le_of_eq hg.symm; clear hg)
  go_ret
  exact ⟨g, rfl, hb, hge, hbel⟩
theorem addr_add0 (ad : Addr) : ad.add 0 = ad := by unfold Addr.add; split <;> simp_all
/-- The first element's cells. -/
theorem at_T0 {w : World} {A : Option Addr} {n : Nat} {xs : List Tree} (h : Kd.C k26 w A n xs) (h0 : 0 < n) : ∃ ad A2 c2, A = some ad ∧ w.cell? ad = some (.int .i64 (rd_T26 xs 0).f0) ∧ w.cell? ⟨ad.block, ad.off + 1, none⟩ = some (.int .i64 (rd_T26 xs 0).f1) ∧
    w.cell? ⟨ad.block, ad.off + 2, none⟩ = some (.slice A2 (rd_T26 xs 0).f2.length c2) := by
  obtain ⟨ad, A2, c2, h1, h2, h3, h4, _⟩ := at_T26 h 0 (by omega) (by omega)
  rw [show (0 : Int).toNat * 3 = 0 from rfl, addr_add0] at h2 h3 h4
  exact ⟨ad, A2, c2, h1, h2, h3, h4⟩
set_option maxHeartbeats 1000000 in
theorem vchannel_calls (A : Option Addr) (c : Nat) (l : List Tree) (w : World) (hC : Kd.C k26 w A l.length l) (hl : 0 < l.length) :
    Calls Tryd.prog 92 #[.slice A l.length c] w fun e w' => e = .returned (.bool ((rd_T26 l 0).f0 == 4)) ∧ w = w' := by
  obtain ⟨ad, A2, c2, rfl, h0, _⟩ := at_T0 hC hl
  generalize (rd_T26 l 0).f0 = k at *
  have hl1 : (0 : Int) < l.length := by omega
  generalize l.length = L at *
  go_enter Tryd.func92, Tryd.ntmps92
  go_wp2
  go_ret
  exact ⟨rfl, rfl⟩
end Go.Proofs.YtfnekpgbfdhnmaaDoor

namespace Go.Proofs.YtfnekpgbfdhnmaaDoor
open Go.RowKit Go.Proofs.YtfnekpgbfdhnmaaDoorW.PrintWords Go.Proofs.YtfnekpgbfdhnmaaDoorW.PrintLast Go.Proofs.YtfnekpgbfdhnmaaDoorW.PrintMore Go.Proofs.YtfnekpgbfdhnmaaDoor.PAll
attribute [local go_sem] Oper.semAt_some
/-- What lies in a row of values: each one's own row. -/
def RowAt (w : World) (A : Option Addr) (xs : List Tree) (va : Nat → Option Addr × Nat) : Prop :=
  ∀ i : Nat, i < xs.length → ∃ ad, A = some ad ∧ ad.block < w.heap.size ∧ w.cell? (ad.add (i * 3)) = some (.int .i64 (rd_T26 xs i).f0) ∧ w.cell? ⟨(ad.add (i * 3)).block, (ad.add (i * 3)).off + 1, none⟩ = some (.int .i64 (rd_T26 xs i).f1) ∧
    w.cell? ⟨(ad.add (i * 3)).block, (ad.add (i * 3)).off + 2, none⟩ = some (.slice (va i).1 (rd_T26 xs i).f2.length (va i).2) ∧ (rd_T26 xs i).f2.length ≤ (va i).2 ∧ Kd.C k26 w (va i).1 (rd_T26 xs i).f2.length (rd_T26 xs i).f2
theorem add_block (ad : Addr) (n : Nat) : (ad.add n).block = ad.block := by unfold Addr.add; split <;> rfl
theorem rowAt_of {w : World} {A : Option Addr} {n : Nat} {xs : List Tree} (h : Kd.C k26 w A n xs) : ∃ va, RowAt w A xs va := by
  have hlen := Kd.C_len h
  have hall : ∀ i : Nat, ∃ p : Option Addr × Nat, i < xs.length → ∃ ad, A = some ad ∧ ad.block < w.heap.size ∧ w.cell? (ad.add (i * 3)) = some (.int .i64 (rd_T26 xs i).f0) ∧ w.cell? ⟨(ad.add (i * 3)).block, (ad.add (i * 3)).off + 1, none⟩ = some (.int .i64 (rd_T26 xs i).f1) ∧
      w.cell? ⟨(ad.add (i * 3)).block, (ad.add (i * 3)).off + 2, none⟩ = some (.slice p.1 (rd_T26 xs i).f2.length p.2) ∧ (rd_T26 xs i).f2.length ≤ p.2 ∧ Kd.C k26 w p.1 (rd_T26 xs i).f2.length (rd_T26 xs i).f2 := fun i => by
    by_cases hi : i < xs.length
    · obtain ⟨ad, A2, c2, h1, h2, h3, h4, h5, h6⟩ := at_T26 h i (by omega) (by omega)
      rw [show ((i : Nat) : Int).toNat * 3 = i * 3 from by simp] at h2 h3 h4
      have hlt := World.block_lt_of_cell? _ _ h2
      rw [add_block] at hlt
      exact ⟨(A2, c2), fun _ => ⟨ad, h1, hlt, h2, h3, h4, h5, h6⟩⟩
    · exact ⟨(none, 0), fun h => absurd h hi⟩
  obtain ⟨va, hva⟩ := Classical.skolem.1 hall
  exact ⟨va, hva⟩
/-- One of a row, as it is handed to a loop. -/
def backEnc (xs : List Tree) (va : Nat → Option Addr × Nat) (i : Nat) : Array Value :=
  #[.int .i64 i, .agg #[.int .i64 (rd_T26 xs i).f0, .int .i64 (rd_T26 xs i).f1, .slice (va i).1 (rd_T26 xs i).f2.length (va i).2]]
def prevI : Nat → Int
  | 0 => -1
  | i + 1 => i
/-- From the last one to the one at j. -/
def downTo (n j : Nat) : List Nat := (List.range n).reverse.take (n - j)
theorem downTo_all (n : Nat) : downTo n 0 = (List.range n).reverse := by simp [downTo, List.take_of_length_le]
theorem downTo_end (n : Nat) : downTo n n = [] := by simp [downTo]
theorem downTo_step {n j : Nat} (h : j < n) : downTo n j = downTo n (j + 1) ++ [j] := by
  unfold downTo
  rw [show n - j = (n - (j + 1)) + 1 by omega, List.take_add_one]
  congr 1
  rw [List.getElem?_reverse (by simp; omega), List.length_range, List.getElem?_range (by omega), show n - 1 - (n - (j + 1)) = j from by omega]
  rfl
theorem downTo_pre {n j : Nat} (h : j < n) : (downTo n (j + 1) ++ [j]) <+: (List.range n).reverse := by
  rw [← downTo_step h]; exact List.take_prefix _ _
/-- The world in which an iterator over a row begins. -/
def BackSt (sb base : Nat) (A : Option Addr) (c : Nat) (xs : List Tree) (va : Nat → Option Addr × Nat) (W : World) : Prop :=
  Blk W sb 24 #[.slice A xs.length c] ∧ base ≤ W.heap.size ∧ ∀ i : Nat, i < xs.length → ∃ ad, A = some ad ∧ ad.block < base ∧ W.cell? (ad.add (i * 3)) = some (.int .i64 (rd_T26 xs i).f0) ∧ W.cell? ⟨(ad.add (i * 3)).block, (ad.add (i * 3)).off + 1, none⟩ = some (.int .i64 (rd_T26 xs i).f1) ∧
    W.cell? ⟨(ad.add (i * 3)).block, (ad.add (i * 3)).off + 2, none⟩ = some (.slice (va i).1 (rd_T26 xs i).f2.length (va i).2)
theorem backSt_of {w W : World} {A : Option Addr} {xs : List Tree} {va : Nat → Option Addr × Nat} {sb c : Nat} (h : RowAt w A xs va) (hW : Below w.heap.size w W) (hs : Blk W sb 24 #[.slice A xs.length c]) : BackSt sb w.heap.size A c xs va W :=
  ⟨hs, hW.size, fun i hi => by
    obtain ⟨ad, h1, h2, h3, h4, h5, _, _⟩ := h i hi
    exact ⟨ad, h1, h2, (hW.cell (by rw [add_block]; exact h2)).trans h3, (hW.cell (by show (ad.add (i * 3)).block < _; rw [add_block]; exact h2)).trans h4, (hW.cell (by show (ad.add (i * 3)).block < _; rw [add_block]; exact h2)).trans h5⟩⟩
theorem BackSt.chg {W W' : World} {sb base c : Nat} {A : Option Addr} {xs : List Tree} {va : Nat → Option Addr × Nat} {S : Nat → Prop} (h : BackSt sb base A c xs va W) (hc : Chg S W W') (hs : ¬ S sb) (hb : ∀ k, k < base → ¬ S k) : BackSt sb base A c xs va W' :=
  ⟨hc.blk h.1 hs, Nat.le_trans h.2.1 hc.size, fun i hi => by
    obtain ⟨ad, h1, h2, h3, h4, h5⟩ := h.2.2 i hi
    have hB := hc.below (n := base) hb h.2.1
    exact ⟨ad, h1, h2, (hB.cell (by rw [add_block]; exact h2)).trans h3, (hB.cell (by show (ad.add (i * 3)).block < _; rw [add_block]; exact h2)).trans h4, (hB.cell (by show (ad.add (i * 3)).block < _; rw [add_block]; exact h2)).trans h5⟩⟩
set_option maxRecDepth 100000 in
set_option maxHeartbeats 2000000 in
theorem back_said (sb base : Nat) (A : Option Addr) (c : Nat) (xs : List Tree) (va : Nat → Option Addr × Nat) (hmax : xs.length ≤ 9223372036854775807) :
    IterSaid Tryd.prog 84 #[.pointer (some ⟨sb, 0, none⟩)] (backEnc xs va) (List.range xs.length).reverse (fun _ => False) (fun k => k < base ∨ k = sb) 0 (BackSt sb base A c xs va) := by
  intro l J Jx W hW hJ hJx hY h0
  refine callsIn_of_wp Tryd.func84 rfl trivial ?_ rfl
  simp only [Tryd.ntmps84, List.size_toArray, List.length_cons, List.length_nil, Nat.reduceAdd, Nat.reduceSub, Array.replicate_succ, Array.replicate_zero, List.push_toArray, List.append_toArray, List.nil_append, List.cons_append]
  have hc0 : W.cell? ⟨sb, 0, none⟩ = some (.slice A xs.length c) := hW.1.cell 0
  gi_wp2
  gi_loopw [3] (fun i wr => ∃ j : Nat, j ≤ xs.length ∧ i = .int .i64 (prevI j) ∧ J (downTo xs.length j) wr ∧ BackSt sb base A c xs va wr ∧ W.heap.size ≤ wr.heap.size)
    (fun i _ => (intOf i + 1).toNat)
  case atStart =>
    refine ⟨xs.length, Nat.le_refl _, ?_, by rw [downTo_end]; exact h0, hW, Nat.le_refl _⟩
    cases hx : xs.length with
    | zero => simp [prevI]
    | succ q => simp [prevI]
  case round =>
    obtain ⟨j, hj, rfl, hJs, hS, hsz⟩ := hrel
    have hcb : wr.cell? ⟨sb, 0, none⟩ = some (.slice A xs.length c) := hS.1.cell 0
    cases j with
    | zero =>
      rw [downTo_all] at hJs
      have e0 : prevI 0 = -1 := rfl
      rw [e0]
      clear e0
      gi_wp2
      go_end0
      exact ⟨⟨_, rfl⟩, .inl hJs⟩
    | succ i =>
      have hi : i < xs.length := hj
      obtain ⟨ad, hA, hbl, k0, k1, k2⟩ := hS.2.2 i hi
      obtain ⟨fn, tmps, assign, body, hy, hR⟩ := hY _ i wr hJs (downTo_pre hi) (by omega)
      rw [← downTo_step hi] at hR
      have e0 : prevI (i + 1) = i := rfl
      rw [e0]
      have hii : (0 : Int) ≤ (i : Int) := by omega
      have hil : (i : Int) < xs.length := by omega
      subst hA
      clear e0
      unfold backEnc at hy
      gi_wp2
      refine ⟨rfl, hR.mono ?_⟩
      rintro e W3 ⟨hc, (⟨rfl, hJ3⟩ | ⟨rfl, hJx3⟩)⟩
      · gi_wp2
        go_roundw
        case rel =>
          have hs3 := hc.size
          refine ⟨i, by omega, by cases i <;> simp [prevI], hJ3, hS.chg hc (fun h => h (.inl (.inr rfl))) (fun k hk h => h (.inl (.inl hk))), by omega⟩
        case measure => cases i <;> simp [intOf] <;> omega
      · gi_wp2
        refine bodyPost_ret (results_none rfl _ _ _) rfl ?_
        exact ⟨⟨_, rfl⟩, .inr ⟨downTo xs.length (i + 1), i, downTo_pre hi, by rw [← downTo_step hi]; exact hJx3⟩⟩
end Go.Proofs.YtfnekpgbfdhnmaaDoor

namespace Go.Proofs.YtfnekpgbfdhnmaaDoor
open Go.RowKit Go.Proofs.YtfnekpgbfdhnmaaDoorW.PrintWords Go.Proofs.YtfnekpgbfdhnmaaDoorW.PrintLast Go.Proofs.YtfnekpgbfdhnmaaDoorW.PrintMore Go.Proofs.YtfnekpgbfdhnmaaDoor.PAll
section
variable {P : Program} {ops : Array Oper} {Q : Exit → Act → World → Prop} {K next : Act → World → Prop} {a : Act} {W : World} {o : Oper} {rest : List Oper} {l : Nat}
theorem rows_wide {P : Program} {row : String} {args : Array Value} {w : World} {R : Value → World → Prop} (h : Rows P row args w R) : RowsIn Fence.wide 0 P row args w R :=
  fun c cs _ => let ⟨v, w', r, s⟩ := h c cs; ⟨v, w', r, stepsIn_wide.2 s⟩
theorem upon_mono {next' : Act → World → Prop} {Q' : Exit → Act → World → Prop} (hn : ∀ a w, next a w → next' a w) (hp : ∀ c a w, Q' (.panic c) a w → Q (.panic c) a w) (hQ : ¬ LetsOut Q') {r : Result Next} (h : o.upon P a next Q' r) : o.uponIn (Fence.wide.inRound l) 0 P a next' Q r := by
  unfold Oper.upon at h
  unfold Oper.uponIn
  split at h
  · exact hn _ _ h
  · exact hn _ _ h
  · exact hn _ _ h
  · refine ⟨fun hd => by simp [Fence.wide] at hd, CallsIn.inRound l (callsIn_wide.2 (h.mono ?_))⟩
    rintro e w' he
    cases e with
    | returned v => exact hn _ _ he
    | panicked c => exact hp _ _ _ he
    | outgrown => exact absurd he hQ
  · exact ⟨fun hd => by simp [Fence.wide] at hd, (rows_wide h).mono (fun v w' hv => hn _ _ hv)⟩
  · exact hp _ _ _ h
  · exact h.elim
/-- No operation of these defers. -/
def noDefer (l : List Oper) : Bool := l.all fun o => match o.op with | .defer _ => false | _ => true
theorem noDefer_cons {o : Oper} {l : List Oper} (h : noDefer (o :: l) = true) : (∀ c, o.op ≠ .defer c) ∧ noDefer l = true := by
  simp only [noDefer, List.all_cons, Bool.and_eq_true] at h
  exact ⟨fun c hc => by simp [hc] at h, h.2⟩
/-- A region within a round: as it goes anywhere. -/
theorem in_list (hQ : ¬ LetsOut Q) : ∀ (l0 : List Oper) (a : Act) (W : World), noDefer l0 = true → wpList P ops Q l0 a W → wpListIn (Fence.wide.inRound l) 0 P ops Q l0 a W
  | [], _, _, _, h => h
  | o :: rest, a, W, hd, h => by
    obtain ⟨hd1, hd2⟩ := noDefer_cons hd
    simp only [wpList] at h
    simp only [wpListIn]
    split
    · rename_i hw
      rw [if_pos hw] at h
      rcases h with h | ⟨_, h⟩
      · refine ⟨fun _ _ => trivial, ?_⟩
        rw [Oper.semAt_eq _ _ _ hd1]
        exact upon_mono (fun a w hn => in_list hQ rest a w hd2 hn) (fun _ _ _ h => h) hQ h
      · exact absurd h hQ
    · rename_i hw
      rw [if_neg hw] at h
      exact ⟨fun _ _ => trivial, in_list hQ rest _ _ hd2 h⟩
theorem region_inRound {id : Nat} {l0 : List Oper} (hQ : ¬ LetsOut Q) (hd : noDefer l0 = true) (h : wpList P l0.toArray Q l0 a W) : (Code.region id l0.toArray false).wpIn (Fence.wide.inRound l) 0 P Q a W :=
  wpIn_region_lit (in_list hQ _ _ _ hd h)
theorem load_cell_event {P : Program} {ops : Array Oper} {rest : List Oper} {o : Oper} {a : Act} {Q : Exit → Act → World → Prop} {W : World} (hgd : o.guard = none) {T : TypeId} {x : Operand} (ho : o.op = .load T x) {g i : Nat} {t : TypeId} {cells : Array Value} {v : Value} {d : TypeDesc}
    (hx : a.eval x = .pointer (some ⟨g, i, none⟩)) (hb : Blk W g t cells) (hi : cells[i]? = some v) (hu : P.underlying T = some d) (hd : (match d with | .struct _ | .array _ _ => true | _ => false) = false)
    (h : wpList P ops Q rest (a.put o.dst v) W) : wpList P ops Q (o :: rest) a W := by
  refine Kd.event_run hgd ?_ h
  have hagg : (isAgg T).run P W = .ok false W := by
    unfold isAgg
    rw [Sem.run_bind, run_underlying hu W]
    cases d <;> simp_all
  have hc : W.cell? ⟨g, i, none⟩ = some v := (hb.cell i).trans hi
  unfold execOp
  simp [ho, hx, Instr.loadAt, Instr.sureAddr, Sem.run_bind, loadVar, hagg, load, Sem.run, hc]
end
end Go.Proofs.YtfnekpgbfdhnmaaDoor

namespace Go.Proofs.YtfnekpgbfdhnmaaDoor
open Go.RowKit Go.Proofs.YtfnekpgbfdhnmaaDoorW.PrintWords Go.Proofs.YtfnekpgbfdhnmaaDoorW.PrintLast Go.Proofs.YtfnekpgbfdhnmaaDoorW.PrintMore Go.Proofs.YtfnekpgbfdhnmaaDoor.PAll
/-- The parts of what stands on a pile, behind those that were told. -/
def partsGo : Nat → List (Tree × Int) → List (Tree × Int) → List (Tree × Int) × Bool
  | 0, _, out => (out, false)
  | _ + 1, [], out => (out, true)
  | f + 1, x :: rest, out => if out.length = 256 then (out, false) else partsGo f ((x.1.f2.take 256).map (fun y => (y, x.2 + 1)) ++ rest) (out ++ [x])
def partsF (t : Tree) : List (Tree × Int) × Bool := partsGo 258 [(t, 0)] []
/-- One part, as it lies: its list is the argument's, in the world w. -/
def kPart (w : World) : Kd (Tree × Int) := Kd.pair (Kd.fixed k26 w) (Kd.int .i64)
theorem kPart_E (w : World) : (kPart w).E = [] := rfl
theorem kPart_open {w W : World} {x : Tree × Int} {cs : List Value} (h : (kPart w).K W x cs) : ∃ A c, cs = [.int .i64 x.1.f0, .int .i64 x.1.f1, .slice A x.1.f2.length c, .int .i64 x.2] ∧ x.1.f2.length ≤ c ∧ Kd.C k26 w A x.1.f2.length x.1.f2 := by
  obtain ⟨c0, c1, rfl, h0, rfl⟩ := h
  obtain ⟨A, c, rfl, hc, hC⟩ := k26_open h0
  exact ⟨A, c, rfl, hc, hC⟩
theorem kPart_mk {w W : World} {base : Nat} {ok : Nat → Prop} {x : Tree × Int} {A : Option Addr} {c : Nat} (hc : x.1.f2.length ≤ c) (hC : Kd.C k26 w A x.1.f2.length x.1.f2) : (kPart w).M W base ok x [.int .i64 x.1.f0, .int .i64 x.1.f1, .slice A x.1.f2.length c, .int .i64 x.2] :=
  ⟨[.int .i64 x.1.f0, .int .i64 x.1.f1, .slice A x.1.f2.length c], [.int .i64 x.2], rfl, k26_mk w x.1 hc hC, rfl⟩
def part0 : Tree × Int := (z26, 0)
/-- What the loop knows of one that stands in a row of parts. -/
theorem part_at {w W : World} {base : Nat} {ok : Nat → Prop} {A : Option Addr} {n c : Nat} {xs : List (Tree × Int)} (h : Kd.R (kPart w) 95 W base ok (.slice A n c) xs) {i : Nat} (hi : i < xs.length) :
    ∃ ad A2 c2, A = some ad ∧ W.cell? (ad.add (i * 4)) = some (.int .i64 (xs.getD i part0).1.f0) ∧ W.cell? ⟨(ad.add (i * 4)).block, (ad.add (i * 4)).off + 1, none⟩ = some (.int .i64 (xs.getD i part0).1.f1) ∧
      W.cell? ⟨(ad.add (i * 4)).block, (ad.add (i * 4)).off + 2, none⟩ = some (.slice A2 (xs.getD i part0).1.f2.length c2) ∧ W.cell? ⟨(ad.add (i * 4)).block, (ad.add (i * 4)).off + 3, none⟩ = some (.int .i64 (xs.getD i part0).2) ∧
      (xs.getD i part0).1.f2.length ≤ c2 ∧ Kd.C k26 w A2 (xs.getD i part0).1.f2.length (xs.getD i part0).1.f2 := by
  obtain ⟨hn, hc, hC⟩ := Kd.R_reads' h
  obtain ⟨ad, cs, e, _, hK, hc0⟩ := Kd.C_get hC part0 (i : Int) (by omega) (by omega)
  rw [show ((i : Nat) : Int).toNat = i from by simp] at hK hc0
  obtain ⟨A2, c2, rfl, hl, hCC⟩ := kPart_open hK
  refine ⟨ad, A2, c2, e, hc0 0 _ rfl, ?_, ?_, ?_, hl, hCC⟩
  · rw [← add_field _ _ 1 (by omega)]; exact hc0 1 _ rfl
  · rw [← add_field _ _ 2 (by omega)]; exact hc0 2 _ rfl
  · rw [← add_field _ _ 3 (by omega)]; exact hc0 3 _ rfl
theorem info_part : (Tryd.prog.info? 95).map (fun i => (i.zero, i.size, i.bytes)) = some (some (.agg #[.int .i64 0, .int .i64 0, .slice none 0 0, .int .i64 0]), 4, 48) := by kernel_rfl
theorem makeFunc_run2 : ∀ fn first cap w, (Instr.makeFunc fn first cap).run Tryd.prog w = .ok (.func fn first cap) w := fun _ _ _ _ => rfl
set_option maxHeartbeats 1000000 in
theorem backward_calls (A : Option Addr) (n c : Nat) (w : World) :
    Calls Tryd.prog 70 #[.slice A n c] w fun e w' => ∃ g, e = .returned (.func (.func 84) #[] #[.pointer (some ⟨g, 0, none⟩)]) ∧ Blk w' g 24 #[.slice A n c] ∧ w.heap.size ≤ g ∧ Below w.heap.size w w' := by
  have hmf := makeFunc_run2
  go_enter Tryd.func70, Tryd.ntmps70
  go_wp2_with ((with_reducible refine gate_dst (N := 1) rfl ?_); refine box_event rfl (N := 1) rfl (cs := #[.slice A n c]) (t := 24) (by kernel_rfl) ?_; intro g hg w1 hb hbel; have hge : w.heap.size ≤ g := Nat.le_of_eq hg.symm; clear hg)
  go_ret
  exact ⟨g, rfl, hb, hge, hbel⟩
end Go.Proofs.YtfnekpgbfdhnmaaDoor
