/- Part 6 of the proof: what is used of the words, contracts and walks (RVal to LawParses). -/
import Derived.Test.YtfnekpgbfdhnmaaDoorVp4
set_option linter.unusedVariables false
set_option linter.unusedSimpArgs false
namespace Go.Proofs.YtfnekpgbfdhnmaaDoor
open Go.RowKit Go.Proofs.YtfnekpgbfdhnmaaDoorW.PrintWords Go.Proofs.YtfnekpgbfdhnmaaDoorW.PrintLast Go.Proofs.YtfnekpgbfdhnmaaDoorW.PrintMore Go.Proofs.YtfnekpgbfdhnmaaDoor.PAll
section
variable {P : Program} {ops : Array Oper} {Q : Exit → Act → World → Prop} {md : Region.Mode} {S : World → Prop} {tl : Nat → Bool}
theorem draw_store_row {i : Nat} {o : Oper} {f : Nat} {listed l2 : Array Bool} {a : Act} {w : World} {T : TypeId} {x y : Operand} {g : Nat} {cells old : Array Value} {t : TypeId} (hr : Region.ready md ops listed = [i]) (hl : listed.setIfInBounds i true = l2) (hi : ops[i]? = some o)
    (hw : Region.wanted o (yielded ops a.tmps) = true) (ho : o.op = .store T x y) (hx : (a.eval x, a.eval y) = (.pointer (some ⟨g, 0, none⟩), .agg cells)) (hb : Blk w g t old) (hsz : (P.info? T).map (·.size) = some cells.size) (hs : old.size = cells.size) (h1 : cells.all (·.oneCell') = true) (hd : o.dst = none)
    (h : ∀ w1, Blk w1 g t cells → w.grownBy w1 (some g) → S w1 ∧ AnyL P md ops Q S tl f l2 a w1) : AnyL P md ops Q S tl (f + 1) listed a w := by
  have h2 := h _ (setRow_heap hb) (grownBy_setRow w g cells)
  refine draw_one hr hl (op_skip hi hw (run_store_row ho hx hb hsz hs h1) ⟨fun _ => h2.1, ?_⟩)
  rw [hd]
  exact h2.2
end
theorem run_conv {o : Oper} {a : Act} {W : World} {x : Operand} {v : Int} (ho : o.op = .convert 105 2 x) (hx : a.eval x = .int .u64 v) (hv : -9223372036854775808 ≤ v) (hv2 : v ≤ 9223372036854775807) : (execOp a.eval o).run Tryd.prog W = .ok (.value (.int .i64 v)) W := by
  generalize a.eval = ρ at *
  have hw : IntKind.i64.wrap v = v := by rw [IntKind.wrap_i64]; omega
  unfold execOp
  simp [ho, hx, convert, run_underlying Tryd.underlying105, run_underlying Tryd.underlying2, go_sem, hw]
/-- What a call of value comes to. -/
def RVPost (w : World) (s : ByteArray) (x : Except Nat (Tree × Nat × Nat)) (e : Ending) (w' : World) : Prop :=
  ∃ (t : Tree) (a p : Nat) (b : Bool) (v2 : Value), e = .returned (.tuple #[.agg #[.string s, .int .i64 a, .int .i64 p, .bool b], .agg #[.int .i64 t.f0, .int .i64 t.f1, v2]]) ∧ Kd.R k26 26 w' w.heap.size (fun _ => True) v2 t.f2 ∧ Below w.heap.size w w' ∧
    (match x with
      | .ok (t0, a0, p0) => b = false ∧ t = t0 ∧ a = a0 ∧ p = p0
      | .error a0 => b = true ∧ a = a0)
def RefValSaid (fuel : Nat) : Prop := ∀ (m : Nat) (s : ByteArray) (n p : Nat) (w : World), m ≤ 2 → n ≤ s.size → s.size ≤ maxLen → p ≤ 256 → 257 ≤ fuel + p →
  Calls Tryd.prog 30 #[.agg #[.string s, .int .i64 n, .int .i64 p, .bool false], .int .i64 m] w (RVPost w s (valueF fuel (bl s) m n p))
theorem rv_results {W : World} {g0 g1 : Nat} {cs c2 tmps : Array Value} (h0 : Blk W g0 71 cs) (hc : cs.size = 4) (h1 : Blk W g1 26 c2) (hc2 : c2.size = 3) (p0 : tmps.getD 4 undef = .pointer (some ⟨g0, 0, none⟩)) (p1 : tmps.getD 5 undef = .pointer (some ⟨g1, 0, none⟩)) :
    (results Tryd.f30 tmps).run Tryd.prog W = .ok (.tuple #[.agg cs, .agg c2]) W := by
  have e0 := run_loadVar_row (P := Tryd.prog) W g0 71 71 cs (0, 0) _ h0 Tryd.underlying71 rfl (by rw [hc]; kernel_rfl)
  have e1 := run_loadVar_row (P := Tryd.prog) W g1 26 26 c2 (0, 0) _ h1 Tryd.underlying26 rfl (by rw [hc2]; kernel_rfl)
  simp only [Array.getD_eq_getD_getElem?] at p0 p1
  simp [results, p0, p1, asAddr, e0, e1]
theorem rdigit_calls (s : ByteArray) (n : Nat) (p : Int) (b : Bool) {d : Int} {is : Bool} (h : digitAt (bl s) n = (d, is)) (w : World) : Calls Tryd.prog 55 #[.agg #[.string s, .int .i64 n, .int .i64 p, .bool b]] w fun e w' => e = .returned (.tuple #[.int .u64 d, .bool is]) ∧ Below w.heap.size w w' :=
  betrothalref05_reader_digit.calls s n p b d is w (by rw [rdigit, h])
theorem ris_calls (s : ByteArray) (n : Nat) (p : Int) (b : Bool) (c : UInt8) (k : Int) (hk : k = c.toNat) {r : Bool} (h : decide ((bl s)[n]? = some c) = r) (w : World) : Calls Tryd.prog 56 #[.agg #[.string s, .int .i64 n, .int .i64 p, .bool b], .int .u8 k] w fun e w' => e = .returned (.bool r) ∧ Below w.heap.size w w' := by
  subst hk
  exact betrothalref05_reader_is.calls s n p b _ r w (by rw [ris, h])
theorem rsign_yes (s : ByteArray) (hs : s.size ≤ maxLen) (n : Nat) (p : Int) (c : UInt8) (k : Int) (hk : k = c.toNat) (h : (bl s)[n]? = some c) (w : World) : Calls Tryd.prog 58 #[.agg #[.string s, .int .i64 n, .int .i64 p, .bool false], .int .u8 k] w fun e w' => e = .returned (.agg #[.string s, .int .i64 (n + 1 : Nat), .int .i64 p, .bool false]) ∧ Below w.heap.size w w' := by
  subst hk
  exact betrothalref05_reader_sign.calls s n p false _ s _ p false w (by rw [rsign s hs, if_pos h])
theorem rsign_no (s : ByteArray) (hs : s.size ≤ maxLen) (n : Nat) (p : Int) (c : UInt8) (k : Int) (hk : k = c.toNat) (h : ¬ (bl s)[n]? = some c) (w : World) : Calls Tryd.prog 58 #[.agg #[.string s, .int .i64 n, .int .i64 p, .bool false], .int .u8 k] w fun e w' => e = .returned (.agg #[.string s, .int .i64 n, .int .i64 p, .bool true]) ∧ Below w.heap.size w w' := by
  subst hk
  exact betrothalref05_reader_sign.calls s n p false _ s _ p true w (by rw [rsign s hs, if_neg h])
theorem rsign_was (s : ByteArray) (n : Nat) (p k : Int) (w : World) : Calls Tryd.prog 58 #[.agg #[.string s, .int .i64 n, .int .i64 p, .bool true], .int .u8 k] w fun e w' => e = .returned (.agg #[.string s, .int .i64 n, .int .i64 p, .bool true]) ∧ Below w.heap.size w w' :=
  betrothalref05_reader_sign.calls s n p true _ s n p true w (rsign_bad s n p k)
theorem rnumber_ok (most : Nat) (hm : 9 ≤ most) (hm2 : most < 18446744073709551616) (s : ByteArray) (hs : s.size ≤ maxLen) (p : Int) (n : Nat) (hn : n ≤ s.size) (first : Nat) (hf : first ≤ 1) (h48 : first = 1 → (bl s)[n]? ≠ some 48) {v a : Nat} (h : numF most (bl s) n = .ok (v, a)) (M F : Int) (hM : M = most) (hF : F = first) (w : World) :
    Calls Tryd.prog 57 #[.agg #[.string s, .int .i64 n, .int .i64 p, .bool false], .int .u64 M, .int .u64 F] w fun e w' => e = .returned (.tuple #[.agg #[.string s, .int .i64 a, .int .i64 p, .bool false], .int .u64 v]) ∧ Below w.heap.size w w' := by
  subst hM; subst hF
  exact betrothalref05_reader_number.calls (s.size + 3) s n p false _ _ s a p false v w (by rw [rnumber most hm hm2 s hs p n hn first hf h48, h]; rfl)
theorem rnumber_err (most : Nat) (hm : 9 ≤ most) (hm2 : most < 18446744073709551616) (s : ByteArray) (hs : s.size ≤ maxLen) (p : Int) (n : Nat) (hn : n ≤ s.size) (first : Nat) (hf : first ≤ 1) (h48 : first = 1 → (bl s)[n]? ≠ some 48) {e0 : Nat} (h : numF most (bl s) n = .error e0) (M F : Int) (hM : M = most) (hF : F = first) (w : World) :
    Calls Tryd.prog 57 #[.agg #[.string s, .int .i64 n, .int .i64 p, .bool false], .int .u64 M, .int .u64 F] w fun e w' => e = .returned (.tuple #[.agg #[.string s, .int .i64 e0, .int .i64 p, .bool true], .int .u64 0]) ∧ Below w.heap.size w w' := by
  subst hM; subst hF
  exact betrothalref05_reader_number.calls (s.size + 3) s n p false _ _ s e0 p true 0 w (by rw [rnumber most hm hm2 s hs p n hn first hf h48, h]; rfl)
theorem rnumber_nil (most : Nat) (s : ByteArray) (p : Int) (n : Nat) (h48 : (bl s)[n]? = some 48) (M : Int) (hM : M = most) (w : World) :
    Calls Tryd.prog 57 #[.agg #[.string s, .int .i64 n, .int .i64 p, .bool false], .int .u64 M, .int .u64 1] w fun e w' => e = .returned (.tuple #[.agg #[.string s, .int .i64 n, .int .i64 p, .bool true], .int .u64 0]) ∧ Below w.heap.size w w' := by
  subst hM
  exact betrothalref05_reader_number.calls (s.size + 3) s n p false _ _ s n p true 0 w (rnumber_zero most s p n h48)
theorem rnumber_was (s : ByteArray) (p : Int) (n : Nat) (M F : Int) (w : World) :
    Calls Tryd.prog 57 #[.agg #[.string s, .int .i64 n, .int .i64 p, .bool true], .int .u64 M, .int .u64 F] w fun e w' => e = .returned (.tuple #[.agg #[.string s, .int .i64 n, .int .i64 p, .bool true], .int .u64 0]) ∧ Below w.heap.size w w' :=
  betrothalref05_reader_number.calls (s.size + 3) s n p true _ _ s n p true 0 w (rnumber_bad M F s p n)
set_option maxRecDepth 100000 in
set_option maxHeartbeats 2000000 in
theorem rv_stop (m n p : Nat) (b : Bool) (s : ByteArray) (w : World) (hst : b = true ∨ s.size ≤ n ∨ 256 ≤ p) :
    Calls Tryd.prog 30 #[.agg #[.string s, .int .i64 n, .int .i64 p, .bool b], .int .i64 m] w fun e w' => e = .returned (.tuple #[.agg #[.string s, .int .i64 n, .int .i64 p, .bool true], .agg val0]) ∧ Below w.heap.size w w' := by
  cases b with
  | true =>
    clear hst
    go_enter Tryd.func30, Tryd.ntmps30
    go_wp2_with (first
      | ((with_reducible refine gate_dst (N := 2) rfl ?_); refine box_event rfl (N := 2) rfl (cs := #[.string s, .int .i64 n, .int .i64 p, .bool true]) (t := 71) (by kernel_rfl) ?_; intro g2 hgg2 w1 hb1 hbel1; have hgeg2 : w.heap.size ≤ g2 := Nat.le_of_eq hgg2.symm; clear hgg2)
      | ((with_reducible refine gate_dst (N := 4) rfl ?_); refine box_event rfl (N := 4) rfl (cs := #[.string ⟨#[]⟩, .int .i64 0, .int .i64 0, .bool false]) (t := 71) (by kernel_rfl) ?_; intro g4 hgg4 w2 hb2 hbel2; have hgeg4 : w1.heap.size ≤ g4 := Nat.le_of_eq hgg4.symm; clear hgg4)
      | ((with_reducible refine gate_dst (N := 5) rfl ?_); refine box_event rfl (N := 5) rfl (cs := val0) (t := 26) (by kernel_rfl) ?_; intro g5 hgg5 w3 hb3 hbel3; have hgeg5 : w2.heap.size ≤ g5 := Nat.le_of_eq hgg5.symm; clear hgg5; have hb23 := blk_below (blk_below hb1 hbel2) hbel3; have hb43 := blk_below hb2 hbel3; have hB3 : Below w.heap.size w w3 := below_step (below_step hbel1 hbel2) hbel3; have l2 := blk_lt hb1; have l4 := blk_lt hb2; have h24 : g4 ≠ g2 := (by omega); have h25 : g5 ≠ g2 := (by have := hbel2.size; omega); have h45 : g5 ≠ g4 := (by omega); have hw2 : w.heap.size ≤ g2 := hgeg2; have hw4 : w.heap.size ≤ g4 := (by have := hbel1.size; omega); have hw5 : w.heap.size ≤ g5 := (by have := hbel1.size; have := hbel2.size; omega); have m4 : g4 < w3.heap.size := blk_lt hb43; have m2 : g2 < w3.heap.size := blk_lt hb23; have m5 : g5 < w3.heap.size := blk_lt hb3; clear l2 l4 hbel1 hbel2 hbel3 hgeg2 hgeg4 hgeg5 hb1 hb2; have q0 : w3.cell? ⟨g2, 0, none⟩ = some (.string s) := Blk.cell hb23 0; have q1 : w3.cell? ⟨g2, 1, none⟩ = some (.int .i64 n) := Blk.cell hb23 1; have q2 : w3.cell? ⟨g2, 2, none⟩ = some (.int .i64 p) := Blk.cell hb23 2; have q3 : w3.cell? ⟨g2, 3, none⟩ = some (.bool true) := Blk.cell hb23 3)
      | ((with_reducible refine gate_store (t := 4) (p := 40) rfl ?_); refine store_cell_event rfl rfl rfl rfl hb23 rfl (by kernel_rfl) rfl rfl ?_; intro w4 hb24 hgr4; have hb44 := blk_grown hb43 hgr4 (by simpa using h24); have hb54 := blk_grown hb3 hgr4 (by simpa using h25); have hB4 : Below w.heap.size w w4 := hB3.grown hgr4 hB3.size (by rintro k ⟨⟩; exact hw2))
      | ((with_reducible refine gate_dst (N := 41) rfl ?_); refine wpList_load_row rfl 71 _ rfl g2 rfl 71 _ (0, 0) _ hb24 Tryd.underlying71 rfl (by kernel_rfl) ?_)
      | ((with_reducible refine gate_store (t := 71) (p := 4) rfl ?_); refine store_row_event rfl rfl rfl rfl hb44 (by kernel_rfl) rfl (by kernel_rfl) ?_; intro w5 hb45 hgr5; have hb55 := blk_grown hb54 hgr5 (by simpa using h45); have hB5 : Below w.heap.size w w5 := hB4.grown hgr5 hB4.size (by rintro k ⟨⟩; exact hw4))
      | ((with_reducible refine gate_store (t := 26) (p := 5) rfl ?_); refine store_row_event rfl rfl rfl rfl hb55 (by kernel_rfl) rfl (by kernel_rfl) ?_; intro w6 hb56 hgr6; have hb46 := blk_grown hb45 hgr6 (by simpa using h45.symm); have hB6 : Below w.heap.size w w6 := hB5.grown hgr6 hB5.size (by rintro k ⟨⟩; exact hw5)))
    exact bodyPost_ret (rv_results hb46 rfl hb56 rfl rfl rfl) rfl ⟨rfl, hB6⟩
  | false =>
    by_cases h1 : s.size ≤ n
    · clear hst
      go_enter Tryd.func30, Tryd.ntmps30
      go_wp2_with (first
        | ((with_reducible refine gate_dst (N := 2) rfl ?_); refine box_event rfl (N := 2) rfl (cs := #[.string s, .int .i64 n, .int .i64 p, .bool false]) (t := 71) (by kernel_rfl) ?_; intro g2 hgg2 w1 hb1 hbel1; have hgeg2 : w.heap.size ≤ g2 := Nat.le_of_eq hgg2.symm; clear hgg2)
        | ((with_reducible refine gate_dst (N := 4) rfl ?_); refine box_event rfl (N := 4) rfl (cs := #[.string ⟨#[]⟩, .int .i64 0, .int .i64 0, .bool false]) (t := 71) (by kernel_rfl) ?_; intro g4 hgg4 w2 hb2 hbel2; have hgeg4 : w1.heap.size ≤ g4 := Nat.le_of_eq hgg4.symm; clear hgg4)
        | ((with_reducible refine gate_dst (N := 5) rfl ?_); refine box_event rfl (N := 5) rfl (cs := val0) (t := 26) (by kernel_rfl) ?_; intro g5 hgg5 w3 hb3 hbel3; have hgeg5 : w2.heap.size ≤ g5 := Nat.le_of_eq hgg5.symm; clear hgg5; have hb23 := blk_below (blk_below hb1 hbel2) hbel3; have hb43 := blk_below hb2 hbel3; have hB3 : Below w.heap.size w w3 := below_step (below_step hbel1 hbel2) hbel3; have l2 := blk_lt hb1; have l4 := blk_lt hb2; have h24 : g4 ≠ g2 := (by omega); have h25 : g5 ≠ g2 := (by have := hbel2.size; omega); have h45 : g5 ≠ g4 := (by omega); have hw2 : w.heap.size ≤ g2 := hgeg2; have hw4 : w.heap.size ≤ g4 := (by have := hbel1.size; omega); have hw5 : w.heap.size ≤ g5 := (by have := hbel1.size; have := hbel2.size; omega); have m4 : g4 < w3.heap.size := blk_lt hb43; have m2 : g2 < w3.heap.size := blk_lt hb23; have m5 : g5 < w3.heap.size := blk_lt hb3; clear l2 l4 hbel1 hbel2 hbel3 hgeg2 hgeg4 hgeg5 hb1 hb2; have q0 : w3.cell? ⟨g2, 0, none⟩ = some (.string s) := Blk.cell hb23 0; have q1 : w3.cell? ⟨g2, 1, none⟩ = some (.int .i64 n) := Blk.cell hb23 1; have q2 : w3.cell? ⟨g2, 2, none⟩ = some (.int .i64 p) := Blk.cell hb23 2; have q3 : w3.cell? ⟨g2, 3, none⟩ = some (.bool false) := Blk.cell hb23 3)
        | ((with_reducible refine gate_store (t := 4) (p := 40) rfl ?_); refine store_cell_event rfl rfl rfl rfl hb23 rfl (by kernel_rfl) rfl rfl ?_; intro w4 hb24 hgr4; have hb44 := blk_grown hb43 hgr4 (by simpa using h24); have hb54 := blk_grown hb3 hgr4 (by simpa using h25); have hB4 : Below w.heap.size w w4 := hB3.grown hgr4 hB3.size (by rintro k ⟨⟩; exact hw2))
        | ((with_reducible refine gate_dst (N := 41) rfl ?_); refine wpList_load_row rfl 71 _ rfl g2 rfl 71 _ (0, 0) _ hb24 Tryd.underlying71 rfl (by kernel_rfl) ?_)
        | ((with_reducible refine gate_store (t := 71) (p := 4) rfl ?_); refine store_row_event rfl rfl rfl rfl hb44 (by kernel_rfl) rfl (by kernel_rfl) ?_; intro w5 hb45 hgr5; have hb55 := blk_grown hb54 hgr5 (by simpa using h45); have hB5 : Below w.heap.size w w5 := hB4.grown hgr5 hB4.size (by rintro k ⟨⟩; exact hw4))
        | ((with_reducible refine gate_store (t := 26) (p := 5) rfl ?_); refine store_row_event rfl rfl rfl rfl hb55 (by kernel_rfl) rfl (by kernel_rfl) ?_; intro w6 hb56 hgr6; have hb46 := blk_grown hb45 hgr6 (by simpa using h45.symm); have hB6 : Below w.heap.size w w6 := hB5.grown hgr6 hB5.size (by rintro k ⟨⟩; exact hw5)))
      exact bodyPost_ret (rv_results hb46 rfl hb56 rfl rfl rfl) rfl ⟨rfl, hB6⟩
    · have h2 : 256 ≤ p := by rcases hst with h | h | h; exact absurd h (by simp); exact absurd h h1; exact h
      clear hst
      go_enter Tryd.func30, Tryd.ntmps30
      go_wp2_with (first
        | ((with_reducible refine gate_dst (N := 2) rfl ?_); refine box_event rfl (N := 2) rfl (cs := #[.string s, .int .i64 n, .int .i64 p, .bool false]) (t := 71) (by kernel_rfl) ?_; intro g2 hgg2 w1 hb1 hbel1; have hgeg2 : w.heap.size ≤ g2 := Nat.le_of_eq hgg2.symm; clear hgg2)
        | ((with_reducible refine gate_dst (N := 4) rfl ?_); refine box_event rfl (N := 4) rfl (cs := #[.string ⟨#[]⟩, .int .i64 0, .int .i64 0, .bool false]) (t := 71) (by kernel_rfl) ?_; intro g4 hgg4 w2 hb2 hbel2; have hgeg4 : w1.heap.size ≤ g4 := Nat.le_of_eq hgg4.symm; clear hgg4)
        | ((with_reducible refine gate_dst (N := 5) rfl ?_); refine box_event rfl (N := 5) rfl (cs := val0) (t := 26) (by kernel_rfl) ?_; intro g5 hgg5 w3 hb3 hbel3; have hgeg5 : w2.heap.size ≤ g5 := Nat.le_of_eq hgg5.symm; clear hgg5; have hb23 := blk_below (blk_below hb1 hbel2) hbel3; have hb43 := blk_below hb2 hbel3; have hB3 : Below w.heap.size w w3 := below_step (below_step hbel1 hbel2) hbel3; have l2 := blk_lt hb1; have l4 := blk_lt hb2; have h24 : g4 ≠ g2 := (by omega); have h25 : g5 ≠ g2 := (by have := hbel2.size; omega); have h45 : g5 ≠ g4 := (by omega); have hw2 : w.heap.size ≤ g2 := hgeg2; have hw4 : w.heap.size ≤ g4 := (by have := hbel1.size; omega); have hw5 : w.heap.size ≤ g5 := (by have := hbel1.size; have := hbel2.size; omega); have m4 : g4 < w3.heap.size := blk_lt hb43; have m2 : g2 < w3.heap.size := blk_lt hb23; have m5 : g5 < w3.heap.size := blk_lt hb3; clear l2 l4 hbel1 hbel2 hbel3 hgeg2 hgeg4 hgeg5 hb1 hb2; have q0 : w3.cell? ⟨g2, 0, none⟩ = some (.string s) := Blk.cell hb23 0; have q1 : w3.cell? ⟨g2, 1, none⟩ = some (.int .i64 n) := Blk.cell hb23 1; have q2 : w3.cell? ⟨g2, 2, none⟩ = some (.int .i64 p) := Blk.cell hb23 2; have q3 : w3.cell? ⟨g2, 3, none⟩ = some (.bool false) := Blk.cell hb23 3)
        | ((with_reducible refine gate_store (t := 4) (p := 40) rfl ?_); refine store_cell_event rfl rfl rfl rfl hb23 rfl (by kernel_rfl) rfl rfl ?_; intro w4 hb24 hgr4; have hb44 := blk_grown hb43 hgr4 (by simpa using h24); have hb54 := blk_grown hb3 hgr4 (by simpa using h25); have hB4 : Below w.heap.size w w4 := hB3.grown hgr4 hB3.size (by rintro k ⟨⟩; exact hw2))
        | ((with_reducible refine gate_dst (N := 41) rfl ?_); refine wpList_load_row rfl 71 _ rfl g2 rfl 71 _ (0, 0) _ hb24 Tryd.underlying71 rfl (by kernel_rfl) ?_)
        | ((with_reducible refine gate_store (t := 71) (p := 4) rfl ?_); refine store_row_event rfl rfl rfl rfl hb44 (by kernel_rfl) rfl (by kernel_rfl) ?_; intro w5 hb45 hgr5; have hb55 := blk_grown hb54 hgr5 (by simpa using h45); have hB5 : Below w.heap.size w w5 := hB4.grown hgr5 hB4.size (by rintro k ⟨⟩; exact hw4))
        | ((with_reducible refine gate_store (t := 26) (p := 5) rfl ?_); refine store_row_event rfl rfl rfl rfl hb55 (by kernel_rfl) rfl (by kernel_rfl) ?_; intro w6 hb56 hgr6; have hb46 := blk_grown hb45 hgr6 (by simpa using h45.symm); have hB6 : Below w.heap.size w w6 := hB5.grown hgr6 hB5.size (by rintro k ⟨⟩; exact hw5)))
      exact bodyPost_ret (rv_results hb46 rfl hb56 rfl rfl rfl) rfl ⟨rfl, hB6⟩
end Go.Proofs.YtfnekpgbfdhnmaaDoor

namespace Go.Proofs.YtfnekpgbfdhnmaaDoor
open Go.RowKit Go.Proofs.YtfnekpgbfdhnmaaDoorW.PrintWords Go.Proofs.YtfnekpgbfdhnmaaDoorW.PrintLast Go.Proofs.YtfnekpgbfdhnmaaDoorW.PrintMore Go.Proofs.YtfnekpgbfdhnmaaDoor.PAll
section
variable {P : Program} {ops : Array Oper} {rest : List Oper} {o : Oper} {a : Act} {Q : Exit → Act → World → Prop}
/-- A row is read under a guard that holds. -/
theorem load_row_guarded {W : World} (hw : Region.wanted o (yielded ops a.tmps) = true) {T : TypeId} {x : Operand} (ho : o.op = .load T x) {g : Nat} {cs : Array Value} (hx : a.eval x = .pointer (some ⟨g, 0, none⟩)) (hl : (loadVar T ⟨g, 0, none⟩).run P W = .ok (.agg cs) W)
    (h : wpList P ops Q rest (a.put o.dst (.agg cs)) W) : wpList P ops Q (o :: rest) a W := by
  simp only [wpList, hw, if_true]
  refine .inl ?_
  simp only [Oper.wp, run_load_row ho hx hl, Oper.upon]
  exact h
end
theorem run_negu {o : Oper} {a : Act} {W : World} {x : Operand} {v : Int} (ho : o.op = .unOp .neg 105 x) (hx : a.eval x = .int .u64 v) : (execOp a.eval o).run Tryd.prog W = .ok (.value (.int .u64 (IntKind.u64.wrap (-v)))) W := by
  generalize a.eval = ρ at *
  unfold execOp
  simp [ho, hx, go_sem]
theorem run_convneg {o : Oper} {a : Act} {W : World} {x : Operand} {v : Nat} (ho : o.op = .convert 105 2 x) (hx : a.eval x = .int .u64 (IntKind.u64.wrap (-(v : Int)))) (hv : v ≤ 9223372036854775808) : (execOp a.eval o).run Tryd.prog W = .ok (.value (.int .i64 (-(v : Int)))) W := by
  generalize a.eval = ρ at *
  have hw : IntKind.i64.wrap (IntKind.u64.wrap (-(v : Int))) = -(v : Int) := by
    rw [IntKind.wrap_i64]
    simp only [IntKind.wrap, IntKind.signed, IntKind.bits, Bool.false_and, Bool.false_eq_true, if_false]
    omega
  unfold execOp
  simp [ho, hx, convert, run_underlying Tryd.underlying105, run_underlying Tryd.underlying2, go_sem, hw]
set_option maxRecDepth 100000 in
set_option maxHeartbeats 4000000 in
theorem rv_digit (fuel n p : Nat) (s : ByteArray) (w : World) (c : UInt8) (hn : n < s.size) (hs : s.size ≤ maxLen) (hp : p < 256) (hc : (bl s)[n]? = some c) (h48 : 48 ≤ c.toNat) (h57 : c.toNat ≤ 57) :
    Calls Tryd.prog 30 #[.agg #[.string s, .int .i64 n, .int .i64 p, .bool false], .int .i64 0] w (RVPost w s (valueF (fuel + 1) (bl s) 0 n p)) := by
  have hdig := digit_some hc h48 h57
  obtain ⟨X, hX⟩ : ∃ X, valueF (fuel + 1) (bl s) 0 n p = X := ⟨_, rfl⟩
  have hgd : (bl s).getD n 0 = c := by rw [List.getD_eq_getElem?_getD, hc]; rfl
  rw [hX]
  rw [valueF, if_neg (by rw [bl_length]; omega), hgd, if_pos ⟨rfl, h48, h57⟩] at hX
  cases hN : numF 9223372036854775807 (bl s) n with
  | ok x =>
    obtain ⟨v, a⟩ := x
    rw [hN] at hX
    have hv63 := numF_most hN
    have hnum := fun w => rnumber_ok 9223372036854775807 (by omega) (by omega) s hs ((p : Int) + 1) n (by omega) 0 (by omega) (fun h => by cases h) hN 9223372036854775807 0 rfl rfl w
    replace hX := hX.symm
    clear hN hc hgd h48 h57
    generalize ((c.toNat - 48 : Nat) : Int) = D at hdig
    go_enter Tryd.func30, Tryd.ntmps30
    go_wp2_with (first
      | ((with_reducible refine gate_dst (N := 2) rfl ?_); refine box_event rfl (N := 2) rfl (cs := #[.string s, .int .i64 n, .int .i64 p, .bool false]) (t := 71) (by kernel_rfl) ?_; intro g2 hgg2 w1 hb1 hbel1; have hgeg2 : w.heap.size ≤ g2 := Nat.le_of_eq hgg2.symm; clear hgg2)
      | ((with_reducible refine gate_dst (N := 4) rfl ?_); refine box_event rfl (N := 4) rfl (cs := #[.string ⟨#[]⟩, .int .i64 0, .int .i64 0, .bool false]) (t := 71) (by kernel_rfl) ?_; intro g4 hgg4 w2 hb2 hbel2; have hgeg4 : w1.heap.size ≤ g4 := Nat.le_of_eq hgg4.symm; clear hgg4)
      | ((with_reducible refine gate_dst (N := 5) rfl ?_); refine box_event rfl (N := 5) rfl (cs := val0) (t := 26) (by kernel_rfl) ?_; intro g5 hgg5 w3 hb3 hbel3; have hgeg5 : w2.heap.size ≤ g5 := Nat.le_of_eq hgg5.symm; clear hgg5; have hb23 := blk_below (blk_below hb1 hbel2) hbel3; have hb43 := blk_below hb2 hbel3; have hB3 : Below w.heap.size w w3 := below_step (below_step hbel1 hbel2) hbel3; have l2 := blk_lt hb1; have l4 := blk_lt hb2; have h24 : g4 ≠ g2 := (by omega); have h25 : g5 ≠ g2 := (by have := hbel2.size; omega); have h45 : g5 ≠ g4 := (by omega); have hw2 : w.heap.size ≤ g2 := hgeg2; have hw4 : w.heap.size ≤ g4 := (by have := hbel1.size; omega); have hw5 : w.heap.size ≤ g5 := (by have := hbel1.size; have := hbel2.size; omega); have m4 : g4 < w3.heap.size := blk_lt hb43; have m2 : g2 < w3.heap.size := blk_lt hb23; have m5 : g5 < w3.heap.size := blk_lt hb3; clear l2 l4 hbel1 hbel2 hbel3 hgeg2 hgeg4 hgeg5 hb1 hb2; have q0 : w3.cell? ⟨g2, 0, none⟩ = some (.string s) := Blk.cell hb23 0; have q1 : w3.cell? ⟨g2, 1, none⟩ = some (.int .i64 n) := Blk.cell hb23 1; have q2 : w3.cell? ⟨g2, 2, none⟩ = some (.int .i64 p) := Blk.cell hb23 2; have q3 : w3.cell? ⟨g2, 3, none⟩ = some (.bool false) := Blk.cell hb23 3)
      | ((with_reducible refine gate_store (t := 3) (p := 46) rfl ?_); refine store_cell_event rfl rfl rfl rfl hb23 rfl (by kernel_rfl) rfl rfl ?_; intro w4 hb24 hgr4; have hb44 := blk_grown hb43 hgr4 (by simpa using h24); have hb54 := blk_grown hb3 hgr4 (by simpa using h25); have hB4 : Below w.heap.size w w4 := hB3.grown hgr4 hB3.size (by rintro k ⟨⟩; exact hw2); clear q0 q1 q2 q3 hb23 hb43 hb3 hB3)
      | ((with_reducible refine gate_dst (N := 48) rfl ?_); refine wpList_load_row rfl 71 _ rfl g2 rfl 71 _ (0, 0) _ hb24 Tryd.underlying71 rfl (by kernel_rfl) ?_)
      | (go_at_call 55; (with_reducible refine (rdigit_calls s n ((p : Int) + 1) false hdig _).mono ?_); rintro e w5 ⟨rfl, hbel5⟩; have hb25 := blk_below hb24 hbel5; have hb45 := blk_below hb44 hbel5; have hb55 := blk_below hb54 hbel5; have hB5 : Below w.heap.size w w5 := below_step hB4 hbel5; clear hb24 hb44 hb54)
      | ((with_reducible refine gate_dst (N := 63) rfl ?_); refine wpList_load_row rfl 71 _ rfl g2 rfl 71 _ (0, 0) _ hb25 Tryd.underlying71 rfl (by kernel_rfl) ?_)
      | (go_at_call 57; (with_reducible refine (hnum _).mono ?_); rintro e w8 ⟨rfl, hbel8⟩; have hb28 := blk_below hb25 hbel8; have hb48 := blk_below hb45 hbel8; have hb58 := blk_below hb55 hbel8; have hB8 : Below w.heap.size w w8 := below_step hB5 hbel8; have m4 := blk_lt hb48; have m5 := blk_lt hb58; clear hb25 hb45 hb55)
      | ((with_reducible refine gate_dst (N := 8) rfl ?_); refine box_event rfl (N := 8) rfl (cs := #[.string ⟨#[]⟩, .int .i64 0, .int .i64 0, .bool false]) (t := 71) (by kernel_rfl) ?_; intro g8 hgg8 w9 hb89 hbel9; have hgeg8 : w8.heap.size ≤ g8 := Nat.le_of_eq hgg8.symm; clear hgg8; have hb49 := blk_below hb48 hbel9; have hb59 := blk_below hb58 hbel9; have hB9 : Below w.heap.size w w9 := below_step hB8 hbel9; have n4 : g4 ≠ g8 := (by omega); have n5 : g5 ≠ g8 := (by omega); have hw8 : w.heap.size ≤ g8 := (by have := hB8.size; omega); clear hgeg8 hb48 hb58)
      | ((with_reducible refine gate_store (t := 71) (p := 8) rfl ?_); refine store_row_event rfl rfl rfl rfl hb89 (by kernel_rfl) rfl (by kernel_rfl) ?_; intro wa hb8a hgra; have hb4a := blk_grown hb49 hgra (by simpa using n4); have hb5a := blk_grown hb59 hgra (by simpa using n5); have hBa : Below w.heap.size w wa := hB9.grown hgra hB9.size (by rintro k ⟨⟩; exact hw8); clear hb49 hb59 hb89 hB9 hB8 hbel9 hbel8))
    refine draw_beginN (fun W' => Blk W' g8 71 #[.string s, .int .i64 a, .int .i64 ((p : Int) + 1), .bool false]) (fun _ => false) (by kernel_rfl) (n := 6) rfl rfl ?_
    intro W0 _hWh hWg
    clear _hWh
    have HS : Blk W0 g8 71 #[.string s, .int .i64 a, .int .i64 ((p : Int) + 1), .bool false] := blk_grown hb8a hWg (by simp)
    have hb4W := blk_grown hb4a hWg (by simp)
    have hb5W := blk_grown hb5a hWg (by simp)
    have hBW : Below w.heap.size w W0 := hBa.grown hWg hBa.size (by rintro k ⟨⟩)
    refine draw_take (i := 0) (l2 := #[true, false, false, false, false, false]) (v := .agg #[.string s, .int .i64 a, .int .i64 ((p : Int) + 1), .bool false]) rfl (by kernel_rfl) (by kernel_rfl) (by kernel_rfl) (by kernel_rfl) (by kernel_rfl) (fun _ _ _ h => h) (.inl ⟨by kernel_rfl, fun W' hS => ?_⟩) HS ?_
    · exact run_load_row rfl (by kernel_rfl) (run_loadVar_row (P := Tryd.prog) W' g8 71 71 #[.string s, .int .i64 a, .int .i64 ((p : Int) + 1), .bool false] (0, 0) _ hS Tryd.underlying71 rfl (by kernel_rfl))
    refine draw_take (i := 1) (l2 := #[true, true, false, false, false, false]) (v := .int .u64 v) rfl (by kernel_rfl) (by kernel_rfl) (by kernel_rfl) (by kernel_rfl) (by kernel_rfl) (fun _ _ _ h => h) (.inl ⟨by kernel_rfl, fun W' hS => ?_⟩) HS ?_
    · kernel_rfl
    refine draw_take (i := 2) (l2 := #[true, true, true, false, false, false]) (v := .int .i64 v) rfl (by kernel_rfl) (by kernel_rfl) (by kernel_rfl) (by kernel_rfl) (by kernel_rfl) (fun _ _ _ h => h) (.inl ⟨by kernel_rfl, fun W' hS => ?_⟩) HS ?_
    · exact run_conv rfl (by kernel_rfl) (by omega) (by omega)
    refine draw_call (i := 3) (l2 := #[true, true, true, true, false, false]) ?h1_r ?h1_l (show _ from rfl) ?h1_w ?h1_run (rint_calls v _) ?h1_k ?h1_p ?h1_o
    case h1_r => kernel_rfl
    case h1_l => kernel_rfl
    case h1_w => kernel_rfl
    case h1_run => kernel_rfl
    case h1_o => exact (fun W1 h => by cases h.1)
    case h1_p => exact (fun c W1 h => by cases h.1)
    intro v1 W1 h
    obtain ⟨h1, hB01⟩ := h
    injection h1 with h1
    subst h1
    have HS1 := blk_below2 hB01 HS
    have hb4b := blk_below2 hB01 hb4W
    have hb5b := blk_below2 hB01 hb5W
    have hBb : Below w.heap.size w W1 := below_step hBW hB01
    refine ⟨HS1, ?_⟩
    refine draw_store_row (i := 4) (l2 := #[true, true, true, true, true, false]) (cells := #[.string s, .int .i64 a, .int .i64 ((p : Int) + 1), .bool false]) (by kernel_rfl) (by kernel_rfl) rfl (by kernel_rfl) rfl (by kernel_rfl) hb4b (by kernel_rfl) rfl (by kernel_rfl) rfl ?_
    intro W2 hb4c hgr1
    have HS2 := blk_grown HS1 hgr1 (by simpa using n4.symm)
    have hb5c := blk_grown hb5b hgr1 (by simpa using h45)
    have hBc : Below w.heap.size w W2 := hBb.grown hgr1 hBb.size (by rintro k ⟨⟩; exact hw4)
    refine ⟨HS2, ?_⟩
    refine draw_store_row (i := 5) (l2 := #[true, true, true, true, true, true]) (cells := #[.int .i64 2, .int .i64 v, .slice none 0 0]) (by kernel_rfl) (by kernel_rfl) rfl (by kernel_rfl) rfl (by kernel_rfl) hb5c (by kernel_rfl) rfl (by kernel_rfl) rfl ?_
    intro W3 hb5d hgr2
    have HS3 := blk_grown HS2 hgr2 (by simpa using n5.symm)
    have hb4d := blk_grown hb4c hgr2 (by simpa using h45.symm)
    have hBd : Below w.heap.size w W3 := hBc.grown hgr2 hBc.size (by rintro k ⟨⟩; exact hw5)
    refine ⟨HS3, ?_⟩
    refine draw_doneN (by kernel_rfl) ?_
    clear HS HS1 HS2 HS3 hb4b hb5b hb5c hb4c hb4W hb5W hb8a hb4a hb5a
    go_simp
    go_wp2_with fail
    exact bodyPost_ret (rv_results hb4d rfl hb5d rfl rfl rfl) rfl ⟨⟨2, v, []⟩, a, p + 1, false, .slice none 0 0, rfl, Kd.R_nil _ _ _ _ _, hBd, by rw [hX]; exact ⟨rfl, rfl, rfl, rfl⟩⟩
  | error e0 =>
    rw [hN] at hX
    have hnum := fun w => rnumber_err 9223372036854775807 (by omega) (by omega) s hs ((p : Int) + 1) n (by omega) 0 (by omega) (fun h => by cases h) hN 9223372036854775807 0 rfl rfl w
    replace hX := hX.symm
    clear hN hc hgd h48 h57
    generalize ((c.toNat - 48 : Nat) : Int) = D at hdig
    go_enter Tryd.func30, Tryd.ntmps30
    go_wp2_with (first
      | ((with_reducible refine gate_dst (N := 2) rfl ?_); refine box_event rfl (N := 2) rfl (cs := #[.string s, .int .i64 n, .int .i64 p, .bool false]) (t := 71) (by kernel_rfl) ?_; intro g2 hgg2 w1 hb1 hbel1; have hgeg2 : w.heap.size ≤ g2 := Nat.le_of_eq hgg2.symm; clear hgg2)
      | ((with_reducible refine gate_dst (N := 4) rfl ?_); refine box_event rfl (N := 4) rfl (cs := #[.string ⟨#[]⟩, .int .i64 0, .int .i64 0, .bool false]) (t := 71) (by kernel_rfl) ?_; intro g4 hgg4 w2 hb2 hbel2; have hgeg4 : w1.heap.size ≤ g4 := Nat.le_of_eq hgg4.symm; clear hgg4)
      | ((with_reducible refine gate_dst (N := 5) rfl ?_); refine box_event rfl (N := 5) rfl (cs := val0) (t := 26) (by kernel_rfl) ?_; intro g5 hgg5 w3 hb3 hbel3; have hgeg5 : w2.heap.size ≤ g5 := Nat.le_of_eq hgg5.symm; clear hgg5; have hb23 := blk_below (blk_below hb1 hbel2) hbel3; have hb43 := blk_below hb2 hbel3; have hB3 : Below w.heap.size w w3 := below_step (below_step hbel1 hbel2) hbel3; have l2 := blk_lt hb1; have l4 := blk_lt hb2; have h24 : g4 ≠ g2 := (by omega); have h25 : g5 ≠ g2 := (by have := hbel2.size; omega); have h45 : g5 ≠ g4 := (by omega); have hw2 : w.heap.size ≤ g2 := hgeg2; have hw4 : w.heap.size ≤ g4 := (by have := hbel1.size; omega); have hw5 : w.heap.size ≤ g5 := (by have := hbel1.size; have := hbel2.size; omega); have m4 : g4 < w3.heap.size := blk_lt hb43; have m2 : g2 < w3.heap.size := blk_lt hb23; have m5 : g5 < w3.heap.size := blk_lt hb3; clear l2 l4 hbel1 hbel2 hbel3 hgeg2 hgeg4 hgeg5 hb1 hb2; have q0 : w3.cell? ⟨g2, 0, none⟩ = some (.string s) := Blk.cell hb23 0; have q1 : w3.cell? ⟨g2, 1, none⟩ = some (.int .i64 n) := Blk.cell hb23 1; have q2 : w3.cell? ⟨g2, 2, none⟩ = some (.int .i64 p) := Blk.cell hb23 2; have q3 : w3.cell? ⟨g2, 3, none⟩ = some (.bool false) := Blk.cell hb23 3)
      | ((with_reducible refine gate_store (t := 3) (p := 46) rfl ?_); refine store_cell_event rfl rfl rfl rfl hb23 rfl (by kernel_rfl) rfl rfl ?_; intro w4 hb24 hgr4; have hb44 := blk_grown hb43 hgr4 (by simpa using h24); have hb54 := blk_grown hb3 hgr4 (by simpa using h25); have hB4 : Below w.heap.size w w4 := hB3.grown hgr4 hB3.size (by rintro k ⟨⟩; exact hw2); clear q0 q1 q2 q3 hb23 hb43 hb3 hB3)
      | ((with_reducible refine gate_dst (N := 48) rfl ?_); refine wpList_load_row rfl 71 _ rfl g2 rfl 71 _ (0, 0) _ hb24 Tryd.underlying71 rfl (by kernel_rfl) ?_)
      | (go_at_call 55; (with_reducible refine (rdigit_calls s n ((p : Int) + 1) false hdig _).mono ?_); rintro e w5 ⟨rfl, hbel5⟩; have hb25 := blk_below hb24 hbel5; have hb45 := blk_below hb44 hbel5; have hb55 := blk_below hb54 hbel5; have hB5 : Below w.heap.size w w5 := below_step hB4 hbel5; clear hb24 hb44 hb54)
      | ((with_reducible refine gate_dst (N := 63) rfl ?_); refine wpList_load_row rfl 71 _ rfl g2 rfl 71 _ (0, 0) _ hb25 Tryd.underlying71 rfl (by kernel_rfl) ?_)
      | (go_at_call 57; (with_reducible refine (hnum _).mono ?_); rintro e w8 ⟨rfl, hbel8⟩; have hb28 := blk_below hb25 hbel8; have hb48 := blk_below hb45 hbel8; have hb58 := blk_below hb55 hbel8; have hB8 : Below w.heap.size w w8 := below_step hB5 hbel8; have m4 := blk_lt hb48; have m5 := blk_lt hb58; clear hb25 hb45 hb55)
      | ((with_reducible refine gate_dst (N := 8) rfl ?_); refine box_event rfl (N := 8) rfl (cs := #[.string ⟨#[]⟩, .int .i64 0, .int .i64 0, .bool false]) (t := 71) (by kernel_rfl) ?_; intro g8 hgg8 w9 hb89 hbel9; have hgeg8 : w8.heap.size ≤ g8 := Nat.le_of_eq hgg8.symm; clear hgg8; have hb49 := blk_below hb48 hbel9; have hb59 := blk_below hb58 hbel9; have hB9 : Below w.heap.size w w9 := below_step hB8 hbel9; have n4 : g4 ≠ g8 := (by omega); have n5 : g5 ≠ g8 := (by omega); have hw8 : w.heap.size ≤ g8 := (by have := hB8.size; omega); clear hgeg8 hb48 hb58)
      | ((with_reducible refine gate_store (t := 71) (p := 8) rfl ?_); refine store_row_event rfl rfl rfl rfl hb89 (by kernel_rfl) rfl (by kernel_rfl) ?_; intro wa hb8a hgra; have hb4a := blk_grown hb49 hgra (by simpa using n4); have hb5a := blk_grown hb59 hgra (by simpa using n5); have hBa : Below w.heap.size w wa := hB9.grown hgra hB9.size (by rintro k ⟨⟩; exact hw8); clear hb49 hb59 hb89 hB9 hB8 hbel9 hbel8))
    refine draw_beginN (fun W' => Blk W' g8 71 #[.string s, .int .i64 e0, .int .i64 ((p : Int) + 1), .bool true]) (fun _ => false) (by kernel_rfl) (n := 6) rfl rfl ?_
    intro W0 _hWh hWg
    clear _hWh
    have HS : Blk W0 g8 71 #[.string s, .int .i64 e0, .int .i64 ((p : Int) + 1), .bool true] := blk_grown hb8a hWg (by simp)
    have hb4W := blk_grown hb4a hWg (by simp)
    have hb5W := blk_grown hb5a hWg (by simp)
    have hBW : Below w.heap.size w W0 := hBa.grown hWg hBa.size (by rintro k ⟨⟩)
    refine draw_take (i := 0) (l2 := #[true, false, false, false, false, false]) (v := .agg #[.string s, .int .i64 e0, .int .i64 ((p : Int) + 1), .bool true]) rfl (by kernel_rfl) (by kernel_rfl) (by kernel_rfl) (by kernel_rfl) (by kernel_rfl) (fun _ _ _ h => h) (.inl ⟨by kernel_rfl, fun W' hS => ?_⟩) HS ?_
    · exact run_load_row rfl (by kernel_rfl) (run_loadVar_row (P := Tryd.prog) W' g8 71 71 #[.string s, .int .i64 e0, .int .i64 ((p : Int) + 1), .bool true] (0, 0) _ hS Tryd.underlying71 rfl (by kernel_rfl))
    refine draw_take (i := 1) (l2 := #[true, true, false, false, false, false]) (v := .int .u64 0) rfl (by kernel_rfl) (by kernel_rfl) (by kernel_rfl) (by kernel_rfl) (by kernel_rfl) (fun _ _ _ h => h) (.inl ⟨by kernel_rfl, fun W' hS => ?_⟩) HS ?_
    · kernel_rfl
    refine draw_take (i := 2) (l2 := #[true, true, true, false, false, false]) (v := .int .i64 0) rfl (by kernel_rfl) (by kernel_rfl) (by kernel_rfl) (by kernel_rfl) (by kernel_rfl) (fun _ _ _ h => h) (.inl ⟨by kernel_rfl, fun W' hS => ?_⟩) HS ?_
    · kernel_rfl
    refine draw_call (i := 3) (l2 := #[true, true, true, true, false, false]) ?h2_r ?h2_l (show _ from rfl) ?h2_w ?h2_run (rint_calls 0 _) ?h2_k ?h2_p ?h2_o
    case h2_r => kernel_rfl
    case h2_l => kernel_rfl
    case h2_w => kernel_rfl
    case h2_run => kernel_rfl
    case h2_o => exact (fun W1 h => by cases h.1)
    case h2_p => exact (fun c W1 h => by cases h.1)
    intro v1 W1 h
    obtain ⟨h1, hB01⟩ := h
    injection h1 with h1
    subst h1
    have HS1 := blk_below2 hB01 HS
    have hb4b := blk_below2 hB01 hb4W
    have hb5b := blk_below2 hB01 hb5W
    have hBb : Below w.heap.size w W1 := below_step hBW hB01
    refine ⟨HS1, ?_⟩
    refine draw_store_row (i := 4) (l2 := #[true, true, true, true, true, false]) (cells := #[.string s, .int .i64 e0, .int .i64 ((p : Int) + 1), .bool true]) (by kernel_rfl) (by kernel_rfl) rfl (by kernel_rfl) rfl (by kernel_rfl) hb4b (by kernel_rfl) rfl (by kernel_rfl) rfl ?_
    intro W2 hb4c hgr1
    have HS2 := blk_grown HS1 hgr1 (by simpa using n4.symm)
    have hb5c := blk_grown hb5b hgr1 (by simpa using h45)
    have hBc : Below w.heap.size w W2 := hBb.grown hgr1 hBb.size (by rintro k ⟨⟩; exact hw4)
    refine ⟨HS2, ?_⟩
    refine draw_store_row (i := 5) (l2 := #[true, true, true, true, true, true]) (cells := #[.int .i64 2, .int .i64 0, .slice none 0 0]) (by kernel_rfl) (by kernel_rfl) rfl (by kernel_rfl) rfl (by kernel_rfl) hb5c (by kernel_rfl) rfl (by kernel_rfl) rfl ?_
    intro W3 hb5d hgr2
    have HS3 := blk_grown HS2 hgr2 (by simpa using n5.symm)
    have hb4d := blk_grown hb4c hgr2 (by simpa using h45.symm)
    have hBd : Below w.heap.size w W3 := hBc.grown hgr2 hBc.size (by rintro k ⟨⟩; exact hw5)
    refine ⟨HS3, ?_⟩
    refine draw_doneN (by kernel_rfl) ?_
    clear HS HS1 HS2 HS3 hb4b hb5b hb5c hb4c hb4W hb5W hb8a hb4a hb5a
    go_simp
    go_wp2_with fail
    exact bodyPost_ret (rv_results hb4d rfl hb5d rfl rfl rfl) rfl ⟨⟨2, 0, []⟩, e0, p + 1, true, .slice none 0 0, rfl, Kd.R_nil _ _ _ _ _, hBd, by rw [hX]; exact ⟨rfl, rfl⟩⟩
set_option maxRecDepth 100000 in
set_option maxHeartbeats 4000000 in
theorem rv_minus (fuel n p : Nat) (s : ByteArray) (w : World) (hn : n < s.size) (hs : s.size ≤ maxLen) (hp : p < 256) (hc45 : (bl s)[n]? = some 45) :
    Calls Tryd.prog 30 #[.agg #[.string s, .int .i64 n, .int .i64 p, .bool false], .int .i64 0] w (RVPost w s (valueF (fuel + 1) (bl s) 0 n p)) := by
  have hdig : digitAt (bl s) n = (0, false) := digit_other hc45 (by decide)
  have hmin : decide ((bl s)[n]? = some 45) = true := decide_eq_true hc45
  obtain ⟨X, hX⟩ : ∃ X, valueF (fuel + 1) (bl s) 0 n p = X := ⟨_, rfl⟩
  have hgd : (bl s).getD n 0 = 45 := by rw [List.getD_eq_getElem?_getD, hc45]; rfl
  rw [hX]
  rw [valueF, if_neg (by rw [bl_length]; omega), hgd, if_neg (by decide), if_pos ⟨rfl, rfl⟩] at hX
  clear hgd
  have hsg := fun w => rsign_yes s hs n ((p : Int) + 1) 45 45 rfl hc45 w
  by_cases h48 : (bl s)[n + 1]? = some 48
  · rw [if_pos h48] at hX
    have hnum : ∀ w, Calls Tryd.prog 57 #[.agg #[.string s, .int .i64 ((n : Int) + 1), .int .i64 ((p : Int) + 1), .bool false], .int .u64 9223372036854775808, .int .u64 1] w fun e w' => e = .returned (.tuple #[.agg #[.string s, .int .i64 ((n : Int) + 1), .int .i64 ((p : Int) + 1), .bool true], .int .u64 0]) ∧ Below w.heap.size w w' := fun w => rnumber_nil 9223372036854775808 s ((p : Int) + 1) (n + 1) h48 9223372036854775808 rfl w
    replace hX := hX.symm
    have Hmin := Lib.hid hmin
    have Hdig := Lib.hid hdig
    have Hsg := Lib.hid hsg
    have Hnum := Lib.hid hnum
    have HX := Lib.hid hX
    clear h48 hc45 hmin hdig hsg hnum hX
    go_enter Tryd.func30, Tryd.ntmps30
    go_wp2_with (first
      | ((with_reducible refine gate_dst (N := 2) rfl ?_); refine box_event rfl (N := 2) rfl (cs := #[.string s, .int .i64 n, .int .i64 p, .bool false]) (t := 71) (by kernel_rfl) ?_; intro g2 hgg2 w1 hb1 hbel1; have hgeg2 : w.heap.size ≤ g2 := Nat.le_of_eq hgg2.symm; clear hgg2)
      | ((with_reducible refine gate_dst (N := 4) rfl ?_); refine box_event rfl (N := 4) rfl (cs := #[.string ⟨#[]⟩, .int .i64 0, .int .i64 0, .bool false]) (t := 71) (by kernel_rfl) ?_; intro g4 hgg4 w2 hb2 hbel2; have hgeg4 : w1.heap.size ≤ g4 := Nat.le_of_eq hgg4.symm; clear hgg4)
      | ((with_reducible refine gate_dst (N := 5) rfl ?_); refine box_event rfl (N := 5) rfl (cs := val0) (t := 26) (by kernel_rfl) ?_; intro g5 hgg5 w3 hb3 hbel3; have hgeg5 : w2.heap.size ≤ g5 := Nat.le_of_eq hgg5.symm; clear hgg5; have hb23 := blk_below (blk_below hb1 hbel2) hbel3; have hb43 := blk_below hb2 hbel3; have hB3 : Below w.heap.size w w3 := below_step (below_step hbel1 hbel2) hbel3; have l2 := blk_lt hb1; have l4 := blk_lt hb2; have h24 : g4 ≠ g2 := (by omega); have h25 : g5 ≠ g2 := (by have := hbel2.size; omega); have h45 : g5 ≠ g4 := (by omega); have hw2 : w.heap.size ≤ g2 := hgeg2; have hw4 : w.heap.size ≤ g4 := (by have := hbel1.size; omega); have hw5 : w.heap.size ≤ g5 := (by have := hbel1.size; have := hbel2.size; omega); have m4 : g4 < w3.heap.size := blk_lt hb43; have m2 : g2 < w3.heap.size := blk_lt hb23; have m5 : g5 < w3.heap.size := blk_lt hb3; clear l2 l4 hbel1 hbel2 hbel3 hgeg2 hgeg4 hgeg5 hb1 hb2; have q0 : w3.cell? ⟨g2, 0, none⟩ = some (.string s) := Blk.cell hb23 0; have q1 : w3.cell? ⟨g2, 1, none⟩ = some (.int .i64 n) := Blk.cell hb23 1; have q2 : w3.cell? ⟨g2, 2, none⟩ = some (.int .i64 p) := Blk.cell hb23 2; have q3 : w3.cell? ⟨g2, 3, none⟩ = some (.bool false) := Blk.cell hb23 3)
      | ((with_reducible refine gate_store (t := 3) (p := 46) rfl ?_); refine store_cell_event rfl rfl rfl rfl hb23 rfl (by kernel_rfl) rfl rfl ?_; intro w4 hb24 hgr4; have hb44 := blk_grown hb43 hgr4 (by simpa using h24); have hb54 := blk_grown hb3 hgr4 (by simpa using h25); have hB4 : Below w.heap.size w w4 := hB3.grown hgr4 hB3.size (by rintro k ⟨⟩; exact hw2); clear q0 q1 q2 q3 hb23 hb43 hb3 hB3)
      | ((with_reducible refine gate_dst (N := 48) rfl ?_); refine wpList_load_row rfl 71 _ rfl g2 rfl 71 _ (0, 0) _ hb24 Tryd.underlying71 rfl (by kernel_rfl) ?_)
      | (go_at_call 55; (with_reducible refine (rdigit_calls s n ((p : Int) + 1) false Hdig.out _).mono ?_); rintro e w5 ⟨rfl, hbel5⟩; have hb25 := blk_below hb24 hbel5; have hb45 := blk_below hb44 hbel5; have hb55 := blk_below hb54 hbel5; have hB5 : Below w.heap.size w w5 := below_step hB4 hbel5; clear hb24 hb44 hb54)
      | ((with_reducible refine gate_dst (N := 57) rfl ?_); refine load_row_guarded (by kernel_rfl) rfl rfl (run_loadVar_row (P := Tryd.prog) w5 g2 71 71 _ (0, 0) _ hb25 Tryd.underlying71 rfl (by kernel_rfl)) ?_)
      | (go_at_call 56; (with_reducible refine (ris_calls s n ((p : Int) + 1) false 45 45 rfl Hmin.out _).mono ?_); rintro e w6 ⟨rfl, hbel6⟩; have hb26 := blk_below hb25 hbel6; have hb46 := blk_below hb45 hbel6; have hb56 := blk_below hb55 hbel6; have hB6 : Below w.heap.size w w6 := below_step hB5 hbel6; clear hb25 hb45 hb55)
      | ((with_reducible refine gate_dst (N := 72) rfl ?_); refine wpList_load_row rfl 71 _ rfl g2 rfl 71 _ (0, 0) _ hb26 Tryd.underlying71 rfl (by kernel_rfl) ?_)
      | (go_at_call 58; (with_reducible refine (Hsg.out _).mono ?_); rintro e w7 ⟨rfl, hbel7⟩; have hb27 := blk_below hb26 hbel7; have hb47 := blk_below hb46 hbel7; have hb57 := blk_below hb56 hbel7; have hB7 : Below w.heap.size w w7 := below_step hB6 hbel7; clear hb26 hb46 hb56)
      | (go_at_call 57; (with_reducible refine (Hnum.out _).mono ?_); rintro e w8 ⟨rfl, hbel8⟩; have hb28 := blk_below hb27 hbel8; have hb48 := blk_below hb47 hbel8; have hb58 := blk_below hb57 hbel8; have hB8 : Below w.heap.size w w8 := below_step hB7 hbel8; have m4 := blk_lt hb48; have m5 := blk_lt hb58; clear hb27 hb47 hb57)
      | ((with_reducible refine gate_dst (N := 10) rfl ?_); refine box_event rfl (N := 10) rfl (cs := #[.string ⟨#[]⟩, .int .i64 0, .int .i64 0, .bool false]) (t := 71) (by kernel_rfl) ?_; intro g8 hgg8 w9 hb89 hbel9; have hgeg8 : w8.heap.size ≤ g8 := Nat.le_of_eq hgg8.symm; clear hgg8; have hb49 := blk_below hb48 hbel9; have hb59 := blk_below hb58 hbel9; have hB9 : Below w.heap.size w w9 := below_step hB8 hbel9; have n4 : g4 ≠ g8 := (by omega); have n5 : g5 ≠ g8 := (by omega); have hw8 : w.heap.size ≤ g8 := (by have := hB8.size; omega); clear hgeg8 hb48 hb58)
      | ((with_reducible refine gate_store (t := 71) (p := 10) rfl ?_); refine store_row_event rfl rfl rfl rfl hb89 (by kernel_rfl) rfl (by kernel_rfl) ?_; intro wa hb8a hgra; have hb4a := blk_grown hb49 hgra (by simpa using n4); have hb5a := blk_grown hb59 hgra (by simpa using n5); have hBa : Below w.heap.size w wa := hB9.grown hgra hB9.size (by rintro k ⟨⟩; exact hw8); clear hb49 hb59 hb89 hB9 hB8 hbel9 hbel8))
    refine draw_beginN (fun W' => Blk W' g8 71 #[.string s, .int .i64 ((n : Int) + 1), .int .i64 ((p : Int) + 1), .bool true]) (fun _ => false) (by kernel_rfl) (n := 7) rfl rfl ?_
    intro W0 _hWh hWg
    clear _hWh
    have HS : Blk W0 g8 71 #[.string s, .int .i64 ((n : Int) + 1), .int .i64 ((p : Int) + 1), .bool true] := blk_grown hb8a hWg (by simp)
    have hb4W := blk_grown hb4a hWg (by simp)
    have hb5W := blk_grown hb5a hWg (by simp)
    have hBW : Below w.heap.size w W0 := hBa.grown hWg hBa.size (by rintro k ⟨⟩)
    refine draw_take (i := 0) (l2 := #[true, false, false, false, false, false, false]) (v := .agg #[.string s, .int .i64 ((n : Int) + 1), .int .i64 ((p : Int) + 1), .bool true]) rfl (by kernel_rfl) (by kernel_rfl) (by kernel_rfl) (by kernel_rfl) (by kernel_rfl) (fun _ _ _ h => h) (.inl ⟨by kernel_rfl, fun W' hS => ?_⟩) HS ?_
    · exact run_load_row rfl (by kernel_rfl) (run_loadVar_row (P := Tryd.prog) W' g8 71 71 #[.string s, .int .i64 ((n : Int) + 1), .int .i64 ((p : Int) + 1), .bool true] (0, 0) _ hS Tryd.underlying71 rfl (by kernel_rfl))
    refine draw_take (i := 1) (l2 := #[true, true, false, false, false, false, false]) (v := .int .u64 0) rfl (by kernel_rfl) (by kernel_rfl) (by kernel_rfl) (by kernel_rfl) (by kernel_rfl) (fun _ _ _ h => h) (.inl ⟨by kernel_rfl, fun W' hS => ?_⟩) HS ?_
    · kernel_rfl
    refine draw_take (i := 2) (l2 := #[true, true, true, false, false, false, false]) (v := .int .u64 0) rfl (by kernel_rfl) (by kernel_rfl) (by kernel_rfl) (by kernel_rfl) (by kernel_rfl) (fun _ _ _ h => h) (.inl ⟨by kernel_rfl, fun W' hS => ?_⟩) HS ?_
    · kernel_rfl
    refine draw_take (i := 3) (l2 := #[true, true, true, true, false, false, false]) (v := .int .i64 0) rfl (by kernel_rfl) (by kernel_rfl) (by kernel_rfl) (by kernel_rfl) (by kernel_rfl) (fun _ _ _ h => h) (.inl ⟨by kernel_rfl, fun W' hS => ?_⟩) HS ?_
    · kernel_rfl
    refine draw_call (i := 4) (l2 := #[true, true, true, true, true, false, false]) ?h3_r ?h3_l (show _ from rfl) ?h3_w ?h3_run (rint_calls 0 _) ?h3_k ?h3_p ?h3_o
    case h3_r => kernel_rfl
    case h3_l => kernel_rfl
    case h3_w => kernel_rfl
    case h3_run => kernel_rfl
    case h3_o => exact (fun W1 h => by cases h.1)
    case h3_p => exact (fun c W1 h => by cases h.1)
    intro v1 W1 h
    obtain ⟨h1, hB01⟩ := h
    injection h1 with h1
    subst h1
    have HS1 := blk_below2 hB01 HS
    have hb4b := blk_below2 hB01 hb4W
    have hb5b := blk_below2 hB01 hb5W
    have hBb : Below w.heap.size w W1 := below_step hBW hB01
    refine ⟨HS1, ?_⟩
    refine draw_store_row (i := 5) (l2 := #[true, true, true, true, true, true, false]) (cells := #[.string s, .int .i64 ((n : Int) + 1), .int .i64 ((p : Int) + 1), .bool true]) (by kernel_rfl) (by kernel_rfl) rfl (by kernel_rfl) rfl (by kernel_rfl) hb4b (by kernel_rfl) rfl (by kernel_rfl) rfl ?_
    intro W2 hb4c hgr1
    have HS2 := blk_grown HS1 hgr1 (by simpa using n4.symm)
    have hb5c := blk_grown hb5b hgr1 (by simpa using h45)
    have hBc : Below w.heap.size w W2 := hBb.grown hgr1 hBb.size (by rintro k ⟨⟩; exact hw4)
    refine ⟨HS2, ?_⟩
    refine draw_store_row (i := 6) (l2 := #[true, true, true, true, true, true, true]) (cells := #[.int .i64 2, .int .i64 0, .slice none 0 0]) (by kernel_rfl) (by kernel_rfl) rfl (by kernel_rfl) rfl (by kernel_rfl) hb5c (by kernel_rfl) rfl (by kernel_rfl) rfl ?_
    intro W3 hb5d hgr2
    have HS3 := blk_grown HS2 hgr2 (by simpa using n5.symm)
    have hb4d := blk_grown hb4c hgr2 (by simpa using h45.symm)
    have hBd : Below w.heap.size w W3 := hBc.grown hgr2 hBc.size (by rintro k ⟨⟩; exact hw5)
    refine ⟨HS3, ?_⟩
    refine draw_doneN (by kernel_rfl) ?_
    clear HS HS1 HS2 HS3 hb4b hb5b hb5c hb4c hb4W hb5W hb8a hb4a hb5a
    go_simp
    go_wp2_with fail
    exact bodyPost_ret (rv_results hb4d rfl hb5d rfl rfl rfl) rfl ⟨⟨2, 0, []⟩, n + 1, p + 1, true, .slice none 0 0, rfl, Kd.R_nil _ _ _ _ _, hBd, by rw [HX.out]; exact ⟨rfl, rfl⟩⟩
  · rw [if_neg h48] at hX
    cases hN : numF 9223372036854775808 (bl s) (n + 1) with
    | ok x =>
      obtain ⟨v, a⟩ := x
      rw [hN] at hX
      have hv63 := numF_most hN
      have hnum : ∀ w, Calls Tryd.prog 57 #[.agg #[.string s, .int .i64 ((n : Int) + 1), .int .i64 ((p : Int) + 1), .bool false], .int .u64 9223372036854775808, .int .u64 1] w fun e w' => e = .returned (.tuple #[.agg #[.string s, .int .i64 a, .int .i64 ((p : Int) + 1), .bool false], .int .u64 v]) ∧ Below w.heap.size w w' := fun w => rnumber_ok 9223372036854775808 (by omega) (by omega) s hs ((p : Int) + 1) (n + 1) (by omega) 1 (by omega) (fun _ => h48) hN 9223372036854775808 1 rfl rfl w
      replace hX := hX.symm
      have Hmin := Lib.hid hmin
      have Hdig := Lib.hid hdig
      have Hsg := Lib.hid hsg
      have Hnum := Lib.hid hnum
      have HX := Lib.hid hX
      clear h48 hc45 hmin hdig hsg hnum hX hN
      go_enter Tryd.func30, Tryd.ntmps30
      go_wp2_with (first
        | ((with_reducible refine gate_dst (N := 2) rfl ?_); refine box_event rfl (N := 2) rfl (cs := #[.string s, .int .i64 n, .int .i64 p, .bool false]) (t := 71) (by kernel_rfl) ?_; intro g2 hgg2 w1 hb1 hbel1; have hgeg2 : w.heap.size ≤ g2 := Nat.le_of_eq hgg2.symm; clear hgg2)
        | ((with_reducible refine gate_dst (N := 4) rfl ?_); refine box_event rfl (N := 4) rfl (cs := #[.string ⟨#[]⟩, .int .i64 0, .int .i64 0, .bool false]) (t := 71) (by kernel_rfl) ?_; intro g4 hgg4 w2 hb2 hbel2; have hgeg4 : w1.heap.size ≤ g4 := Nat.le_of_eq hgg4.symm; clear hgg4)
        | ((with_reducible refine gate_dst (N := 5) rfl ?_); refine box_event rfl (N := 5) rfl (cs := val0) (t := 26) (by kernel_rfl) ?_; intro g5 hgg5 w3 hb3 hbel3; have hgeg5 : w2.heap.size ≤ g5 := Nat.le_of_eq hgg5.symm; clear hgg5; have hb23 := blk_below (blk_below hb1 hbel2) hbel3; have hb43 := blk_below hb2 hbel3; have hB3 : Below w.heap.size w w3 := below_step (below_step hbel1 hbel2) hbel3; have l2 := blk_lt hb1; have l4 := blk_lt hb2; have h24 : g4 ≠ g2 := (by omega); have h25 : g5 ≠ g2 := (by have := hbel2.size; omega); have h45 : g5 ≠ g4 := (by omega); have hw2 : w.heap.size ≤ g2 := hgeg2; have hw4 : w.heap.size ≤ g4 := (by have := hbel1.size; omega); have hw5 : w.heap.size ≤ g5 := (by have := hbel1.size; have := hbel2.size; omega); have m4 : g4 < w3.heap.size := blk_lt hb43; have m2 : g2 < w3.heap.size := blk_lt hb23; have m5 : g5 < w3.heap.size := blk_lt hb3; clear l2 l4 hbel1 hbel2 hbel3 hgeg2 hgeg4 hgeg5 hb1 hb2; have q0 : w3.cell? ⟨g2, 0, none⟩ = some (.string s) := Blk.cell hb23 0; have q1 : w3.cell? ⟨g2, 1, none⟩ = some (.int .i64 n) := Blk.cell hb23 1; have q2 : w3.cell? ⟨g2, 2, none⟩ = some (.int .i64 p) := Blk.cell hb23 2; have q3 : w3.cell? ⟨g2, 3, none⟩ = some (.bool false) := Blk.cell hb23 3)
        | ((with_reducible refine gate_store (t := 3) (p := 46) rfl ?_); refine store_cell_event rfl rfl rfl rfl hb23 rfl (by kernel_rfl) rfl rfl ?_; intro w4 hb24 hgr4; have hb44 := blk_grown hb43 hgr4 (by simpa using h24); have hb54 := blk_grown hb3 hgr4 (by simpa using h25); have hB4 : Below w.heap.size w w4 := hB3.grown hgr4 hB3.size (by rintro k ⟨⟩; exact hw2); clear q0 q1 q2 q3 hb23 hb43 hb3 hB3)
        | ((with_reducible refine gate_dst (N := 48) rfl ?_); refine wpList_load_row rfl 71 _ rfl g2 rfl 71 _ (0, 0) _ hb24 Tryd.underlying71 rfl (by kernel_rfl) ?_)
        | (go_at_call 55; (with_reducible refine (rdigit_calls s n ((p : Int) + 1) false Hdig.out _).mono ?_); rintro e w5 ⟨rfl, hbel5⟩; have hb25 := blk_below hb24 hbel5; have hb45 := blk_below hb44 hbel5; have hb55 := blk_below hb54 hbel5; have hB5 : Below w.heap.size w w5 := below_step hB4 hbel5; clear hb24 hb44 hb54)
        | ((with_reducible refine gate_dst (N := 57) rfl ?_); refine load_row_guarded (by kernel_rfl) rfl rfl (run_loadVar_row (P := Tryd.prog) w5 g2 71 71 _ (0, 0) _ hb25 Tryd.underlying71 rfl (by kernel_rfl)) ?_)
        | (go_at_call 56; (with_reducible refine (ris_calls s n ((p : Int) + 1) false 45 45 rfl Hmin.out _).mono ?_); rintro e w6 ⟨rfl, hbel6⟩; have hb26 := blk_below hb25 hbel6; have hb46 := blk_below hb45 hbel6; have hb56 := blk_below hb55 hbel6; have hB6 : Below w.heap.size w w6 := below_step hB5 hbel6; clear hb25 hb45 hb55)
        | ((with_reducible refine gate_dst (N := 72) rfl ?_); refine wpList_load_row rfl 71 _ rfl g2 rfl 71 _ (0, 0) _ hb26 Tryd.underlying71 rfl (by kernel_rfl) ?_)
        | (go_at_call 58; (with_reducible refine (Hsg.out _).mono ?_); rintro e w7 ⟨rfl, hbel7⟩; have hb27 := blk_below hb26 hbel7; have hb47 := blk_below hb46 hbel7; have hb57 := blk_below hb56 hbel7; have hB7 : Below w.heap.size w w7 := below_step hB6 hbel7; clear hb26 hb46 hb56)
        | (go_at_call 57; (with_reducible refine (Hnum.out _).mono ?_); rintro e w8 ⟨rfl, hbel8⟩; have hb28 := blk_below hb27 hbel8; have hb48 := blk_below hb47 hbel8; have hb58 := blk_below hb57 hbel8; have hB8 : Below w.heap.size w w8 := below_step hB7 hbel8; have m4 := blk_lt hb48; have m5 := blk_lt hb58; clear hb27 hb47 hb57)
        | ((with_reducible refine gate_dst (N := 10) rfl ?_); refine box_event rfl (N := 10) rfl (cs := #[.string ⟨#[]⟩, .int .i64 0, .int .i64 0, .bool false]) (t := 71) (by kernel_rfl) ?_; intro g8 hgg8 w9 hb89 hbel9; have hgeg8 : w8.heap.size ≤ g8 := Nat.le_of_eq hgg8.symm; clear hgg8; have hb49 := blk_below hb48 hbel9; have hb59 := blk_below hb58 hbel9; have hB9 : Below w.heap.size w w9 := below_step hB8 hbel9; have n4 : g4 ≠ g8 := (by omega); have n5 : g5 ≠ g8 := (by omega); have hw8 : w.heap.size ≤ g8 := (by have := hB8.size; omega); clear hgeg8 hb48 hb58)
        | ((with_reducible refine gate_store (t := 71) (p := 10) rfl ?_); refine store_row_event rfl rfl rfl rfl hb89 (by kernel_rfl) rfl (by kernel_rfl) ?_; intro wa hb8a hgra; have hb4a := blk_grown hb49 hgra (by simpa using n4); have hb5a := blk_grown hb59 hgra (by simpa using n5); have hBa : Below w.heap.size w wa := hB9.grown hgra hB9.size (by rintro k ⟨⟩; exact hw8); clear hb49 hb59 hb89 hB9 hB8 hbel9 hbel8))
      refine draw_beginN (fun W' => Blk W' g8 71 #[.string s, .int .i64 a, .int .i64 ((p : Int) + 1), .bool false]) (fun _ => false) (by kernel_rfl) (n := 7) rfl rfl ?_
      intro W0 _hWh hWg
      clear _hWh
      have HS : Blk W0 g8 71 #[.string s, .int .i64 a, .int .i64 ((p : Int) + 1), .bool false] := blk_grown hb8a hWg (by simp)
      have hb4W := blk_grown hb4a hWg (by simp)
      have hb5W := blk_grown hb5a hWg (by simp)
      have hBW : Below w.heap.size w W0 := hBa.grown hWg hBa.size (by rintro k ⟨⟩)
      refine draw_take (i := 0) (l2 := #[true, false, false, false, false, false, false]) (v := .agg #[.string s, .int .i64 a, .int .i64 ((p : Int) + 1), .bool false]) rfl (by kernel_rfl) (by kernel_rfl) (by kernel_rfl) (by kernel_rfl) (by kernel_rfl) (fun _ _ _ h => h) (.inl ⟨by kernel_rfl, fun W' hS => ?_⟩) HS ?_
      · exact run_load_row rfl (by kernel_rfl) (run_loadVar_row (P := Tryd.prog) W' g8 71 71 #[.string s, .int .i64 a, .int .i64 ((p : Int) + 1), .bool false] (0, 0) _ hS Tryd.underlying71 rfl (by kernel_rfl))
      refine draw_take (i := 1) (l2 := #[true, true, false, false, false, false, false]) (v := .int .u64 v) rfl (by kernel_rfl) (by kernel_rfl) (by kernel_rfl) (by kernel_rfl) (by kernel_rfl) (fun _ _ _ h => h) (.inl ⟨by kernel_rfl, fun W' hS => ?_⟩) HS ?_
      · kernel_rfl
      refine draw_take (i := 2) (l2 := #[true, true, true, false, false, false, false]) (v := .int .u64 (IntKind.u64.wrap (-(v : Int)))) rfl (by kernel_rfl) (by kernel_rfl) (by kernel_rfl) (by kernel_rfl) (by kernel_rfl) (fun _ _ _ h => h) (.inl ⟨by kernel_rfl, fun W' hS => ?_⟩) HS ?_
      · exact run_negu rfl (by kernel_rfl)
      refine draw_take (i := 3) (l2 := #[true, true, true, true, false, false, false]) (v := .int .i64 (-(v : Int))) rfl (by kernel_rfl) (by kernel_rfl) (by kernel_rfl) (by kernel_rfl) (by kernel_rfl) (fun _ _ _ h => h) (.inl ⟨by kernel_rfl, fun W' hS => ?_⟩) HS ?_
      · exact run_convneg rfl (by kernel_rfl) hv63
      refine draw_call (i := 4) (l2 := #[true, true, true, true, true, false, false]) ?h4_r ?h4_l (show _ from rfl) ?h4_w ?h4_run (rint_calls (-(v : Int)) _) ?h4_k ?h4_p ?h4_o
      case h4_r => kernel_rfl
      case h4_l => kernel_rfl
      case h4_w => kernel_rfl
      case h4_run => kernel_rfl
      case h4_o => exact (fun W1 h => by cases h.1)
      case h4_p => exact (fun c W1 h => by cases h.1)
      intro v1 W1 h
      obtain ⟨h1, hB01⟩ := h
      injection h1 with h1
      subst h1
      have HS1 := blk_below2 hB01 HS
      have hb4b := blk_below2 hB01 hb4W
      have hb5b := blk_below2 hB01 hb5W
      have hBb : Below w.heap.size w W1 := below_step hBW hB01
      refine ⟨HS1, ?_⟩
      refine draw_store_row (i := 5) (l2 := #[true, true, true, true, true, true, false]) (cells := #[.string s, .int .i64 a, .int .i64 ((p : Int) + 1), .bool false]) (by kernel_rfl) (by kernel_rfl) rfl (by kernel_rfl) rfl (by kernel_rfl) hb4b (by kernel_rfl) rfl (by kernel_rfl) rfl ?_
      intro W2 hb4c hgr1
      have HS2 := blk_grown HS1 hgr1 (by simpa using n4.symm)
      have hb5c := blk_grown hb5b hgr1 (by simpa using h45)
      have hBc : Below w.heap.size w W2 := hBb.grown hgr1 hBb.size (by rintro k ⟨⟩; exact hw4)
      refine ⟨HS2, ?_⟩
      refine draw_store_row (i := 6) (l2 := #[true, true, true, true, true, true, true]) (cells := #[.int .i64 2, .int .i64 (-(v : Int)), .slice none 0 0]) (by kernel_rfl) (by kernel_rfl) rfl (by kernel_rfl) rfl (by kernel_rfl) hb5c (by kernel_rfl) rfl (by kernel_rfl) rfl ?_
      intro W3 hb5d hgr2
      have HS3 := blk_grown HS2 hgr2 (by simpa using n5.symm)
      have hb4d := blk_grown hb4c hgr2 (by simpa using h45.symm)
      have hBd : Below w.heap.size w W3 := hBc.grown hgr2 hBc.size (by rintro k ⟨⟩; exact hw5)
      refine ⟨HS3, ?_⟩
      refine draw_doneN (by kernel_rfl) ?_
      clear HS HS1 HS2 HS3 hb4b hb5b hb5c hb4c hb4W hb5W hb8a hb4a hb5a
      go_simp
      go_wp2_with fail
      exact bodyPost_ret (rv_results hb4d rfl hb5d rfl rfl rfl) rfl ⟨⟨2, (-(v : Int)), []⟩, a, p + 1, false, .slice none 0 0, rfl, Kd.R_nil _ _ _ _ _, hBd, by rw [HX.out]; exact ⟨rfl, rfl, rfl, rfl⟩⟩
    | error e0 =>
      rw [hN] at hX
      have hnum : ∀ w, Calls Tryd.prog 57 #[.agg #[.string s, .int .i64 ((n : Int) + 1), .int .i64 ((p : Int) + 1), .bool false], .int .u64 9223372036854775808, .int .u64 1] w fun e w' => e = .returned (.tuple #[.agg #[.string s, .int .i64 e0, .int .i64 ((p : Int) + 1), .bool true], .int .u64 0]) ∧ Below w.heap.size w w' := fun w => rnumber_err 9223372036854775808 (by omega) (by omega) s hs ((p : Int) + 1) (n + 1) (by omega) 1 (by omega) (fun _ => h48) hN 9223372036854775808 1 rfl rfl w
      replace hX := hX.symm
      have Hmin := Lib.hid hmin
      have Hdig := Lib.hid hdig
      have Hsg := Lib.hid hsg
      have Hnum := Lib.hid hnum
      have HX := Lib.hid hX
      clear h48 hc45 hmin hdig hsg hnum hX hN
      go_enter Tryd.func30, Tryd.ntmps30
      go_wp2_with (first
        | ((with_reducible refine gate_dst (N := 2) rfl ?_); refine box_event rfl (N := 2) rfl (cs := #[.string s, .int .i64 n, .int .i64 p, .bool false]) (t := 71) (by kernel_rfl) ?_; intro g2 hgg2 w1 hb1 hbel1; have hgeg2 : w.heap.size ≤ g2 := Nat.le_of_eq hgg2.symm; clear hgg2)
        | ((with_reducible refine gate_dst (N := 4) rfl ?_); refine box_event rfl (N := 4) rfl (cs := #[.string ⟨#[]⟩, .int .i64 0, .int .i64 0, .bool false]) (t := 71) (by kernel_rfl) ?_; intro g4 hgg4 w2 hb2 hbel2; have hgeg4 : w1.heap.size ≤ g4 := Nat.le_of_eq hgg4.symm; clear hgg4)
        | ((with_reducible refine gate_dst (N := 5) rfl ?_); refine box_event rfl (N := 5) rfl (cs := val0) (t := 26) (by kernel_rfl) ?_; intro g5 hgg5 w3 hb3 hbel3; have hgeg5 : w2.heap.size ≤ g5 := Nat.le_of_eq hgg5.symm; clear hgg5; have hb23 := blk_below (blk_below hb1 hbel2) hbel3; have hb43 := blk_below hb2 hbel3; have hB3 : Below w.heap.size w w3 := below_step (below_step hbel1 hbel2) hbel3; have l2 := blk_lt hb1; have l4 := blk_lt hb2; have h24 : g4 ≠ g2 := (by omega); have h25 : g5 ≠ g2 := (by have := hbel2.size; omega); have h45 : g5 ≠ g4 := (by omega); have hw2 : w.heap.size ≤ g2 := hgeg2; have hw4 : w.heap.size ≤ g4 := (by have := hbel1.size; omega); have hw5 : w.heap.size ≤ g5 := (by have := hbel1.size; have := hbel2.size; omega); have m4 : g4 < w3.heap.size := blk_lt hb43; have m2 : g2 < w3.heap.size := blk_lt hb23; have m5 : g5 < w3.heap.size := blk_lt hb3; clear l2 l4 hbel1 hbel2 hbel3 hgeg2 hgeg4 hgeg5 hb1 hb2; have q0 : w3.cell? ⟨g2, 0, none⟩ = some (.string s) := Blk.cell hb23 0; have q1 : w3.cell? ⟨g2, 1, none⟩ = some (.int .i64 n) := Blk.cell hb23 1; have q2 : w3.cell? ⟨g2, 2, none⟩ = some (.int .i64 p) := Blk.cell hb23 2; have q3 : w3.cell? ⟨g2, 3, none⟩ = some (.bool false) := Blk.cell hb23 3)
        | ((with_reducible refine gate_store (t := 3) (p := 46) rfl ?_); refine store_cell_event rfl rfl rfl rfl hb23 rfl (by kernel_rfl) rfl rfl ?_; intro w4 hb24 hgr4; have hb44 := blk_grown hb43 hgr4 (by simpa using h24); have hb54 := blk_grown hb3 hgr4 (by simpa using h25); have hB4 : Below w.heap.size w w4 := hB3.grown hgr4 hB3.size (by rintro k ⟨⟩; exact hw2); clear q0 q1 q2 q3 hb23 hb43 hb3 hB3)
        | ((with_reducible refine gate_dst (N := 48) rfl ?_); refine wpList_load_row rfl 71 _ rfl g2 rfl 71 _ (0, 0) _ hb24 Tryd.underlying71 rfl (by kernel_rfl) ?_)
        | (go_at_call 55; (with_reducible refine (rdigit_calls s n ((p : Int) + 1) false Hdig.out _).mono ?_); rintro e w5 ⟨rfl, hbel5⟩; have hb25 := blk_below hb24 hbel5; have hb45 := blk_below hb44 hbel5; have hb55 := blk_below hb54 hbel5; have hB5 : Below w.heap.size w w5 := below_step hB4 hbel5; clear hb24 hb44 hb54)
        | ((with_reducible refine gate_dst (N := 57) rfl ?_); refine load_row_guarded (by kernel_rfl) rfl rfl (run_loadVar_row (P := Tryd.prog) w5 g2 71 71 _ (0, 0) _ hb25 Tryd.underlying71 rfl (by kernel_rfl)) ?_)
        | (go_at_call 56; (with_reducible refine (ris_calls s n ((p : Int) + 1) false 45 45 rfl Hmin.out _).mono ?_); rintro e w6 ⟨rfl, hbel6⟩; have hb26 := blk_below hb25 hbel6; have hb46 := blk_below hb45 hbel6; have hb56 := blk_below hb55 hbel6; have hB6 : Below w.heap.size w w6 := below_step hB5 hbel6; clear hb25 hb45 hb55)
        | ((with_reducible refine gate_dst (N := 72) rfl ?_); refine wpList_load_row rfl 71 _ rfl g2 rfl 71 _ (0, 0) _ hb26 Tryd.underlying71 rfl (by kernel_rfl) ?_)
        | (go_at_call 58; (with_reducible refine (Hsg.out _).mono ?_); rintro e w7 ⟨rfl, hbel7⟩; have hb27 := blk_below hb26 hbel7; have hb47 := blk_below hb46 hbel7; have hb57 := blk_below hb56 hbel7; have hB7 : Below w.heap.size w w7 := below_step hB6 hbel7; clear hb26 hb46 hb56)
        | (go_at_call 57; (with_reducible refine (Hnum.out _).mono ?_); rintro e w8 ⟨rfl, hbel8⟩; have hb28 := blk_below hb27 hbel8; have hb48 := blk_below hb47 hbel8; have hb58 := blk_below hb57 hbel8; have hB8 : Below w.heap.size w w8 := below_step hB7 hbel8; have m4 := blk_lt hb48; have m5 := blk_lt hb58; clear hb27 hb47 hb57)
        | ((with_reducible refine gate_dst (N := 10) rfl ?_); refine box_event rfl (N := 10) rfl (cs := #[.string ⟨#[]⟩, .int .i64 0, .int .i64 0, .bool false]) (t := 71) (by kernel_rfl) ?_; intro g8 hgg8 w9 hb89 hbel9; have hgeg8 : w8.heap.size ≤ g8 := Nat.le_of_eq hgg8.symm; clear hgg8; have hb49 := blk_below hb48 hbel9; have hb59 := blk_below hb58 hbel9; have hB9 : Below w.heap.size w w9 := below_step hB8 hbel9; have n4 : g4 ≠ g8 := (by omega); have n5 : g5 ≠ g8 := (by omega); have hw8 : w.heap.size ≤ g8 := (by have := hB8.size; omega); clear hgeg8 hb48 hb58)
        | ((with_reducible refine gate_store (t := 71) (p := 10) rfl ?_); refine store_row_event rfl rfl rfl rfl hb89 (by kernel_rfl) rfl (by kernel_rfl) ?_; intro wa hb8a hgra; have hb4a := blk_grown hb49 hgra (by simpa using n4); have hb5a := blk_grown hb59 hgra (by simpa using n5); have hBa : Below w.heap.size w wa := hB9.grown hgra hB9.size (by rintro k ⟨⟩; exact hw8); clear hb49 hb59 hb89 hB9 hB8 hbel9 hbel8))
      refine draw_beginN (fun W' => Blk W' g8 71 #[.string s, .int .i64 e0, .int .i64 ((p : Int) + 1), .bool true]) (fun _ => false) (by kernel_rfl) (n := 7) rfl rfl ?_
      intro W0 _hWh hWg
      clear _hWh
      have HS : Blk W0 g8 71 #[.string s, .int .i64 e0, .int .i64 ((p : Int) + 1), .bool true] := blk_grown hb8a hWg (by simp)
      have hb4W := blk_grown hb4a hWg (by simp)
      have hb5W := blk_grown hb5a hWg (by simp)
      have hBW : Below w.heap.size w W0 := hBa.grown hWg hBa.size (by rintro k ⟨⟩)
      refine draw_take (i := 0) (l2 := #[true, false, false, false, false, false, false]) (v := .agg #[.string s, .int .i64 e0, .int .i64 ((p : Int) + 1), .bool true]) rfl (by kernel_rfl) (by kernel_rfl) (by kernel_rfl) (by kernel_rfl) (by kernel_rfl) (fun _ _ _ h => h) (.inl ⟨by kernel_rfl, fun W' hS => ?_⟩) HS ?_
      · exact run_load_row rfl (by kernel_rfl) (run_loadVar_row (P := Tryd.prog) W' g8 71 71 #[.string s, .int .i64 e0, .int .i64 ((p : Int) + 1), .bool true] (0, 0) _ hS Tryd.underlying71 rfl (by kernel_rfl))
      refine draw_take (i := 1) (l2 := #[true, true, false, false, false, false, false]) (v := .int .u64 0) rfl (by kernel_rfl) (by kernel_rfl) (by kernel_rfl) (by kernel_rfl) (by kernel_rfl) (fun _ _ _ h => h) (.inl ⟨by kernel_rfl, fun W' hS => ?_⟩) HS ?_
      · kernel_rfl
      refine draw_take (i := 2) (l2 := #[true, true, true, false, false, false, false]) (v := .int .u64 0) rfl (by kernel_rfl) (by kernel_rfl) (by kernel_rfl) (by kernel_rfl) (by kernel_rfl) (fun _ _ _ h => h) (.inl ⟨by kernel_rfl, fun W' hS => ?_⟩) HS ?_
      · kernel_rfl
      refine draw_take (i := 3) (l2 := #[true, true, true, true, false, false, false]) (v := .int .i64 0) rfl (by kernel_rfl) (by kernel_rfl) (by kernel_rfl) (by kernel_rfl) (by kernel_rfl) (fun _ _ _ h => h) (.inl ⟨by kernel_rfl, fun W' hS => ?_⟩) HS ?_
      · kernel_rfl
      refine draw_call (i := 4) (l2 := #[true, true, true, true, true, false, false]) ?h5_r ?h5_l (show _ from rfl) ?h5_w ?h5_run (rint_calls 0 _) ?h5_k ?h5_p ?h5_o
      case h5_r => kernel_rfl
      case h5_l => kernel_rfl
      case h5_w => kernel_rfl
      case h5_run => kernel_rfl
      case h5_o => exact (fun W1 h => by cases h.1)
      case h5_p => exact (fun c W1 h => by cases h.1)
      intro v1 W1 h
      obtain ⟨h1, hB01⟩ := h
      injection h1 with h1
      subst h1
      have HS1 := blk_below2 hB01 HS
      have hb4b := blk_below2 hB01 hb4W
      have hb5b := blk_below2 hB01 hb5W
      have hBb : Below w.heap.size w W1 := below_step hBW hB01
      refine ⟨HS1, ?_⟩
      refine draw_store_row (i := 5) (l2 := #[true, true, true, true, true, true, false]) (cells := #[.string s, .int .i64 e0, .int .i64 ((p : Int) + 1), .bool true]) (by kernel_rfl) (by kernel_rfl) rfl (by kernel_rfl) rfl (by kernel_rfl) hb4b (by kernel_rfl) rfl (by kernel_rfl) rfl ?_
      intro W2 hb4c hgr1
      have HS2 := blk_grown HS1 hgr1 (by simpa using n4.symm)
      have hb5c := blk_grown hb5b hgr1 (by simpa using h45)
      have hBc : Below w.heap.size w W2 := hBb.grown hgr1 hBb.size (by rintro k ⟨⟩; exact hw4)
      refine ⟨HS2, ?_⟩
      refine draw_store_row (i := 6) (l2 := #[true, true, true, true, true, true, true]) (cells := #[.int .i64 2, .int .i64 0, .slice none 0 0]) (by kernel_rfl) (by kernel_rfl) rfl (by kernel_rfl) rfl (by kernel_rfl) hb5c (by kernel_rfl) rfl (by kernel_rfl) rfl ?_
      intro W3 hb5d hgr2
      have HS3 := blk_grown HS2 hgr2 (by simpa using n5.symm)
      have hb4d := blk_grown hb4c hgr2 (by simpa using h45.symm)
      have hBd : Below w.heap.size w W3 := hBc.grown hgr2 hBc.size (by rintro k ⟨⟩; exact hw5)
      refine ⟨HS3, ?_⟩
      refine draw_doneN (by kernel_rfl) ?_
      clear HS HS1 HS2 HS3 hb4b hb5b hb5c hb4c hb4W hb5W hb8a hb4a hb5a
      go_simp
      go_wp2_with fail
      exact bodyPost_ret (rv_results hb4d rfl hb5d rfl rfl rfl) rfl ⟨⟨2, 0, []⟩, e0, p + 1, true, .slice none 0 0, rfl, Kd.R_nil _ _ _ _ _, hBd, by rw [HX.out]; exact ⟨rfl, rfl⟩⟩
end Go.Proofs.YtfnekpgbfdhnmaaDoor

namespace Go.Proofs.YtfnekpgbfdhnmaaDoor
open Go.RowKit Go.Proofs.YtfnekpgbfdhnmaaDoorW.PrintWords Go.Proofs.YtfnekpgbfdhnmaaDoorW.PrintLast Go.Proofs.YtfnekpgbfdhnmaaDoorW.PrintMore Go.Proofs.YtfnekpgbfdhnmaaDoor.PAll
theorem rneeds_eq (k : Nat) : betrothalref05_needs.f k = some ((((needF k).1 : Nat) : Int), (((needF k).2.1 : Nat) : Int), (((needF k).2.2.1 : Nat) : Int), (((needF k).2.2.2 : Nat) : Int)) := by
  by_cases h : k ≤ 12
  · have : k = 0 ∨ k = 1 ∨ k = 2 ∨ k = 3 ∨ k = 4 ∨ k = 5 ∨ k = 6 ∨ k = 7 ∨ k = 8 ∨ k = 9 ∨ k = 10 ∨ k = 11 ∨ k = 12 := by omega
    rcases this with rfl | rfl | rfl | rfl | rfl | rfl | rfl | rfl | rfl | rfl | rfl | rfl | rfl <;> rfl
  · unfold betrothalref05_needs.f needF
    rw [if_neg (by omega), if_neg (by omega), if_neg (by omega), if_neg (by omega), if_neg (by omega), if_neg (by omega), if_neg (by omega), if_neg (by omega), if_neg (by omega), if_neg (by omega), if_neg (by omega), if_neg (by omega), if_neg (by omega), if_neg (by omega), if_neg (by omega), if_neg (by omega)]
    rfl
theorem rneeds_calls (k : Nat) {l mo f0 f1 : Nat} (h : needF k = (l, mo, f0, f1)) (w : World) : Calls Tryd.prog 61 #[.int .i64 k] w fun e w' => e = .returned (.tuple #[.int .i64 l, .int .i64 mo, .int .i64 f0, .int .i64 f1]) ∧ Below w.heap.size w w' :=
  (betrothalref05_needs.calls k l mo f0 f1 w (by rw [rneeds_eq, h])).mono fun _ _ h => ⟨h.1, h.2.below⟩
theorem rcounted_calls (k : Nat) {b : Bool} (h : countedB k = b) (w : World) : Calls Tryd.prog 60 #[.int .i64 k] w fun e w' => e = .returned (.bool b) ∧ Below w.heap.size w w' := by
  refine (betrothalref05_numbered.calls k b w ?_).mono fun _ _ h => ⟨h.1, h.2.below⟩
  unfold betrothalref05_numbered.f
  subst h
  unfold countedB
  by_cases h4 : k = 4
  · subst h4; rfl
  · rw [if_neg (by omega)]
    have : (k == 4) = false := by simpa using h4
    rw [this, Bool.false_or]
    congr 1
    rw [decide_eq_decide]; omega
/-- What follows a value's own values. -/
def finishV (l : List UInt8) (k : Nat) (N : Int) : Except Nat (List Tree × Nat × Nat) → Except Nat (Tree × Nat × Nat)
  | .error e => .error e
  | .ok (got, a2, p2) => if l[a2]? = some 41 then .ok (⟨k, N, got⟩, a2 + 1, p2) else .error a2
noncomputable def rvTail : Code := rightN 9 (Tryd.f30.body.getD .skip)
theorem itemsGo_most {val : Nat → Nat → Nat → Except Nat (Tree × Nat × Nat)} {l : List UInt8} (hval : ∀ m a p t a' p', val m a p = .ok (t, a', p') → p' ≤ 256) {cnt : Bool} {least m0 m1 : Nat} : ∀ {left : Nat} {got : List Tree} {at2 parts : Nat} {x : List Tree × Nat × Nat},
    parts ≤ 256 → itemsGo val l cnt least m0 m1 left got at2 parts = .ok x → x.2.2 ≤ 256
  | 0, got, at2, parts, x, ha, h => by rw [itemsGo] at h; injection h with h; subst h; exact ha
  | left + 1, got, at2, parts, x, ha, h => by
    rw [itemsGo] at h
    split at h
    · injection h with h; subst h; exact ha
    · split at h
      · cases h
      · split at h
        · cases h
        · rename_i hv
          exact itemsGo_most hval (hval _ _ _ _ _ _ hv) h
theorem valueF_most : ∀ {fuel : Nat} {l : List UInt8} {m a p : Nat} {t : Tree} {a' p' : Nat}, valueF fuel l m a p = .ok (t, a', p') → p' ≤ 256
  | 0, _, _, _, _, _, _, _, h => by rw [valueF] at h; cases h
  | fuel + 1, l, m, a, p, t, a', p', h => by
    rw [valueF] at h
    by_cases h1 : l.length ≤ a ∨ 256 ≤ p
    · rw [if_pos h1] at h; cases h
    rw [if_neg h1] at h
    repeat' split at h
    all_goals first
      | (cases h; done)
      | (simp only [Except.ok.injEq, Prod.mk.injEq] at h; omega)
      | skip
    all_goals
      rename_i hi _
      have := itemsGo_most (fun _ _ _ _ _ _ hv => valueF_most hv) (by omega) hi
      simp only [Except.ok.injEq, Prod.mk.injEq] at h
      simp only at this
      omega
/-- What a value that stands here comes to, bad or not. -/
def StepPost (s : ByteArray) (Y : Except Nat (List Tree × Nat × Nat)) (Z : Tree → Nat → Nat → Except Nat (List Tree × Nat × Nat)) (parts : Nat) (w : World) (e : Ending) (w' : World) : Prop :=
  ∃ (t : Tree) (a p : Nat) (b : Bool) (A : Option Addr) (c : Nat), e = .returned (.tuple #[.agg #[.string s, .int .i64 a, .int .i64 p, .bool b], .agg #[.int .i64 t.f0, .int .i64 t.f1, .slice A t.f2.length c]]) ∧ Kd.R k26 26 w' w.heap.size (fun _ => True) (.slice A t.f2.length c) t.f2 ∧ Below w.heap.size w w' ∧
    ((b = true ∧ Y = .error a) ∨ (b = false ∧ Y = Z t a p ∧ a ≤ s.size ∧ p ≤ 256 ∧ parts ≤ p))
theorem step_said {fuel : Nat} (ih : RefValSaid fuel) {s : ByteArray} (hs : s.size ≤ maxLen) {Y : Except Nat (List Tree × Nat × Nat)} {Z : Tree → Nat → Nat → Except Nat (List Tree × Nat × Nat)} (m' : Nat) (hm : m' ≤ 2) (a3 parts : Nat) (b3 : Bool) (ha : a3 ≤ s.size) (hp : parts ≤ 256) (hf : 257 ≤ fuel + parts)
    (h : (b3 = true ∧ Y = .error a3) ∨ (b3 = false ∧ ∀ x, valueF fuel (bl s) m' a3 parts = x → match x with | .error e => Y = .error e | .ok (t, a, p) => Y = Z t a p)) (W : World) :
    Calls Tryd.prog 30 #[.agg #[.string s, .int .i64 a3, .int .i64 parts, .bool b3], .int .i64 m'] W (StepPost s Y Z parts W) := by
  rcases h with ⟨rfl, hY⟩ | ⟨rfl, hY⟩
  · refine (rv_stop m' a3 parts true s W (.inl rfl)).mono ?_
    rintro e w' ⟨rfl, hB⟩
    exact ⟨⟨0, 0, []⟩, a3, parts, true, none, 0, rfl, Kd.R_nil _ _ _ _ _, hB, .inl ⟨rfl, hY⟩⟩
  · refine (ih m' s a3 parts W hm ha hs hp hf).mono ?_
    rintro e w' ⟨t, a, p, b, v2, rfl, hR, hB, hx⟩
    obtain ⟨A, c, rfl⟩ := Kd.R_slice hR
    have hY' := hY _ rfl
    cases hv : valueF fuel (bl s) m' a3 parts with
    | error e0 =>
      rw [hv] at hx hY'
      obtain ⟨rfl, rfl⟩ := hx
      exact ⟨t, a, p, true, A, c, rfl, hR, hB, .inl ⟨rfl, hY'⟩⟩
    | ok x =>
      obtain ⟨t0, a0, p0⟩ := x
      rw [hv] at hx hY'
      obtain ⟨rfl, rfl, rfl, rfl⟩ := hx
      have h1 := valueF_at hv
      rw [bl_length] at h1
      exact ⟨t, a, p, false, A, c, rfl, hR, hB, .inr ⟨rfl, hY', h1, valueF_most hv, valueF_parts hv⟩⟩
/-- What stands between two of a value's own values. -/
def RI (w : World) (s : ByteArray) (g2 g4 g5 g13 k : Nat) (N : Int) (got : List Tree) (a2 parts : Nat) (b2 : Bool) (A : Option Addr) (c : Nat) (wr : World) : Prop :=
  Blk wr g2 71 #[.string s, .int .i64 a2, .int .i64 parts, .bool b2] ∧ Blk wr g13 26 #[.int .i64 k, .int .i64 N, .slice A got.length c] ∧ Kd.R k26 26 wr w.heap.size (fun q => q ≠ g2 ∧ q ≠ g4 ∧ q ≠ g5 ∧ q ≠ g13) (.slice A got.length c) got ∧ Blk wr g4 71 #[.string ⟨#[]⟩, .int .i64 0, .int .i64 0, .bool false] ∧ Blk wr g5 26 val0 ∧ Below w.heap.size w wr
theorem RI.step {w : World} {s : ByteArray} {g2 g4 g5 g13 k : Nat} {N : Int} {got : List Tree} {a2 parts : Nat} {b2 : Bool} {A : Option Addr} {c : Nat} {wr w1 : World} (h : RI w s g2 g4 g5 g13 k N got a2 parts b2 A c wr) (hb : Below wr.heap.size wr w1) : RI w s g2 g4 g5 g13 k N got a2 parts b2 A c w1 :=
  ⟨blk_below h.1 hb, blk_below h.2.1 hb, Kd.R_below h.2.2.1 hb, blk_below h.2.2.2.1 hb, blk_below h.2.2.2.2.1 hb, below_step h.2.2.2.2.2 hb⟩
/-- The reader is turned. -/
theorem RI.read {w : World} {s : ByteArray} {g2 g4 g5 g13 k : Nat} {N : Int} {got : List Tree} {a2 parts : Nat} {b2 : Bool} {A : Option Addr} {c : Nat} {wr w1 : World} (h : RI w s g2 g4 g5 g13 k N got a2 parts b2 A c wr) (hw2 : w.heap.size ≤ g2) (h24 : g4 ≠ g2) (h25 : g5 ≠ g2) (h213 : g13 ≠ g2) {a3 p3 : Nat} {b3 : Bool}
    (hb : Blk w1 g2 71 #[.string s, .int .i64 a3, .int .i64 p3, .bool b3]) (hg : wr.grownBy w1 (some g2)) : RI w s g2 g4 g5 g13 k N got a3 p3 b3 A c w1 :=
  ⟨hb, blk_grown h.2.1 hg (by simpa using h213), Kd.R_grown h.2.2.1 hg (fun j hj e => by injection e with e; exact hj.1 e), blk_grown h.2.2.2.1 hg (by simpa using h24), blk_grown h.2.2.2.2.1 hg (by simpa using h25), h.2.2.2.2.2.grown hg h.2.2.2.2.2.size (by rintro k ⟨⟩; exact hw2)⟩
set_option maxRecDepth 100000 in
set_option maxHeartbeats 8000000 in
theorem rv_tail (fuel : Nat) (ih : RefValSaid fuel) (s : ByteArray) (m a p k : Nat) (N : Int) (g2 g4 g5 g13 : Nat) (b : Bool) (w wd : World) (X : Except Nat (Tree × Nat × Nat)) (Y : Except Nat (List Tree × Nat × Nat)) (hX : X = finishV (bl s) k N Y)
    (hY : (b = true ∧ Y = .error a) ∨ (b = false ∧ Y = itemsGo (valueF fuel (bl s)) (bl s) (countedB k) (needF k).1 (needF k).2.2.1 (needF k).2.2.2 (needF k).2.1 [] a (p + 1))) (hs : s.size ≤ maxLen) (hp : p < 256) (hf : 256 ≤ fuel + p) (hk13 : k ≤ 13)
    (hw2 : w.heap.size ≤ g2) (hw4 : w.heap.size ≤ g4) (hw5 : w.heap.size ≤ g5) (hw13 : w.heap.size ≤ g13) (h24 : g4 ≠ g2) (h25 : g5 ≠ g2) (h45 : g5 ≠ g4) (h213 : g13 ≠ g2) (h413 : g13 ≠ g4) (h513 : g13 ≠ g5)
    (hI : RI w s g2 g4 g5 g13 k N [] a (p + 1) b none 0 wd) (hle : b = false → a ≤ s.size)
    (u0 u3 u6 u7 u8 u9 u10 u11 u14 u15 u16 u17 u18 u19 u20 u21 u22 u23 u24 u25 u26 u27 u28 u29 u30 u31 u32 u33 u34 u35 u36 u37 u38 u39 u40 u41 u42 u43 u44 u45 u46 u47 u48 u49 u50 u51 u52 u53 u54 u55 u56 u57 u58 u59 u60 u61 u62 u63 u64 u65 u66 u67 u68 u69 u70 u71 u72 u73 u74 u75 u76 u77 u78 u79 u80 u81 u82 u83 u84 u85 u86 u87 u88 u89 u90 u91 u92 u93 u94 u95 u96 u97 u98 u99 u100 u101 u102 u103 u104 u105 u106 u107 u108 u109 u110 u111 u112 u113 u114 u115 u116 u117 u118 u119 u120 u121 u122 u123 u124 u125 u126 u127 u128 u129 u130 u131 u132 u133 u134 u135 u136 u137 u138 u139 u140 u141 u142 u143 u144 u145 u146 u147 u148 u149 u150 u151 u152 u153 u154 u155 u156 u157 u158 u159 u160 u161 u162 u163 u164 u165 u166 u167 u168 u169 u170 u171 u172 u173 : Value) :
    rvTail.wp Tryd.prog (bodyPost Tryd.prog Tryd.f30 (RVPost w s X)) { tmps := #[u0, .int .i64 m, .pointer (some ⟨g2, 0, none⟩), u3, .pointer (some ⟨g4, 0, none⟩), .pointer (some ⟨g5, 0, none⟩), u6, u7, u8, u9, u10, u11, .int .i64 k, .pointer (some ⟨g13, 0, none⟩), u14, u15, u16, u17, u18, u19, u20, u21, u22, u23, u24, u25, u26, u27, u28, u29, u30, u31, u32, u33, u34, u35, u36, u37, u38, u39, u40, u41, u42, u43, u44, u45, u46, u47, u48, u49, u50, u51, u52, u53, u54, u55, u56, u57, u58, u59, u60, u61, u62, u63, u64, u65, u66, u67, u68, u69, u70, u71, u72, u73, u74, u75, u76, u77, u78, u79, u80, u81, u82, u83, u84, u85, u86, u87, u88, u89, u90, u91, u92, u93, u94, u95, u96, u97, u98, u99, u100, u101, u102, u103, u104, u105, u106, u107, u108, u109, u110, u111, u112, u113, u114, u115, u116, u117, u118, u119, u120, u121, u122, u123, u124, u125, u126, u127, u128, u129, u130, u131, u132, u133, u134, u135, u136, u137, u138, u139, u140, u141, u142, u143, u144, u145, u146, u147, u148, u149, u150, u151, u152, u153, u154, u155, u156, u157, u158, u159, u160, u161, u162, u163, u164, u165, u166, u167, u168, u169, u170, u171, u172, u173], defers := [] } wd := by
  have HX := Lib.hid hX
  clear hX
  have hnext := nextM_le k
  have hmost := needF_most k
  obtain ⟨least, most, f0, f1, hneed⟩ : ∃ l mo f0 f1, needF k = (l, mo, f0, f1) := ⟨_, _, _, _, rfl⟩
  have hnm : ∀ l, nextM k l = if l = 0 then f0 else f1 := fun l => by unfold nextM; rw [hneed]
  rw [hneed] at hY hmost
  dsimp only at hY hmost
  have Hnm := Lib.hid hnm
  have Hnext := Lib.hid hnext
  have Hneed := Lib.hid fun w => rneeds_calls k hneed w
  obtain ⟨cnt, hcnt⟩ : ∃ b, countedB k = b := ⟨_, rfl⟩
  have Hcnt := Lib.hid fun w => rcounted_calls k hcnt w
  rw [hcnt] at hY
  have HY := Lib.hid hY
  clear hnm hnext hneed hcnt hY
  conv in rvTail => unfold rvTail; simp only [Tryd.f30, Option.getD, rightN]
  go_upto_block 0 with (go_at_call 61; (with_reducible refine (Hneed.out _).mono ?_); rintro e w1 ⟨rfl, hbel1⟩)
  have hI1 := hI.step hbel1
  clear hI hbel1
  go_cut [21] (fun _ wc => ∃ (got : List Tree) (a2 parts : Nat) (b2 : Bool) (A : Option Addr) (c : Nat), RI w s g2 g4 g5 g13 k N got a2 parts b2 A c wc ∧ ((b2 = true ∧ Y = .error a2) ∨ (b2 = false ∧ Y = .ok (got, a2, parts) ∧ a2 ≤ s.size)))
  case first =>
    go_wp2_with fail
    go_loopw [21] (fun t wr => ∃ (i : Nat) (got : List Tree) (a2 parts : Nat) (b2 : Bool) (A : Option Addr) (c : Nat), t = .int .i64 i ∧ i ≤ most ∧ got.length = i ∧ RI w s g2 g4 g5 g13 k N got a2 parts b2 A c wr ∧
        ((b2 = true ∧ Y = .error a2) ∨ (b2 = false ∧ Y = itemsGo (valueF fuel (bl s)) (bl s) cnt least f0 f1 (most - i) got a2 parts ∧ a2 ≤ s.size ∧ parts ≤ 256 ∧ p + 1 ≤ parts))) (fun t _ => most - (intOf t).toNat)
    case atStart => exact ⟨0, [], a, p + 1, b, none, 0, rfl, by omega, rfl, hI1, HY.out.imp id fun h => ⟨h.1, h.2, hle h.1, by omega, by omega⟩⟩
    case round =>
      obtain ⟨i, got, a2, parts, b2, A, c, rfl, hi, hgl, hIr, hrel2⟩ := hrel
      have Hgl := Lib.hid hgl
      have q3 : wr.cell? ⟨g2, 3, none⟩ = some (.bool b2) := hIr.1.cell 3
      by_cases hlt : i < most
      · cases b2 with
        | true =>
          have hYe : Y = .error a2 := by
            rcases hrel2 with ⟨_, h⟩ | ⟨h, _⟩
            · exact h
            · cases h
          have HYe := Lib.hid hYe
          clear hYe hrel2 hgl
          go_wp2_with fail
          go_meet
          exact ⟨got, a2, parts, true, A, c, hIr, .inl ⟨rfl, HYe.out⟩⟩
        | false =>
          obtain ⟨left, hleft⟩ : ∃ left, most - i = left + 1 := ⟨most - i - 1, by omega⟩
          obtain ⟨hYi, ha2, hparts, hpp⟩ : Y = itemsGo (valueF fuel (bl s)) (bl s) cnt least f0 f1 (left + 1) got a2 parts ∧ a2 ≤ s.size ∧ parts ≤ 256 ∧ p + 1 ≤ parts := by
            rcases hrel2 with ⟨h, _⟩ | ⟨_, h⟩
            · cases h
            · rw [← hleft]; exact h
          have hle2 : most - (i + 1) = left := by omega
          have Hle2 := Lib.hid hle2
          clear hrel2 hleft hle2 hgl
          by_cases hclose : least ≤ i ∧ (bl s)[a2]? = some 41
          · have hYo : Y = .ok (got, a2, parts) := by rw [hYi, itemsGo, if_pos ⟨by rw [Hgl.out]; omega, hclose.2⟩]
            have HYo := Lib.hid hYo
            have Hc := Lib.hid (decide_eq_true hclose.2)
            have hge := hclose.1
            clear hYo hYi hclose
            go_wp2_with (first
              | ((with_reducible refine gate_dst (N := 143) rfl ?_); refine load_row_guarded (by kernel_rfl) rfl rfl (run_loadVar_row (P := Tryd.prog) _ g2 71 71 _ (0, 0) _ hIr.1 Tryd.underlying71 rfl (by kernel_rfl)) ?_)
              | (go_at_call 56; (with_reducible refine (ris_calls s a2 parts false 41 41 rfl Hc.out _).mono ?_); rintro e w5 ⟨rfl, hbel5⟩))
            go_meet
            exact ⟨got, a2, parts, false, A, c, hIr.step hbel5, .inr ⟨rfl, HYo.out, ha2⟩⟩
          · have HYi := Lib.hid hYi
            clear hYi
            have hno : ¬ (¬ got.length < least ∧ (bl s)[a2]? = some 41) := fun h => hclose ⟨by have := Hgl.out; omega, h.2⟩
            have Hno := Lib.hid hno
            clear hno
            go_upto_region 28 with (fail)
            go_cut [145] (fun s145 wc => s145 = .bool false ∧ RI w s g2 g4 g5 g13 k N got a2 parts false A c wc)
            case first =>
              by_cases hge : least ≤ i
              · have hn41 : ¬ (bl s)[a2]? = some 41 := fun h => hclose ⟨hge, h⟩
                have Hc := Lib.hid (decide_eq_false hn41)
                clear hn41 hclose
                go_wp2_with (first
                  | ((with_reducible refine gate_dst (N := 143) rfl ?_); refine load_row_guarded (by kernel_rfl) rfl rfl (run_loadVar_row (P := Tryd.prog) _ g2 71 71 _ (0, 0) _ hIr.1 Tryd.underlying71 rfl (by kernel_rfl)) ?_)
                  | (go_at_call 56; (with_reducible refine (ris_calls s a2 parts false 41 41 rfl Hc.out _).mono ?_); rintro e w5 ⟨rfl, hbel5⟩))
                go_meet
                exact ⟨rfl, hIr.step hbel5⟩
              · clear hclose
                go_wp2_with fail
                go_meet
                exact ⟨rfl, hIr⟩
            case rest =>
              obtain ⟨rfl, hIc⟩ := hcut
              clear hclose
              obtain ⟨sg, hsg⟩ : ∃ sg, (decide (0 < i) || cnt) = sg := ⟨_, rfl⟩
              have Hsg := Lib.hid hsg
              clear hsg
              go_upto_region 29 with (fail)
              go_cut [151] (fun s151 wc => s151 = .bool sg ∧ RI w s g2 g4 g5 g13 k N got a2 parts false A c wc)
              case first =>
                have hsg := Hsg.out
                by_cases hi0 : 0 < i
                · rw [decide_eq_true hi0, Bool.true_or] at hsg
                  subst hsg
                  clear Hsg
                  go_wp2_with fail
                  go_meet
                  exact ⟨rfl, hIc⟩
                · rw [decide_eq_false hi0, Bool.false_or] at hsg
                  subst hsg
                  clear Hsg
                  go_wp2_with ((go_at_call 60; (with_reducible refine (Hcnt.out _).mono ?_); rintro e w6 ⟨rfl, hbel6⟩))
                  go_meet
                  exact ⟨rfl, hIc.step hbel6⟩
              case rest =>
                obtain ⟨rfl, hIc2⟩ := hcut
                go_upto_if 151 with (fail)
                go_cut [151] (fun _ wc => ∃ (a3 : Nat) (b3 : Bool), RI w s g2 g4 g5 g13 k N got a3 parts b3 A c wc ∧ a3 ≤ s.size ∧ ((b3 = true ∧ Y = .error a3) ∨ (b3 = false ∧ (if got.length = 0 ∧ cnt = false then .ok a2 else if (bl s)[a2]? = some 44 then .ok (a2 + 1) else .error a2 : Except Nat Nat) = .ok a3)))
                case first =>
                  cases sg with
                  | false =>
                    go_wp2_with fail
                    go_meet
                    exact ⟨a2, false, hIc2, ha2, .inr ⟨rfl, by
                      have h := Hsg.out
                      simp only [Bool.or_eq_false_iff, decide_eq_false_iff_not] at h
                      rw [if_pos ⟨by rw [Hgl.out]; omega, h.2⟩]⟩⟩
                  | true =>
                    have hnz : ¬ (got.length = 0 ∧ cnt = false) := fun h => by
                      have h2 := Hsg.out
                      rw [h.2, Bool.or_false] at h2
                      have := of_decide_eq_true h2
                      have := Hgl.out
                      omega
                    have Hnz := Lib.hid hnz
                    clear hnz
                    by_cases h44 : (bl s)[a2]? = some 44
                    · have Hs := Lib.hid fun w => rsign_yes s hs a2 (parts : Nat) 44 44 rfl h44 w
                      have H44 := Lib.hid h44
                      clear h44
                      go_wp2_with (first
                        | ((with_reducible refine gate_dst (N := 152) rfl ?_); refine wpList_load_row rfl 71 _ rfl g2 rfl 71 _ (0, 0) _ hIc2.1 Tryd.underlying71 rfl (by kernel_rfl) ?_)
                        | (go_at_call 58; (with_reducible refine (Hs.out _).mono ?_); rintro e w6 ⟨rfl, hbel6⟩; have hI6 := hIc2.step hbel6)
                        | ((with_reducible refine gate_store (t := 71) (p := 2) rfl ?_); refine store_row_event rfl rfl rfl rfl hI6.1 (by kernel_rfl) rfl (by kernel_rfl) ?_; intro w7 hb7 hg7))
                      go_meet
                      exact ⟨a2 + 1, false, hI6.read hw2 h24 h25 h213 hb7 hg7, by have := bl_lt_size H44.out; omega, .inr ⟨rfl, by rw [if_neg Hnz.out, if_pos H44.out]⟩⟩
                    · have Hs := Lib.hid fun w => rsign_no s hs a2 (parts : Nat) 44 44 rfl h44 w
                      have H44 := Lib.hid h44
                      clear h44
                      go_wp2_with (first
                        | ((with_reducible refine gate_dst (N := 152) rfl ?_); refine wpList_load_row rfl 71 _ rfl g2 rfl 71 _ (0, 0) _ hIc2.1 Tryd.underlying71 rfl (by kernel_rfl) ?_)
                        | (go_at_call 58; (with_reducible refine (Hs.out _).mono ?_); rintro e w6 ⟨rfl, hbel6⟩; have hI6 := hIc2.step hbel6)
                        | ((with_reducible refine gate_store (t := 71) (p := 2) rfl ?_); refine store_row_event rfl rfl rfl rfl hI6.1 (by kernel_rfl) rfl (by kernel_rfl) ?_; intro w7 hb7 hg7))
                      go_meet
                      exact ⟨a2, true, hI6.read hw2 h24 h25 h213 hb7 hg7, ha2, .inl ⟨rfl, by rw [HYi.out, itemsGo, if_neg Hno.out, if_neg Hnz.out, if_neg H44.out]⟩⟩
                case rest =>
                  obtain ⟨a3, b3, hIc3, ha3, hrel3⟩ := hcut
                  have hstep : (b3 = true ∧ Y = .error a3) ∨ (b3 = false ∧ ∀ x, valueF fuel (bl s) (nextM k i) a3 parts = x → match x with | .error e => Y = .error e | .ok (t, a, p) => Y = itemsGo (valueF fuel (bl s)) (bl s) cnt least f0 f1 left (got ++ [t]) a p) := by
                    rcases hrel3 with h | ⟨rfl, h⟩
                    · exact .inl h
                    · refine .inr ⟨rfl, fun x hx => ?_⟩
                      have hnm : nextM k i = if got.length = 0 then f0 else f1 := by rw [Hnm.out, Hgl.out]
                      rw [hnm] at hx
                      cases x with
                      | error e => dsimp only; rw [HYi.out, items_bad Hno.out h hx]
                      | ok x => obtain ⟨t, a, p⟩ := x; dsimp only; rw [HYi.out, items_step Hno.out h hx]
                  have Hcall := Lib.hid fun W => step_said ih hs (Y := Y) (Z := fun t a p => itemsGo (valueF fuel (bl s)) (bl s) cnt least f0 f1 left (got ++ [t]) a p) (nextM k i) (Hnext.out i) a3 parts b3 ha3 hparts (by omega) hstep W
                  clear hstep hrel3 hIc hIc2 HYi Hno Hsg
                  go_upto_if 156 with (fail)
                  go_cut [22] (fun s22 wc => s22 = .int .i64 (nextM k i : Nat) ∧ RI w s g2 g4 g5 g13 k N got a3 parts b3 A c wc)
                  case first =>
                    by_cases hi0 : i = 0
                    · have hnx : nextM k i = f0 := by rw [Hnm.out, if_pos hi0]
                      have Hnx := Lib.hid hnx
                      clear hnx Hcall
                      go_wp2_with fail
                      go_meet
                      exact ⟨by rw [Hnx.out], hIc3⟩
                    · have hnx : nextM k i = f1 := by rw [Hnm.out, if_neg hi0]
                      have Hnx := Lib.hid hnx
                      clear hnx Hcall
                      go_wp2_with fail
                      go_meet
                      exact ⟨by rw [Hnx.out], hIc3⟩
                  case rest =>
                    obtain ⟨rfl, hIc4⟩ := hcut
                    generalize nextM k i = mx at *
                    have z2 := blk_lt hIc4.1
                    have z13 := blk_lt hIc4.2.1
                    have z4 := blk_lt hIc4.2.2.2.1
                    have z5 := blk_lt hIc4.2.2.2.2.1
                    have hwc := hIc4.2.2.2.2.2.size
                    have zo := Kd.R_lt hIc4.2.2.1
                    have hK0 := hIc4.2.2.1.1
                    have hne2 : some g2 ≠ (Value.slice A got.length c).ownBlock := fun e => (hK0 g2 e.symm).1 rfl
                    have hne4 : some g4 ≠ (Value.slice A got.length c).ownBlock := fun e => (hK0 g4 e.symm).2.1 rfl
                    have hne5 : some g5 ≠ (Value.slice A got.length c).ownBlock := fun e => (hK0 g5 e.symm).2.2.1 rfl
                    have hne13 : some g13 ≠ (Value.slice A got.length c).ownBlock := fun e => (hK0 g13 e.symm).2.2.2 rfl
                    have hl16 : (got.length + 1) * 40 ≤ 140737488355328 := by have := Hgl.out; omega
                    clear hK0
                    go_wp2_with (first
                      | ((with_reducible refine gate_dst (N := 159) rfl ?_); refine wpList_load_row rfl 71 _ rfl g2 rfl 71 _ (0, 0) _ hIc4.1 Tryd.underlying71 rfl (by kernel_rfl) ?_)
                      | (go_at_call 30; (with_reducible refine (Hcall.out _).mono ?_); rintro e w5 ⟨t, a4, p4, b4, A4, c4, rfl, hR5, hbel5, hrel5⟩; have hI5 := hIc4.step hbel5; have Hrel5 := Lib.hid hrel5; clear hrel5)
                      | ((with_reducible refine gate_dst (N := 23) rfl ?_); refine box_event rfl (N := 23) rfl (cs := #[.string ⟨#[]⟩, .int .i64 0, .int .i64 0, .bool false]) (t := 71) (by kernel_rfl) ?_; intro g23 hgg23 w6 hb6 hbel6; have hgeg23 : w5.heap.size ≤ g23 := Nat.le_of_eq hgg23.symm; clear hgg23)
                      | ((with_reducible refine gate_dst (N := 24) rfl ?_); refine box_event rfl (N := 24) rfl (cs := val0) (t := 26) (by kernel_rfl) ?_; intro g24 hgg24 w7 hb7 hbel7; have hgeg24 : w6.heap.size ≤ g24 := Nat.le_of_eq hgg24.symm; clear hgg24; have hb67 := blk_below hb6 hbel7; have hlt23 := blk_lt hb6)
                      | ((with_reducible refine gate_store (t := 71) (p := 23) rfl ?_); refine store_row_event rfl rfl rfl rfl hb67 (by kernel_rfl) rfl (by kernel_rfl) ?_; intro w8 hb8 hg8; have hb78 : Blk w8 g24 26 val0 := blk_grown hb7 hg8 (by have : g24 ≠ g23 := (by omega); simpa using this))
                      | ((with_reducible refine gate_store (t := 26) (p := 24) rfl ?_); refine store_row_event rfl rfl rfl rfl hb78 (by kernel_rfl) rfl (by kernel_rfl) ?_; intro w9 hb9 hg9; have hb89 := blk_grown hb8 hg9 (by have : g23 ≠ g24 := (by omega); simpa using this); have s56 := hbel6.size; have s67 := hbel7.size; have B57 : Below w5.heap.size w5 w7 := below_step hbel6 hbel7; have B58 : Below w5.heap.size w5 w8 := B57.grown hg8 B57.size (by rintro k ⟨⟩; exact hgeg23); have B59 : Below w5.heap.size w5 w9 := B58.grown hg9 B58.size (by rintro k ⟨⟩; omega); have hI9 := hI5.step B59; have hR9 := Kd.R_below hR5 B59; have d23 : g24 ≠ g2 := (by have := blk_lt hI5.1; omega); clear hb67 hb78 hb6 hb7 hb8)
                      | ((with_reducible refine gate_dst (N := 164) rfl ?_); refine wpList_load_row rfl 71 _ rfl g23 rfl 71 _ (0, 0) _ hb89 Tryd.underlying71 rfl (by kernel_rfl) ?_)
                      | ((with_reducible refine gate_store (t := 71) (p := 2) rfl ?_); refine store_row_event rfl rfl rfl rfl hI9.1 (by kernel_rfl) rfl (by kernel_rfl) ?_; intro w10 hb10 hg10; have hI10 : RI w s g2 g4 g5 g13 k N got a4 p4 b4 A c w10 := hI9.read hw2 h24 h25 h213 hb10 hg10; have hb910 := blk_grown hb9 hg10 (by simpa using d23); have q13 : w10.cell? ⟨g13, 2, none⟩ = some (.slice A got.length c) := Blk.cell hI10.2.1 2; have s59 := B59.size; have s910 := hg10.size; have s45 := hbel5.size; have hKb := Kd.R_grown (Kd.R_bound hR9) hg10 (fun j hj e => by injection e with e; have := hj.2.1; omega); have hMt := k26_mkM w10 w.heap.size _ t (Kd.R_lower hKb hwc))
                      | ((with_reducible refine gate_dst (N := 167) rfl ?_); refine wpList_load_row rfl 26 _ rfl g24 rfl 26 _ (0, 0) _ hb910 Tryd.underlying26 rfl (by kernel_rfl) ?_)
                      | ((with_reducible refine gate_dst (N := 169) rfl ?_); refine Kd.R_append k26 (w0 := w) (W := w10) w.heap.size rfl (.tmp 166) (.tmp 168) 24 26 (.agg #[.int .i64 0, .int .i64 0, .slice none 0 0]) 40 rfl Tryd.underlying24 info26 rfl (by decide) (by omega) (.slice A got.length c) got t [.int .i64 t.f0, .int .i64 t.f1, .slice A4 t.f2.length c4] (fun q => q ≠ g2 ∧ q ≠ g4 ∧ q ≠ g5 ∧ q ≠ g13) _ rfl rfl hMt (fun q hq => ⟨⟨by have := hq.2.1; omega, by have := hq.2.1; omega, by have := hq.2.1; omega, by have := hq.2.1; omega⟩, fun e => by have := zo q e.symm; have := hq.2.1; omega⟩) (fun q hq => ⟨by omega, by omega, by omega, by omega⟩) hI10.2.2.1 hI10.2.2.2.2.2 (by omega) hl16 ?_; intro v12 w12 hR12 hBel12 hg12 hat12; have hlen : (got ++ [t]).length = got.length + 1 := (by simp); obtain ⟨A12, c12, hv12⟩ := Kd.R_slice hR12; rw [hlen] at hv12; subst hv12; have hb1312 := blk_grown hI10.2.1 hg12 hne13)
                      | ((with_reducible refine gate_store (t := 24) (p := 170) rfl ?_); refine store_cell_event rfl rfl rfl rfl hb1312 rfl (by kernel_rfl) rfl rfl ?_; intro w13 hb1313 hg13))
                    have h13n : Blk w13 g13 26 #[.int .i64 k, .int .i64 N, .slice A12 (got ++ [t]).length c12] := by rw [hlen]; exact hb1313
                    have hIn : RI w s g2 g4 g5 g13 k N (got ++ [t]) a4 p4 b4 A12 c12 w13 := by
                      refine ⟨blk_grown (blk_grown hI10.1 hg12 hne2) hg13 (by simpa using h213.symm), h13n, ?_, blk_grown (blk_grown hI10.2.2.2.1 hg12 hne4) hg13 (by simpa using h413.symm), blk_grown (blk_grown hI10.2.2.2.2.1 hg12 hne5) hg13 (by simpa using h513.symm), hBel12.grown hg13 hBel12.size (by rintro k ⟨⟩; exact hw13)⟩
                      rw [hlen]
                      exact Kd.R_grown hR12 hg13 (fun j hj e => by injection e with e; exact hj.2.2.2 e)
                    go_roundw
                    case rel => exact ⟨i + 1, got ++ [t], a4, p4, b4, A12, c12, by go_num, by omega, by rw [hlen, Hgl.out], hIn, Hrel5.out.imp id fun h => ⟨h.1, by rw [Hle2.out]; exact h.2.1, h.2.2.1, h.2.2.2.1, by have := h.2.2.2.2; omega⟩⟩
                    case measure => simp [intOf]; omega
      · clear hgl
        have hYd : (b2 = true ∧ Y = .error a2) ∨ (b2 = false ∧ Y = .ok (got, a2, parts) ∧ a2 ≤ s.size) := by
          rcases hrel2 with h | ⟨h, h2, h3, _⟩
          · exact .inl h
          · refine .inr ⟨h, ?_, h3⟩
            rw [h2, show most - i = 0 from by omega, itemsGo]
        have HYd := Lib.hid hYd
        clear hYd hrel2
        go_wp2_with fail
        go_meet
        exact ⟨got, a2, parts, b2, A, c, hIr, HYd.out⟩
  case rest =>
    obtain ⟨got, a2, parts, b2, A, c, hIc, hrel⟩ := hcut
    have Hrel := Lib.hid hrel
    clear hrel hI1
    go_wp2_with fail
    cases b2 with
    | true =>
      refine draw_beginN (fun W' => Blk W' g2 71 #[.string s, .int .i64 a2, .int .i64 parts, .bool true] ∧ Blk W' g13 26 #[.int .i64 k, .int .i64 N, .slice A got.length c]) (fun _ => false) (by kernel_rfl) (n := 5) rfl rfl ?_
      intro W0 _hWh hWg
      clear _hWh
      have hI0 := hIc.step (below_of_grown0 hWg)
      have HS : Blk W0 g2 71 #[.string s, .int .i64 a2, .int .i64 parts, .bool true] ∧ Blk W0 g13 26 #[.int .i64 k, .int .i64 N, .slice A got.length c] := ⟨hI0.1, hI0.2.1⟩
      refine draw_take (i := 0) (l2 := #[true, false, false, false, false]) (v := .agg #[.string s, .int .i64 a2, .int .i64 parts, .bool true]) rfl (by kernel_rfl) (by kernel_rfl) (by kernel_rfl) (by kernel_rfl) (by kernel_rfl) (fun _ _ _ h => h) (.inl ⟨by kernel_rfl, fun W' hS => ?_⟩) HS ?_
      · exact run_load_row rfl (by kernel_rfl) (run_loadVar_row (P := Tryd.prog) W' g2 71 71 #[.string s, .int .i64 a2, .int .i64 parts, .bool true] (0, 0) _ hS.1 Tryd.underlying71 rfl (by kernel_rfl))
      refine draw_take (i := 2) (l2 := #[true, false, true, false, false]) (v := .agg #[.int .i64 k, .int .i64 N, .slice A got.length c]) rfl (by kernel_rfl) (by kernel_rfl) (by kernel_rfl) (by kernel_rfl) (by kernel_rfl) (fun _ _ _ h => h) (.inl ⟨by kernel_rfl, fun W' hS => ?_⟩) HS ?_
      · exact run_load_row rfl (by kernel_rfl) (run_loadVar_row (P := Tryd.prog) W' g13 26 26 #[.int .i64 k, .int .i64 N, .slice A got.length c] (0, 0) _ hS.2 Tryd.underlying26 rfl (by kernel_rfl))
      refine draw_call (i := 1) (l2 := #[true, true, true, false, false]) ?h1_r ?h1_l (show _ from rfl) ?h1_w ?h1_run (rsign_was s a2 (parts : Nat) 41 _) ?h1_k ?h1_p ?h1_o
      case h1_r => kernel_rfl
      case h1_l => kernel_rfl
      case h1_w => kernel_rfl
      case h1_run => kernel_rfl
      case h1_o => exact (fun W1 h => by cases h.1)
      case h1_p => exact (fun c W1 h => by cases h.1)
      intro v1 W1 h
      obtain ⟨h1, hB01⟩ := h
      injection h1 with h1
      subst h1
      have hIa := hI0.step hB01
      refine ⟨⟨hIa.1, hIa.2.1⟩, ?_⟩
      refine draw_store_row (i := 3) (l2 := #[true, true, true, true, false]) (cells := #[.string s, .int .i64 a2, .int .i64 parts, .bool true]) (by kernel_rfl) (by kernel_rfl) rfl (by kernel_rfl) rfl (by kernel_rfl) hIa.2.2.2.1 (by kernel_rfl) rfl (by kernel_rfl) rfl ?_
      intro W2 hb4c hgr1
      have S1 : Blk W2 g2 71 #[.string s, .int .i64 a2, .int .i64 parts, .bool true] := blk_grown hIa.1 hgr1 (by simpa using h24.symm)
      have S2 : Blk W2 g13 26 #[.int .i64 k, .int .i64 N, .slice A got.length c] := blk_grown hIa.2.1 hgr1 (by simpa using h413)
      have hb5c := blk_grown hIa.2.2.2.2.1 hgr1 (by simpa using h45)
      have hBc := hIa.2.2.2.2.2.grown hgr1 hIa.2.2.2.2.2.size (by rintro k ⟨⟩; exact hw4)
      have hKc := Kd.R_grown hIa.2.2.1 hgr1 (fun j hj e => by injection e with e; exact hj.2.1 e)
      refine ⟨⟨S1, S2⟩, ?_⟩
      refine draw_store_row (i := 4) (l2 := #[true, true, true, true, true]) (cells := #[.int .i64 k, .int .i64 N, .slice A got.length c]) (by kernel_rfl) (by kernel_rfl) rfl (by kernel_rfl) rfl (by kernel_rfl) hb5c (by kernel_rfl) rfl (by kernel_rfl) rfl ?_
      intro W3 hb5d hgr2
      have hb4d := blk_grown hb4c hgr2 (by simpa using h45.symm)
      have hBd := hBc.grown hgr2 hBc.size (by rintro k ⟨⟩; exact hw5)
      have hKd := Kd.R_grown hKc hgr2 (fun j hj e => by injection e with e; exact hj.2.2.1 e)
      refine ⟨⟨blk_grown S1 hgr2 (by simpa using h25.symm), blk_grown S2 hgr2 (by simpa using h513)⟩, ?_⟩
      refine draw_doneN (by kernel_rfl) ?_
      clear HS S1 S2 hIa hb5c hb4c hI0
      go_simp
      go_wp2_with fail
      exact bodyPost_ret (rv_results hb4d rfl hb5d rfl rfl rfl) rfl ⟨⟨k, N, got⟩, a2, parts, true, .slice A got.length c, rfl, Kd.R_mono hKd (fun _ _ => trivial), hBd, by rcases Hrel.out with ⟨_, h⟩ | ⟨h, _⟩; (rw [HX.out, h]; exact ⟨rfl, rfl⟩); cases h⟩
    | false =>
      by_cases h41 : (bl s)[a2]? = some 41
      · have H41 := Lib.hid h41
        clear h41
        refine draw_beginN (fun W' => Blk W' g2 71 #[.string s, .int .i64 a2, .int .i64 parts, .bool false] ∧ Blk W' g13 26 #[.int .i64 k, .int .i64 N, .slice A got.length c]) (fun _ => false) (by kernel_rfl) (n := 5) rfl rfl ?_
        intro W0 _hWh hWg
        clear _hWh
        have hI0 := hIc.step (below_of_grown0 hWg)
        have HS : Blk W0 g2 71 #[.string s, .int .i64 a2, .int .i64 parts, .bool false] ∧ Blk W0 g13 26 #[.int .i64 k, .int .i64 N, .slice A got.length c] := ⟨hI0.1, hI0.2.1⟩
        refine draw_take (i := 0) (l2 := #[true, false, false, false, false]) (v := .agg #[.string s, .int .i64 a2, .int .i64 parts, .bool false]) rfl (by kernel_rfl) (by kernel_rfl) (by kernel_rfl) (by kernel_rfl) (by kernel_rfl) (fun _ _ _ h => h) (.inl ⟨by kernel_rfl, fun W' hS => ?_⟩) HS ?_
        · exact run_load_row rfl (by kernel_rfl) (run_loadVar_row (P := Tryd.prog) W' g2 71 71 #[.string s, .int .i64 a2, .int .i64 parts, .bool false] (0, 0) _ hS.1 Tryd.underlying71 rfl (by kernel_rfl))
        refine draw_take (i := 2) (l2 := #[true, false, true, false, false]) (v := .agg #[.int .i64 k, .int .i64 N, .slice A got.length c]) rfl (by kernel_rfl) (by kernel_rfl) (by kernel_rfl) (by kernel_rfl) (by kernel_rfl) (fun _ _ _ h => h) (.inl ⟨by kernel_rfl, fun W' hS => ?_⟩) HS ?_
        · exact run_load_row rfl (by kernel_rfl) (run_loadVar_row (P := Tryd.prog) W' g13 26 26 #[.int .i64 k, .int .i64 N, .slice A got.length c] (0, 0) _ hS.2 Tryd.underlying26 rfl (by kernel_rfl))
        refine draw_call (i := 1) (l2 := #[true, true, true, false, false]) ?h2_r ?h2_l (show _ from rfl) ?h2_w ?h2_run (rsign_yes s hs a2 (parts : Nat) 41 41 rfl H41.out _) ?h2_k ?h2_p ?h2_o
        case h2_r => kernel_rfl
        case h2_l => kernel_rfl
        case h2_w => kernel_rfl
        case h2_run => kernel_rfl
        case h2_o => exact (fun W1 h => by cases h.1)
        case h2_p => exact (fun c W1 h => by cases h.1)
        intro v1 W1 h
        obtain ⟨h1, hB01⟩ := h
        injection h1 with h1
        subst h1
        have hIa := hI0.step hB01
        refine ⟨⟨hIa.1, hIa.2.1⟩, ?_⟩
        refine draw_store_row (i := 3) (l2 := #[true, true, true, true, false]) (cells := #[.string s, .int .i64 (a2 + 1 : Nat), .int .i64 parts, .bool false]) (by kernel_rfl) (by kernel_rfl) rfl (by kernel_rfl) rfl (by kernel_rfl) hIa.2.2.2.1 (by kernel_rfl) rfl (by kernel_rfl) rfl ?_
        intro W2 hb4c hgr1
        have S1 : Blk W2 g2 71 #[.string s, .int .i64 a2, .int .i64 parts, .bool false] := blk_grown hIa.1 hgr1 (by simpa using h24.symm)
        have S2 : Blk W2 g13 26 #[.int .i64 k, .int .i64 N, .slice A got.length c] := blk_grown hIa.2.1 hgr1 (by simpa using h413)
        have hb5c := blk_grown hIa.2.2.2.2.1 hgr1 (by simpa using h45)
        have hBc := hIa.2.2.2.2.2.grown hgr1 hIa.2.2.2.2.2.size (by rintro k ⟨⟩; exact hw4)
        have hKc := Kd.R_grown hIa.2.2.1 hgr1 (fun j hj e => by injection e with e; exact hj.2.1 e)
        refine ⟨⟨S1, S2⟩, ?_⟩
        refine draw_store_row (i := 4) (l2 := #[true, true, true, true, true]) (cells := #[.int .i64 k, .int .i64 N, .slice A got.length c]) (by kernel_rfl) (by kernel_rfl) rfl (by kernel_rfl) rfl (by kernel_rfl) hb5c (by kernel_rfl) rfl (by kernel_rfl) rfl ?_
        intro W3 hb5d hgr2
        have hb4d := blk_grown hb4c hgr2 (by simpa using h45.symm)
        have hBd := hBc.grown hgr2 hBc.size (by rintro k ⟨⟩; exact hw5)
        have hKd := Kd.R_grown hKc hgr2 (fun j hj e => by injection e with e; exact hj.2.2.1 e)
        refine ⟨⟨blk_grown S1 hgr2 (by simpa using h25.symm), blk_grown S2 hgr2 (by simpa using h513)⟩, ?_⟩
        refine draw_doneN (by kernel_rfl) ?_
        clear HS S1 S2 hIa hb5c hb4c hI0
        go_simp
        go_wp2_with fail
        exact bodyPost_ret (rv_results hb4d rfl hb5d rfl rfl rfl) rfl ⟨⟨k, N, got⟩, a2 + 1, parts, false, .slice A got.length c, rfl, Kd.R_mono hKd (fun _ _ => trivial), hBd, by rcases Hrel.out with ⟨h, _⟩ | ⟨_, h, _⟩; cases h; (rw [HX.out, h]; unfold finishV; dsimp only; rw [if_pos H41.out]; exact ⟨rfl, rfl, rfl, rfl⟩)⟩
      · have H41 := Lib.hid h41
        clear h41
        refine draw_beginN (fun W' => Blk W' g2 71 #[.string s, .int .i64 a2, .int .i64 parts, .bool false] ∧ Blk W' g13 26 #[.int .i64 k, .int .i64 N, .slice A got.length c]) (fun _ => false) (by kernel_rfl) (n := 5) rfl rfl ?_
        intro W0 _hWh hWg
        clear _hWh
        have hI0 := hIc.step (below_of_grown0 hWg)
        have HS : Blk W0 g2 71 #[.string s, .int .i64 a2, .int .i64 parts, .bool false] ∧ Blk W0 g13 26 #[.int .i64 k, .int .i64 N, .slice A got.length c] := ⟨hI0.1, hI0.2.1⟩
        refine draw_take (i := 0) (l2 := #[true, false, false, false, false]) (v := .agg #[.string s, .int .i64 a2, .int .i64 parts, .bool false]) rfl (by kernel_rfl) (by kernel_rfl) (by kernel_rfl) (by kernel_rfl) (by kernel_rfl) (fun _ _ _ h => h) (.inl ⟨by kernel_rfl, fun W' hS => ?_⟩) HS ?_
        · exact run_load_row rfl (by kernel_rfl) (run_loadVar_row (P := Tryd.prog) W' g2 71 71 #[.string s, .int .i64 a2, .int .i64 parts, .bool false] (0, 0) _ hS.1 Tryd.underlying71 rfl (by kernel_rfl))
        refine draw_take (i := 2) (l2 := #[true, false, true, false, false]) (v := .agg #[.int .i64 k, .int .i64 N, .slice A got.length c]) rfl (by kernel_rfl) (by kernel_rfl) (by kernel_rfl) (by kernel_rfl) (by kernel_rfl) (fun _ _ _ h => h) (.inl ⟨by kernel_rfl, fun W' hS => ?_⟩) HS ?_
        · exact run_load_row rfl (by kernel_rfl) (run_loadVar_row (P := Tryd.prog) W' g13 26 26 #[.int .i64 k, .int .i64 N, .slice A got.length c] (0, 0) _ hS.2 Tryd.underlying26 rfl (by kernel_rfl))
        refine draw_call (i := 1) (l2 := #[true, true, true, false, false]) ?h3_r ?h3_l (show _ from rfl) ?h3_w ?h3_run (rsign_no s hs a2 (parts : Nat) 41 41 rfl H41.out _) ?h3_k ?h3_p ?h3_o
        case h3_r => kernel_rfl
        case h3_l => kernel_rfl
        case h3_w => kernel_rfl
        case h3_run => kernel_rfl
        case h3_o => exact (fun W1 h => by cases h.1)
        case h3_p => exact (fun c W1 h => by cases h.1)
        intro v1 W1 h
        obtain ⟨h1, hB01⟩ := h
        injection h1 with h1
        subst h1
        have hIa := hI0.step hB01
        refine ⟨⟨hIa.1, hIa.2.1⟩, ?_⟩
        refine draw_store_row (i := 3) (l2 := #[true, true, true, true, false]) (cells := #[.string s, .int .i64 a2, .int .i64 parts, .bool true]) (by kernel_rfl) (by kernel_rfl) rfl (by kernel_rfl) rfl (by kernel_rfl) hIa.2.2.2.1 (by kernel_rfl) rfl (by kernel_rfl) rfl ?_
        intro W2 hb4c hgr1
        have S1 : Blk W2 g2 71 #[.string s, .int .i64 a2, .int .i64 parts, .bool false] := blk_grown hIa.1 hgr1 (by simpa using h24.symm)
        have S2 : Blk W2 g13 26 #[.int .i64 k, .int .i64 N, .slice A got.length c] := blk_grown hIa.2.1 hgr1 (by simpa using h413)
        have hb5c := blk_grown hIa.2.2.2.2.1 hgr1 (by simpa using h45)
        have hBc := hIa.2.2.2.2.2.grown hgr1 hIa.2.2.2.2.2.size (by rintro k ⟨⟩; exact hw4)
        have hKc := Kd.R_grown hIa.2.2.1 hgr1 (fun j hj e => by injection e with e; exact hj.2.1 e)
        refine ⟨⟨S1, S2⟩, ?_⟩
        refine draw_store_row (i := 4) (l2 := #[true, true, true, true, true]) (cells := #[.int .i64 k, .int .i64 N, .slice A got.length c]) (by kernel_rfl) (by kernel_rfl) rfl (by kernel_rfl) rfl (by kernel_rfl) hb5c (by kernel_rfl) rfl (by kernel_rfl) rfl ?_
        intro W3 hb5d hgr2
        have hb4d := blk_grown hb4c hgr2 (by simpa using h45.symm)
        have hBd := hBc.grown hgr2 hBc.size (by rintro k ⟨⟩; exact hw5)
        have hKd := Kd.R_grown hKc hgr2 (fun j hj e => by injection e with e; exact hj.2.2.1 e)
        refine ⟨⟨blk_grown S1 hgr2 (by simpa using h25.symm), blk_grown S2 hgr2 (by simpa using h513)⟩, ?_⟩
        refine draw_doneN (by kernel_rfl) ?_
        clear HS S1 S2 hIa hb5c hb4c hI0
        go_simp
        go_wp2_with fail
        exact bodyPost_ret (rv_results hb4d rfl hb5d rfl rfl rfl) rfl ⟨⟨k, N, got⟩, a2, parts, true, .slice A got.length c, rfl, Kd.R_mono hKd (fun _ _ => trivial), hBd, by rcases Hrel.out with ⟨h, _⟩ | ⟨_, h, _⟩; cases h; (rw [HX.out, h]; unfold finishV; dsimp only; rw [if_neg H41.out]; exact ⟨rfl, rfl⟩)⟩
end Go.Proofs.YtfnekpgbfdhnmaaDoor

namespace Go.Proofs.YtfnekpgbfdhnmaaDoor
open Go.RowKit Go.Proofs.YtfnekpgbfdhnmaaDoorW.PrintWords Go.Proofs.YtfnekpgbfdhnmaaDoorW.PrintLast Go.Proofs.YtfnekpgbfdhnmaaDoorW.PrintMore Go.Proofs.YtfnekpgbfdhnmaaDoor.PAll
theorem rword_ok (m n0 : Nat) (s : ByteArray) (p : Int) (hm : m ≤ 2) (hs : s.size ≤ maxLen) (h0 : n0 ≤ s.size) {k d : Nat} (h : kindF m ((bl s).drop n0) = .ok (k, d)) (w : World) : Calls Tryd.prog 59 #[.agg #[.string s, .int .i64 n0, .int .i64 p, .bool false], .int .i64 m] w fun e w' => e = .returned (.tuple #[.agg #[.string s, .int .i64 ((n0 : Int) + d), .int .i64 p, .bool false], .int .i64 k]) ∧ Below w.heap.size w w' := by
  obtain ⟨K, hK⟩ := rword m n0 s p hm hs h0
  rw [h] at hK
  exact betrothalref05_reader_word.calls K s n0 p false m s _ p false k w hK
theorem rword_err (m n0 : Nat) (s : ByteArray) (p : Int) (hm : m ≤ 2) (hs : s.size ≤ maxLen) (h0 : n0 ≤ s.size) {f : Nat} (h : kindF m ((bl s).drop n0) = .error f) (w : World) : Calls Tryd.prog 59 #[.agg #[.string s, .int .i64 n0, .int .i64 p, .bool false], .int .i64 m] w fun e w' => e = .returned (.tuple #[.agg #[.string s, .int .i64 ((n0 : Int) + f), .int .i64 p, .bool true], .int .i64 0]) ∧ Below w.heap.size w w' := by
  obtain ⟨K, hK⟩ := rword m n0 s p hm hs h0
  rw [h] at hK
  exact betrothalref05_reader_word.calls K s n0 p false m s _ p true 0 w hK
theorem rsign_yes2 (s : ByteArray) (hs : s.size ≤ maxLen) (n d : Nat) (p : Int) (c : UInt8) (k : Int) (hk : k = c.toNat) (h : (bl s)[n + d]? = some c) (w : World) : Calls Tryd.prog 58 #[.agg #[.string s, .int .i64 ((n : Int) + d), .int .i64 p, .bool false], .int .u8 k] w fun e w' => e = .returned (.agg #[.string s, .int .i64 ((n : Int) + d + 1), .int .i64 p, .bool false]) ∧ Below w.heap.size w w' := rsign_yes s hs (n + d) p c k hk h w
theorem rsign_no2 (s : ByteArray) (hs : s.size ≤ maxLen) (n d : Nat) (p : Int) (c : UInt8) (k : Int) (hk : k = c.toNat) (h : ¬ (bl s)[n + d]? = some c) (w : World) : Calls Tryd.prog 58 #[.agg #[.string s, .int .i64 ((n : Int) + d), .int .i64 p, .bool false], .int .u8 k] w fun e w' => e = .returned (.agg #[.string s, .int .i64 ((n : Int) + d), .int .i64 p, .bool true]) ∧ Below w.heap.size w w' := rsign_no s hs (n + d) p c k hk h w
theorem digitAt_false {l : List UInt8} {n : Nat} (h : ¬ (48 ≤ (l.getD n 0).toNat ∧ (l.getD n 0).toNat ≤ 57)) : (digitAt l n).2 = false := by
  unfold digitAt
  cases hc : l[n]? with
  | none => rfl
  | some c =>
    dsimp only
    have : l.getD n 0 = c := by rw [List.getD_eq_getElem?_getD, hc]; rfl
    rw [this] at h
    rw [if_neg h]
set_option maxRecDepth 100000 in
set_option maxHeartbeats 16000000 in
theorem rv_word (fuel : Nat) (ih : RefValSaid fuel) (m n p : Nat) (s : ByteArray) (w : World) (hm : m ≤ 2) (hn : n < s.size) (hs : s.size ≤ maxLen) (hp : p < 256) (hf : 256 ≤ fuel + p)
    (hnd : ¬ (m = 0 ∧ 48 ≤ ((bl s).getD n 0).toNat ∧ ((bl s).getD n 0).toNat ≤ 57)) (hnm : ¬ (m = 0 ∧ (bl s).getD n 0 = 45)) :
    Calls Tryd.prog 30 #[.agg #[.string s, .int .i64 n, .int .i64 p, .bool false], .int .i64 m] w (RVPost w s (valueF (fuel + 1) (bl s) m n p)) := by
  obtain ⟨X, hX⟩ : ∃ X, valueF (fuel + 1) (bl s) m n p = X := ⟨_, rfl⟩
  rw [hX]
  have hX1 : X = match kindF m ((bl s).drop n) with | .error far => .error (n + far) | .ok (k, d) => valBody fuel (bl s) n p k d := by
    rw [← hX, valueF, if_neg (by rw [bl_length]; omega), if_neg hnd, if_neg hnm]; rfl
  clear hX
  obtain ⟨D, B, hdig⟩ : ∃ D B, digitAt (bl s) n = (D, B) := ⟨_, _, rfl⟩
  have hB : m = 0 → B = false := fun h => by
    have := digitAt_false (l := bl s) (n := n) (fun h2 => hnd ⟨h, h2⟩)
    rw [hdig] at this
    exact this
  have hmin : m = 0 → decide ((bl s)[n]? = some 45) = false := fun h => decide_eq_false fun h2 => hnm ⟨h, by rw [List.getD_eq_getElem?_getD, h2]; rfl⟩
  have Hdig := Lib.hid hdig
  have HB := Lib.hid hB
  have Hmin := Lib.hid hmin
  have HX1 := Lib.hid hX1
  clear hdig hB hmin hX1 hnd hnm
  go_enter Tryd.func30, Tryd.ntmps30
  go_upto_region 6 with (first
    | ((with_reducible refine gate_dst (N := 2) rfl ?_); refine box_event rfl (N := 2) rfl (cs := #[.string s, .int .i64 n, .int .i64 p, .bool false]) (t := 71) (by kernel_rfl) ?_; intro g2 hgg2 w1 hb1 hbel1; have hgeg2 : w.heap.size ≤ g2 := Nat.le_of_eq hgg2.symm; clear hgg2)
    | ((with_reducible refine gate_dst (N := 4) rfl ?_); refine box_event rfl (N := 4) rfl (cs := #[.string ⟨#[]⟩, .int .i64 0, .int .i64 0, .bool false]) (t := 71) (by kernel_rfl) ?_; intro g4 hgg4 w2 hb2 hbel2; have hgeg4 : w1.heap.size ≤ g4 := Nat.le_of_eq hgg4.symm; clear hgg4)
    | ((with_reducible refine gate_dst (N := 5) rfl ?_); refine box_event rfl (N := 5) rfl (cs := val0) (t := 26) (by kernel_rfl) ?_; intro g5 hgg5 w3 hb3 hbel3; have hgeg5 : w2.heap.size ≤ g5 := Nat.le_of_eq hgg5.symm; clear hgg5; have hb23 := blk_below (blk_below hb1 hbel2) hbel3; have hb43 := blk_below hb2 hbel3; have hB3 : Below w.heap.size w w3 := below_step (below_step hbel1 hbel2) hbel3; have l2 := blk_lt hb1; have l4 := blk_lt hb2; have h24 : g4 ≠ g2 := (by omega); have h25 : g5 ≠ g2 := (by have := hbel2.size; omega); have h45 : g5 ≠ g4 := (by omega); have hw2 : w.heap.size ≤ g2 := hgeg2; have hw4 : w.heap.size ≤ g4 := (by have := hbel1.size; omega); have hw5 : w.heap.size ≤ g5 := (by have := hbel1.size; have := hbel2.size; omega); have m4 : g4 < w3.heap.size := blk_lt hb43; have m2 : g2 < w3.heap.size := blk_lt hb23; have m5 : g5 < w3.heap.size := blk_lt hb3; clear l2 l4 hbel1 hbel2 hbel3 hgeg2 hgeg4 hgeg5 hb1 hb2; have q0 : w3.cell? ⟨g2, 0, none⟩ = some (.string s) := Blk.cell hb23 0; have q1 : w3.cell? ⟨g2, 1, none⟩ = some (.int .i64 n) := Blk.cell hb23 1; have q2 : w3.cell? ⟨g2, 2, none⟩ = some (.int .i64 p) := Blk.cell hb23 2; have q3 : w3.cell? ⟨g2, 3, none⟩ = some (.bool false) := Blk.cell hb23 3)
    | ((with_reducible refine gate_store (t := 3) (p := 46) rfl ?_); refine store_cell_event rfl rfl rfl rfl hb23 rfl (by kernel_rfl) rfl rfl ?_; intro w4 hb24 hgr4; have hb44 := blk_grown hb43 hgr4 (by simpa using h24); have hb54 := blk_grown hb3 hgr4 (by simpa using h25); have hB4 : Below w.heap.size w w4 := hB3.grown hgr4 hB3.size (by rintro k ⟨⟩; exact hw2); clear q0 q1 q2 q3 hb23 hb43 hb3 hB3)
    | ((with_reducible refine gate_dst (N := 48) rfl ?_); refine wpList_load_row rfl 71 _ rfl g2 rfl 71 _ (0, 0) _ hb24 Tryd.underlying71 rfl (by kernel_rfl) ?_)
    | (go_at_call 55; (with_reducible refine (rdigit_calls s n ((p : Int) + 1) false Hdig.out _).mono ?_); rintro e w5 ⟨rfl, hbel5⟩; have hb25 := blk_below hb24 hbel5; have hb45 := blk_below hb44 hbel5; have hb55 := blk_below hb54 hbel5; have hB5 : Below w.heap.size w w5 := below_step hB4 hbel5; clear hb24 hb44 hb54))
  go_cut [60] (fun s60 wc => s60 = .bool false ∧ Blk wc g2 71 #[.string s, .int .i64 n, .int .i64 ((p : Int) + 1), .bool false] ∧ Blk wc g4 71 #[.string ⟨#[]⟩, .int .i64 0, .int .i64 0, .bool false] ∧ Blk wc g5 26 val0 ∧ Below w.heap.size w wc)
  case first =>
    by_cases hm0 : m = 0
    · have hBf := HB.out hm0
      subst hBf
      have Hm := Lib.hid (Hmin.out hm0)
      subst hm0
      go_wp2_with (first
        | ((with_reducible refine gate_dst (N := 57) rfl ?_); refine load_row_guarded (by kernel_rfl) rfl rfl (run_loadVar_row (P := Tryd.prog) _ g2 71 71 _ (0, 0) _ hb25 Tryd.underlying71 rfl (by kernel_rfl)) ?_)
        | (go_at_call 56; (with_reducible refine (ris_calls s n ((p : Int) + 1) false 45 45 rfl Hm.out _).mono ?_); rintro e w6 ⟨rfl, hbel6⟩))
      go_meet
      exact ⟨rfl, blk_below hb25 hbel6, blk_below hb45 hbel6, blk_below hb55 hbel6, below_step hB5 hbel6⟩
    · go_wp2_with fail
      go_meet
      exact ⟨rfl, hb25, hb45, hb55, hB5⟩
  case rest =>
    obtain ⟨rfl, hb2c, hb4c, hb5c, hBc⟩ := hcut
    clear hb25 hb45 hb55 hB5 hbel5 hgr4 hB4 Hdig HB Hmin
    cases hk : kindF m ((bl s).drop n) with
    | error far =>
      have Hw := Lib.hid fun w => rword_err m n s ((p : Int) + 1) hm hs (by omega) hk w
      have HX : Hid (X = .error (n + far)) := Lib.hid (by rw [HX1.out, hk])
      clear hk HX1
      go_wp2_with (first
        | ((with_reducible refine gate_dst (N := 83) rfl ?_); refine wpList_load_row rfl 71 _ rfl g2 rfl 71 _ (0, 0) _ hb2c Tryd.underlying71 rfl (by kernel_rfl) ?_)
        | (go_at_call 59; (with_reducible refine (Hw.out _).mono ?_); rintro e w5 ⟨rfl, hbel5⟩; have hb25 := blk_below hb2c hbel5; have hb45 := blk_below hb4c hbel5; have hb55 := blk_below hb5c hbel5; have hB5 : Below w.heap.size w w5 := below_step hBc hbel5; have m2 := blk_lt hb25; have m4 := blk_lt hb45; have m5 := blk_lt hb55)
        | ((with_reducible refine gate_store (t := 71) (p := 2) rfl ?_); refine store_row_event rfl rfl rfl rfl hb25 (by kernel_rfl) rfl (by kernel_rfl) ?_; intro w6 hb26 hg6; have hb46 := blk_grown hb45 hg6 (by simpa using h24); have hb56 := blk_grown hb55 hg6 (by simpa using h25); have hB6 : Below w.heap.size w w6 := hB5.grown hg6 hB5.size (by rintro k ⟨⟩; exact hw2); have s56 := hg6.size; clear hb25 hb45 hb55)
        | ((with_reducible refine gate_dst (N := 13) rfl ?_); refine box_event rfl (N := 13) rfl (cs := val0) (t := 26) (by kernel_rfl) ?_; intro g13 hgg13 w7 hb137 hbel7; have hgeg13 : w6.heap.size ≤ g13 := Nat.le_of_eq hgg13.symm; clear hgg13; have hb27 := blk_below hb26 hbel7; have hb47 := blk_below hb46 hbel7; have hb57 := blk_below hb56 hbel7; have hB7 : Below w.heap.size w w7 := below_step hB6 hbel7; have h213 : g13 ≠ g2 := (by omega); have h413 : g13 ≠ g4 := (by omega); have h513 : g13 ≠ g5 := (by omega); have hw13 : w.heap.size ≤ g13 := (by have := hB6.size; omega); clear hb26 hb46 hb56 hgeg13 m2 m4 m5 s56)
        | ((with_reducible refine gate_store (t := 26) (p := 13) rfl ?_); refine store_row_event rfl rfl rfl rfl hb137 (by kernel_rfl) rfl (by kernel_rfl) ?_; intro w8 hb138 hg8; have hb28 := blk_grown hb27 hg8 (by simpa using h213.symm); have hb48 := blk_grown hb47 hg8 (by simpa using h413.symm); have hb58 := blk_grown hb57 hg8 (by simpa using h513.symm); have hB8 : Below w.heap.size w w8 := hB7.grown hg8 hB7.size (by rintro k ⟨⟩; exact hw13); have q3 : w8.cell? ⟨g2, 3, none⟩ = some (.bool true) := Blk.cell hb28 3; clear hb27 hb47 hb57 hb137))
      refine draw_beginN (fun W' => Blk W' g2 71 #[.string s, .int .i64 ((n : Int) + far), .int .i64 ((p : Int) + 1), .bool true] ∧ Blk W' g13 26 #[.int .i64 0, .int .i64 0, .slice none 0 0]) (fun _ => false) (by kernel_rfl) (n := 4) rfl rfl ?_
      intro W0 _hWh hWg
      clear _hWh
      have HS : Blk W0 g2 71 #[.string s, .int .i64 ((n : Int) + far), .int .i64 ((p : Int) + 1), .bool true] ∧ Blk W0 g13 26 #[.int .i64 0, .int .i64 0, .slice none 0 0] := ⟨blk_grown hb28 hWg (by simp), blk_grown hb138 hWg (by simp)⟩
      have hb4W := blk_grown hb48 hWg (by simp)
      have hb5W := blk_grown hb58 hWg (by simp)
      have hBW : Below w.heap.size w W0 := hB8.grown hWg hB8.size (by rintro k ⟨⟩)
      refine draw_take (i := 0) (l2 := #[true, false, false, false]) (v := .agg #[.string s, .int .i64 ((n : Int) + far), .int .i64 ((p : Int) + 1), .bool true]) rfl (by kernel_rfl) (by kernel_rfl) (by kernel_rfl) (by kernel_rfl) (by kernel_rfl) (fun _ _ _ h => h) (.inl ⟨by kernel_rfl, fun W' hS => ?_⟩) HS ?_
      · exact run_load_row rfl (by kernel_rfl) (run_loadVar_row (P := Tryd.prog) W' g2 71 71 #[.string s, .int .i64 ((n : Int) + far), .int .i64 ((p : Int) + 1), .bool true] (0, 0) _ hS.1 Tryd.underlying71 rfl (by kernel_rfl))
      refine draw_take (i := 1) (l2 := #[true, true, false, false]) (v := .agg #[.int .i64 0, .int .i64 0, .slice none 0 0]) rfl (by kernel_rfl) (by kernel_rfl) (by kernel_rfl) (by kernel_rfl) (by kernel_rfl) (fun _ _ _ h => h) (.inl ⟨by kernel_rfl, fun W' hS => ?_⟩) HS ?_
      · exact run_load_row rfl (by kernel_rfl) (run_loadVar_row (P := Tryd.prog) W' g13 26 26 #[.int .i64 0, .int .i64 0, .slice none 0 0] (0, 0) _ hS.2 Tryd.underlying26 rfl (by kernel_rfl))
      refine draw_store_row (i := 2) (l2 := #[true, true, true, false]) (cells := #[.string s, .int .i64 ((n : Int) + far), .int .i64 ((p : Int) + 1), .bool true]) (by kernel_rfl) (by kernel_rfl) rfl (by kernel_rfl) rfl (by kernel_rfl) hb4W (by kernel_rfl) rfl (by kernel_rfl) rfl ?_
      intro W2 hb4x hgr1
      have S1 : Blk W2 g2 71 #[.string s, .int .i64 ((n : Int) + far), .int .i64 ((p : Int) + 1), .bool true] := blk_grown HS.1 hgr1 (by simpa using h24.symm)
      have S2 : Blk W2 g13 26 #[.int .i64 0, .int .i64 0, .slice none 0 0] := blk_grown HS.2 hgr1 (by simpa using h413)
      have hb5x := blk_grown hb5W hgr1 (by simpa using h45)
      have hBx : Below w.heap.size w W2 := hBW.grown hgr1 hBW.size (by rintro k ⟨⟩; exact hw4)
      refine ⟨⟨S1, S2⟩, ?_⟩
      refine draw_store_row (i := 3) (l2 := #[true, true, true, true]) (cells := #[.int .i64 0, .int .i64 0, .slice none 0 0]) (by kernel_rfl) (by kernel_rfl) rfl (by kernel_rfl) rfl (by kernel_rfl) hb5x (by kernel_rfl) rfl (by kernel_rfl) rfl ?_
      intro W3 hb5d hgr2
      have hb4d := blk_grown hb4x hgr2 (by simpa using h45.symm)
      have hBd : Below w.heap.size w W3 := hBx.grown hgr2 hBx.size (by rintro k ⟨⟩; exact hw5)
      refine ⟨⟨blk_grown S1 hgr2 (by simpa using h25.symm), blk_grown S2 hgr2 (by simpa using h513)⟩, ?_⟩
      refine draw_doneN (by kernel_rfl) ?_
      clear HS S1 S2 hb4W hb5W hb5x hb4x hb28 hb138 hb48 hb58
      go_simp
      go_wp2_with fail
      exact bodyPost_ret (rv_results hb4d rfl hb5d rfl rfl rfl) rfl ⟨⟨0, 0, []⟩, n + far, p + 1, true, .slice none 0 0, rfl, Kd.R_nil _ _ _ _ _, hBd, by rw [HX.out]; exact ⟨rfl, rfl⟩⟩
    | ok x =>
      obtain ⟨k, d⟩ := x
      obtain ⟨hk1, hk13, hk2, _, hdl, hd1⟩ := kindF_ok hk
      rw [List.length_drop, bl_length] at hdl
      have Hw := Lib.hid fun w => rword_ok m n s ((p : Int) + 1) hm hs (by omega) hk w
      have hXv : X = valBody fuel (bl s) n p k d := by rw [HX1.out, hk]
      clear hk HX1
      by_cases h18 : k = 1 ∨ k = 8
      · have HX : Hid (X = .ok (⟨k, 0, []⟩, n + d, p + 1)) := Lib.hid (by rw [hXv, valBody, if_pos h18])
        clear hXv
        rcases h18 with rfl | rfl
        · skip
          go_wp2_with (first
            | ((with_reducible refine gate_dst (N := 83) rfl ?_); refine wpList_load_row rfl 71 _ rfl g2 rfl 71 _ (0, 0) _ hb2c Tryd.underlying71 rfl (by kernel_rfl) ?_)
            | (go_at_call 59; (with_reducible refine (Hw.out _).mono ?_); rintro e w5 ⟨rfl, hbel5⟩; have hb25 := blk_below hb2c hbel5; have hb45 := blk_below hb4c hbel5; have hb55 := blk_below hb5c hbel5; have hB5 : Below w.heap.size w w5 := below_step hBc hbel5; have m2 := blk_lt hb25; have m4 := blk_lt hb45; have m5 := blk_lt hb55)
            | ((with_reducible refine gate_store (t := 71) (p := 2) rfl ?_); refine store_row_event rfl rfl rfl rfl hb25 (by kernel_rfl) rfl (by kernel_rfl) ?_; intro w6 hb26 hg6; have hb46 := blk_grown hb45 hg6 (by simpa using h24); have hb56 := blk_grown hb55 hg6 (by simpa using h25); have hB6 : Below w.heap.size w w6 := hB5.grown hg6 hB5.size (by rintro k ⟨⟩; exact hw2); have s56 := hg6.size; clear hb25 hb45 hb55)
            | ((with_reducible refine gate_dst (N := 13) rfl ?_); refine box_event rfl (N := 13) rfl (cs := val0) (t := 26) (by kernel_rfl) ?_; intro g13 hgg13 w7 hb137 hbel7; have hgeg13 : w6.heap.size ≤ g13 := Nat.le_of_eq hgg13.symm; clear hgg13; have hb27 := blk_below hb26 hbel7; have hb47 := blk_below hb46 hbel7; have hb57 := blk_below hb56 hbel7; have hB7 : Below w.heap.size w w7 := below_step hB6 hbel7; have h213 : g13 ≠ g2 := (by omega); have h413 : g13 ≠ g4 := (by omega); have h513 : g13 ≠ g5 := (by omega); have hw13 : w.heap.size ≤ g13 := (by have := hB6.size; omega); clear hb26 hb46 hb56 hgeg13 m2 m4 m5 s56)
            | ((with_reducible refine gate_store (t := 26) (p := 13) rfl ?_); refine store_row_event rfl rfl rfl rfl hb137 (by kernel_rfl) rfl (by kernel_rfl) ?_; intro w8 hb138 hg8; have hb28 := blk_grown hb27 hg8 (by simpa using h213.symm); have hb48 := blk_grown hb47 hg8 (by simpa using h413.symm); have hb58 := blk_grown hb57 hg8 (by simpa using h513.symm); have hB8 : Below w.heap.size w w8 := hB7.grown hg8 hB7.size (by rintro k ⟨⟩; exact hw13); have q3 : w8.cell? ⟨g2, 3, none⟩ = some (.bool false) := Blk.cell hb28 3; clear hb27 hb47 hb57 hb137))
          refine draw_beginN (fun W' => Blk W' g2 71 #[.string s, .int .i64 ((n : Int) + d), .int .i64 ((p : Int) + 1), .bool false] ∧ Blk W' g13 26 #[.int .i64 1, .int .i64 0, .slice none 0 0]) (fun _ => false) (by kernel_rfl) (n := 4) rfl rfl ?_
          intro W0 _hWh hWg
          clear _hWh
          have HS : Blk W0 g2 71 #[.string s, .int .i64 ((n : Int) + d), .int .i64 ((p : Int) + 1), .bool false] ∧ Blk W0 g13 26 #[.int .i64 1, .int .i64 0, .slice none 0 0] := ⟨blk_grown hb28 hWg (by simp), blk_grown hb138 hWg (by simp)⟩
          have hb4W := blk_grown hb48 hWg (by simp)
          have hb5W := blk_grown hb58 hWg (by simp)
          have hBW : Below w.heap.size w W0 := hB8.grown hWg hB8.size (by rintro k ⟨⟩)
          refine draw_take (i := 0) (l2 := #[true, false, false, false]) (v := .agg #[.string s, .int .i64 ((n : Int) + d), .int .i64 ((p : Int) + 1), .bool false]) rfl (by kernel_rfl) (by kernel_rfl) (by kernel_rfl) (by kernel_rfl) (by kernel_rfl) (fun _ _ _ h => h) (.inl ⟨by kernel_rfl, fun W' hS => ?_⟩) HS ?_
          · exact run_load_row rfl (by kernel_rfl) (run_loadVar_row (P := Tryd.prog) W' g2 71 71 #[.string s, .int .i64 ((n : Int) + d), .int .i64 ((p : Int) + 1), .bool false] (0, 0) _ hS.1 Tryd.underlying71 rfl (by kernel_rfl))
          refine draw_take (i := 1) (l2 := #[true, true, false, false]) (v := .agg #[.int .i64 1, .int .i64 0, .slice none 0 0]) rfl (by kernel_rfl) (by kernel_rfl) (by kernel_rfl) (by kernel_rfl) (by kernel_rfl) (fun _ _ _ h => h) (.inl ⟨by kernel_rfl, fun W' hS => ?_⟩) HS ?_
          · exact run_load_row rfl (by kernel_rfl) (run_loadVar_row (P := Tryd.prog) W' g13 26 26 #[.int .i64 1, .int .i64 0, .slice none 0 0] (0, 0) _ hS.2 Tryd.underlying26 rfl (by kernel_rfl))
          refine draw_store_row (i := 2) (l2 := #[true, true, true, false]) (cells := #[.string s, .int .i64 ((n : Int) + d), .int .i64 ((p : Int) + 1), .bool false]) (by kernel_rfl) (by kernel_rfl) rfl (by kernel_rfl) rfl (by kernel_rfl) hb4W (by kernel_rfl) rfl (by kernel_rfl) rfl ?_
          intro W2 hb4x hgr1
          have S1 : Blk W2 g2 71 #[.string s, .int .i64 ((n : Int) + d), .int .i64 ((p : Int) + 1), .bool false] := blk_grown HS.1 hgr1 (by simpa using h24.symm)
          have S2 : Blk W2 g13 26 #[.int .i64 1, .int .i64 0, .slice none 0 0] := blk_grown HS.2 hgr1 (by simpa using h413)
          have hb5x := blk_grown hb5W hgr1 (by simpa using h45)
          have hBx : Below w.heap.size w W2 := hBW.grown hgr1 hBW.size (by rintro k ⟨⟩; exact hw4)
          refine ⟨⟨S1, S2⟩, ?_⟩
          refine draw_store_row (i := 3) (l2 := #[true, true, true, true]) (cells := #[.int .i64 1, .int .i64 0, .slice none 0 0]) (by kernel_rfl) (by kernel_rfl) rfl (by kernel_rfl) rfl (by kernel_rfl) hb5x (by kernel_rfl) rfl (by kernel_rfl) rfl ?_
          intro W3 hb5d hgr2
          have hb4d := blk_grown hb4x hgr2 (by simpa using h45.symm)
          have hBd : Below w.heap.size w W3 := hBx.grown hgr2 hBx.size (by rintro k ⟨⟩; exact hw5)
          refine ⟨⟨blk_grown S1 hgr2 (by simpa using h25.symm), blk_grown S2 hgr2 (by simpa using h513)⟩, ?_⟩
          refine draw_doneN (by kernel_rfl) ?_
          clear HS S1 S2 hb4W hb5W hb5x hb4x hb28 hb138 hb48 hb58
          go_simp
          go_wp2_with fail
          exact bodyPost_ret (rv_results hb4d rfl hb5d rfl rfl rfl) rfl ⟨⟨1, 0, []⟩, n + d, p + 1, false, .slice none 0 0, rfl, Kd.R_nil _ _ _ _ _, hBd, by rw [HX.out]; exact ⟨rfl, rfl, rfl, rfl⟩⟩
        · skip
          go_wp2_with (first
            | ((with_reducible refine gate_dst (N := 83) rfl ?_); refine wpList_load_row rfl 71 _ rfl g2 rfl 71 _ (0, 0) _ hb2c Tryd.underlying71 rfl (by kernel_rfl) ?_)
            | (go_at_call 59; (with_reducible refine (Hw.out _).mono ?_); rintro e w5 ⟨rfl, hbel5⟩; have hb25 := blk_below hb2c hbel5; have hb45 := blk_below hb4c hbel5; have hb55 := blk_below hb5c hbel5; have hB5 : Below w.heap.size w w5 := below_step hBc hbel5; have m2 := blk_lt hb25; have m4 := blk_lt hb45; have m5 := blk_lt hb55)
            | ((with_reducible refine gate_store (t := 71) (p := 2) rfl ?_); refine store_row_event rfl rfl rfl rfl hb25 (by kernel_rfl) rfl (by kernel_rfl) ?_; intro w6 hb26 hg6; have hb46 := blk_grown hb45 hg6 (by simpa using h24); have hb56 := blk_grown hb55 hg6 (by simpa using h25); have hB6 : Below w.heap.size w w6 := hB5.grown hg6 hB5.size (by rintro k ⟨⟩; exact hw2); have s56 := hg6.size; clear hb25 hb45 hb55)
            | ((with_reducible refine gate_dst (N := 13) rfl ?_); refine box_event rfl (N := 13) rfl (cs := val0) (t := 26) (by kernel_rfl) ?_; intro g13 hgg13 w7 hb137 hbel7; have hgeg13 : w6.heap.size ≤ g13 := Nat.le_of_eq hgg13.symm; clear hgg13; have hb27 := blk_below hb26 hbel7; have hb47 := blk_below hb46 hbel7; have hb57 := blk_below hb56 hbel7; have hB7 : Below w.heap.size w w7 := below_step hB6 hbel7; have h213 : g13 ≠ g2 := (by omega); have h413 : g13 ≠ g4 := (by omega); have h513 : g13 ≠ g5 := (by omega); have hw13 : w.heap.size ≤ g13 := (by have := hB6.size; omega); clear hb26 hb46 hb56 hgeg13 m2 m4 m5 s56)
            | ((with_reducible refine gate_store (t := 26) (p := 13) rfl ?_); refine store_row_event rfl rfl rfl rfl hb137 (by kernel_rfl) rfl (by kernel_rfl) ?_; intro w8 hb138 hg8; have hb28 := blk_grown hb27 hg8 (by simpa using h213.symm); have hb48 := blk_grown hb47 hg8 (by simpa using h413.symm); have hb58 := blk_grown hb57 hg8 (by simpa using h513.symm); have hB8 : Below w.heap.size w w8 := hB7.grown hg8 hB7.size (by rintro k ⟨⟩; exact hw13); have q3 : w8.cell? ⟨g2, 3, none⟩ = some (.bool false) := Blk.cell hb28 3; clear hb27 hb47 hb57 hb137))
          refine draw_beginN (fun W' => Blk W' g2 71 #[.string s, .int .i64 ((n : Int) + d), .int .i64 ((p : Int) + 1), .bool false] ∧ Blk W' g13 26 #[.int .i64 8, .int .i64 0, .slice none 0 0]) (fun _ => false) (by kernel_rfl) (n := 4) rfl rfl ?_
          intro W0 _hWh hWg
          clear _hWh
          have HS : Blk W0 g2 71 #[.string s, .int .i64 ((n : Int) + d), .int .i64 ((p : Int) + 1), .bool false] ∧ Blk W0 g13 26 #[.int .i64 8, .int .i64 0, .slice none 0 0] := ⟨blk_grown hb28 hWg (by simp), blk_grown hb138 hWg (by simp)⟩
          have hb4W := blk_grown hb48 hWg (by simp)
          have hb5W := blk_grown hb58 hWg (by simp)
          have hBW : Below w.heap.size w W0 := hB8.grown hWg hB8.size (by rintro k ⟨⟩)
          refine draw_take (i := 0) (l2 := #[true, false, false, false]) (v := .agg #[.string s, .int .i64 ((n : Int) + d), .int .i64 ((p : Int) + 1), .bool false]) rfl (by kernel_rfl) (by kernel_rfl) (by kernel_rfl) (by kernel_rfl) (by kernel_rfl) (fun _ _ _ h => h) (.inl ⟨by kernel_rfl, fun W' hS => ?_⟩) HS ?_
          · exact run_load_row rfl (by kernel_rfl) (run_loadVar_row (P := Tryd.prog) W' g2 71 71 #[.string s, .int .i64 ((n : Int) + d), .int .i64 ((p : Int) + 1), .bool false] (0, 0) _ hS.1 Tryd.underlying71 rfl (by kernel_rfl))
          refine draw_take (i := 1) (l2 := #[true, true, false, false]) (v := .agg #[.int .i64 8, .int .i64 0, .slice none 0 0]) rfl (by kernel_rfl) (by kernel_rfl) (by kernel_rfl) (by kernel_rfl) (by kernel_rfl) (fun _ _ _ h => h) (.inl ⟨by kernel_rfl, fun W' hS => ?_⟩) HS ?_
          · exact run_load_row rfl (by kernel_rfl) (run_loadVar_row (P := Tryd.prog) W' g13 26 26 #[.int .i64 8, .int .i64 0, .slice none 0 0] (0, 0) _ hS.2 Tryd.underlying26 rfl (by kernel_rfl))
          refine draw_store_row (i := 2) (l2 := #[true, true, true, false]) (cells := #[.string s, .int .i64 ((n : Int) + d), .int .i64 ((p : Int) + 1), .bool false]) (by kernel_rfl) (by kernel_rfl) rfl (by kernel_rfl) rfl (by kernel_rfl) hb4W (by kernel_rfl) rfl (by kernel_rfl) rfl ?_
          intro W2 hb4x hgr1
          have S1 : Blk W2 g2 71 #[.string s, .int .i64 ((n : Int) + d), .int .i64 ((p : Int) + 1), .bool false] := blk_grown HS.1 hgr1 (by simpa using h24.symm)
          have S2 : Blk W2 g13 26 #[.int .i64 8, .int .i64 0, .slice none 0 0] := blk_grown HS.2 hgr1 (by simpa using h413)
          have hb5x := blk_grown hb5W hgr1 (by simpa using h45)
          have hBx : Below w.heap.size w W2 := hBW.grown hgr1 hBW.size (by rintro k ⟨⟩; exact hw4)
          refine ⟨⟨S1, S2⟩, ?_⟩
          refine draw_store_row (i := 3) (l2 := #[true, true, true, true]) (cells := #[.int .i64 8, .int .i64 0, .slice none 0 0]) (by kernel_rfl) (by kernel_rfl) rfl (by kernel_rfl) rfl (by kernel_rfl) hb5x (by kernel_rfl) rfl (by kernel_rfl) rfl ?_
          intro W3 hb5d hgr2
          have hb4d := blk_grown hb4x hgr2 (by simpa using h45.symm)
          have hBd : Below w.heap.size w W3 := hBx.grown hgr2 hBx.size (by rintro k ⟨⟩; exact hw5)
          refine ⟨⟨blk_grown S1 hgr2 (by simpa using h25.symm), blk_grown S2 hgr2 (by simpa using h513)⟩, ?_⟩
          refine draw_doneN (by kernel_rfl) ?_
          clear HS S1 S2 hb4W hb5W hb5x hb4x hb28 hb138 hb48 hb58
          go_simp
          go_wp2_with fail
          exact bodyPost_ret (rv_results hb4d rfl hb5d rfl rfl rfl) rfl ⟨⟨8, 0, []⟩, n + d, p + 1, false, .slice none 0 0, rfl, Kd.R_nil _ _ _ _ _, hBd, by rw [HX.out]; exact ⟨rfl, rfl, rfl, rfl⟩⟩
      · have h1 : ¬ k = 1 := fun h => h18 (.inl h)
        have h8 : ¬ k = 8 := fun h => h18 (.inr h)
        have e1 : ((k : Int) == 1) = false := beq_eq_false_iff_ne.2 (by omega)
        have e8 : ((k : Int) == 8) = false := beq_eq_false_iff_ne.2 (by omega)
        rw [valBody, if_neg h18] at hXv
        clear h18
        obtain ⟨A1, B1, hs1, hAB⟩ : ∃ (A1 : Nat) (B1 : Bool), (∀ w, Calls Tryd.prog 58 #[.agg #[.string s, .int .i64 ((n : Int) + d), .int .i64 ((p : Int) + 1), .bool false], .int .u8 40] w fun e w' => e = .returned (.agg #[.string s, .int .i64 A1, .int .i64 ((p : Int) + 1), .bool B1]) ∧ Below w.heap.size w w') ∧
            ((B1 = false ∧ A1 ≤ s.size ∧ X = (match numOf (bl s) k A1 with | .error e => .error e | .ok (N, at1) => finishV (bl s) k N (itemsGo (valueF fuel (bl s)) (bl s) (countedB k) (needF k).1 (needF k).2.2.1 (needF k).2.2.2 (needF k).2.1 [] at1 (p + 1)))) ∨ (B1 = true ∧ X = .error A1)) := by
          by_cases h40 : (bl s)[n + d]? = some 40
          · rw [if_pos h40] at hXv
            refine ⟨n + d + 1, false, fun w => rsign_yes2 s hs n d ((p : Int) + 1) 40 40 rfl h40 w, .inl ⟨rfl, by have := bl_lt_size h40; omega, ?_⟩⟩
            rw [hXv]; rfl
          · rw [if_neg h40] at hXv
            exact ⟨n + d, true, fun w => rsign_no2 s hs n d ((p : Int) + 1) 40 40 rfl h40 w, .inr ⟨rfl, hXv⟩⟩
        obtain ⟨cnt, hcnt⟩ : ∃ c, countedB k = c := ⟨_, rfl⟩
        have Hs := Lib.hid hs1
        have Hc := Lib.hid fun w => rcounted_calls k hcnt w
        have H0 : Hid (cnt = false → ∃ Y, (B1 = false → A1 ≤ s.size) ∧ X = finishV (bl s) k (0 : Nat) Y ∧ ((B1 = true ∧ Y = .error A1) ∨ (B1 = false ∧ Y = itemsGo (valueF fuel (bl s)) (bl s) (countedB k) (needF k).1 (needF k).2.2.1 (needF k).2.2.2 (needF k).2.1 [] A1 (p + 1)))) := Lib.hid fun hc => by
          rcases hAB with ⟨h1, h2, h3⟩ | ⟨h1, h3⟩
          · refine ⟨_, fun _ => h2, ?_, .inr ⟨h1, rfl⟩⟩
            have h4 : ¬ (k = 4 ∨ k = 13) := fun h => by
              rw [hc] at hcnt
              rcases h with rfl | rfl <;> simp [countedB] at hcnt
            rw [h3, numOf, if_neg h4, hcnt, hc, if_neg (by simp)]
          · exact ⟨.error A1, (fun h => by rw [h1] at h; cases h), h3, .inl ⟨h1, rfl⟩⟩
        have H1 : Hid (cnt = true → ∀ (M : Nat) (MI : Int), MI = (M : Int) → ((k = 4 ∨ k = 13) ∧ M = 9223372036854775807) ∨ (¬ (k = 4 ∨ k = 13) ∧ M = 63) → ∃ (A2 N : Nat) (B2 : Bool), (∀ w, Calls Tryd.prog 57 #[.agg #[.string s, .int .i64 A1, .int .i64 ((p : Int) + 1), .bool B1], .int .u64 MI, .int .u64 0] w fun e w' => e = .returned (.tuple #[.agg #[.string s, .int .i64 A2, .int .i64 ((p : Int) + 1), .bool B2], .int .u64 N]) ∧ Below w.heap.size w w') ∧
            N ≤ 9223372036854775807 ∧ (B2 = false → A2 ≤ s.size) ∧ ∃ Y, X = finishV (bl s) k N Y ∧ ((B2 = true ∧ Y = .error A2) ∨ (B2 = false ∧ Y = itemsGo (valueF fuel (bl s)) (bl s) (countedB k) (needF k).1 (needF k).2.2.1 (needF k).2.2.2 (needF k).2.1 [] A2 (p + 1)))) := Lib.hid fun hc M MI hMI hM => by
          have hM9 : 9 ≤ M ∧ M ≤ 9223372036854775807 := by rcases hM with ⟨_, rfl⟩ | ⟨_, rfl⟩ <;> omega
          rcases hAB with ⟨rfl, h2, h3⟩ | ⟨rfl, h3⟩
          · have hno : numOf (bl s) k A1 = numF M (bl s) A1 := by
              rw [numOf]
              rcases hM with ⟨h4, rfl⟩ | ⟨h4, rfl⟩
              · rw [if_pos h4]
              · rw [if_neg h4, hcnt, hc, if_pos rfl]
            rw [hno] at h3
            cases hN : numF M (bl s) A1 with
            | ok x =>
              obtain ⟨v, a⟩ := x
              rw [hN] at h3
              have h4 := numF_most hN
              have h5 := (numF_le hN).1
              rw [bl_length] at h5
              exact ⟨a, v, false, fun w => rnumber_ok M hM9.1 (by omega) s hs ((p : Int) + 1) A1 h2 0 (by omega) (fun h => by cases h) hN MI 0 hMI rfl w, by omega, fun _ => by omega, _, h3, .inr ⟨rfl, rfl⟩⟩
            | error e0 =>
              rw [hN] at h3
              exact ⟨e0, 0, true, fun w => rnumber_err M hM9.1 (by omega) s hs ((p : Int) + 1) A1 h2 0 (by omega) (fun h => by cases h) hN MI 0 hMI rfl w, by omega, (fun h => by cases h), .error e0, h3, .inl ⟨rfl, rfl⟩⟩
          · exact ⟨A1, 0, true, fun w => rnumber_was s ((p : Int) + 1) A1 MI 0 w, by omega, (fun h => by cases h), .error A1, h3, .inl ⟨rfl, rfl⟩⟩
        clear hXv hs1 hAB hcnt
        go_upto_if 105 with (first
          | ((with_reducible refine gate_dst (N := 83) rfl ?_); refine wpList_load_row rfl 71 _ rfl g2 rfl 71 _ (0, 0) _ hb2c Tryd.underlying71 rfl (by kernel_rfl) ?_)
          | (go_at_call 59; (with_reducible refine (Hw.out _).mono ?_); rintro e w5 ⟨rfl, hbel5⟩; have hb25 := blk_below hb2c hbel5; have hb45 := blk_below hb4c hbel5; have hb55 := blk_below hb5c hbel5; have hB5 : Below w.heap.size w w5 := below_step hBc hbel5; have m2 := blk_lt hb25; have m4 := blk_lt hb45; have m5 := blk_lt hb55)
          | ((with_reducible refine gate_store (t := 71) (p := 2) rfl ?_); refine store_row_event rfl rfl rfl rfl hb25 (by kernel_rfl) rfl (by kernel_rfl) ?_; intro w6 hb26 hg6; have hb46 := blk_grown hb45 hg6 (by simpa using h24); have hb56 := blk_grown hb55 hg6 (by simpa using h25); have hB6 : Below w.heap.size w w6 := hB5.grown hg6 hB5.size (by rintro k ⟨⟩; exact hw2); have s56 := hg6.size; clear hb25 hb45 hb55)
          | ((with_reducible refine gate_dst (N := 13) rfl ?_); refine box_event rfl (N := 13) rfl (cs := val0) (t := 26) (by kernel_rfl) ?_; intro g13 hgg13 w7 hb137 hbel7; have hgeg13 : w6.heap.size ≤ g13 := Nat.le_of_eq hgg13.symm; clear hgg13; have hb27 := blk_below hb26 hbel7; have hb47 := blk_below hb46 hbel7; have hb57 := blk_below hb56 hbel7; have hB7 : Below w.heap.size w w7 := below_step hB6 hbel7; have h213 : g13 ≠ g2 := (by omega); have h413 : g13 ≠ g4 := (by omega); have h513 : g13 ≠ g5 := (by omega); have hw13 : w.heap.size ≤ g13 := (by have := hB6.size; omega); clear hb26 hb46 hb56 hgeg13 m2 m4 m5 s56)
          | ((with_reducible refine gate_store (t := 26) (p := 13) rfl ?_); refine store_row_event rfl rfl rfl rfl hb137 (by kernel_rfl) rfl (by kernel_rfl) ?_; intro w8 hb138 hg8; have hb28 := blk_grown hb27 hg8 (by simpa using h213.symm); have hb48 := blk_grown hb47 hg8 (by simpa using h413.symm); have hb58 := blk_grown hb57 hg8 (by simpa using h513.symm); have hB8 : Below w.heap.size w w8 := hB7.grown hg8 hB7.size (by rintro k ⟨⟩; exact hw13); have q3 : w8.cell? ⟨g2, 3, none⟩ = some (.bool false) := Blk.cell hb28 3; clear hb27 hb47 hb57 hb137)
          | ((with_reducible refine gate_dst (N := 102) rfl ?_); refine wpList_load_row rfl 71 _ rfl g2 rfl 71 _ (0, 0) _ hb28 Tryd.underlying71 rfl (by kernel_rfl) ?_)
          | (go_at_call 58; (with_reducible refine (Hs.out _).mono ?_); rintro e w9 ⟨rfl, hbel9⟩; have hb29 := blk_below hb28 hbel9; have hb49 := blk_below hb48 hbel9; have hb59 := blk_below hb58 hbel9; have hb139 := blk_below hb138 hbel9; have hB9 : Below w.heap.size w w9 := below_step hB8 hbel9; clear hb28 hb48 hb58 hb138 q3)
          | ((with_reducible refine gate_store (t := 71) (p := 2) rfl ?_); refine store_row_event rfl rfl rfl rfl hb29 (by kernel_rfl) rfl (by kernel_rfl) ?_; intro wa hb2a hga; have hb4a := blk_grown hb49 hga (by simpa using h24); have hb5a := blk_grown hb59 hga (by simpa using h25); have hb13a := blk_grown hb139 hga (by simpa using h213); have hBa : Below w.heap.size w wa := hB9.grown hga hB9.size (by rintro k ⟨⟩; exact hw2); clear hb29 hb49 hb59 hb139)
          | (go_at_call 60; (with_reducible refine (Hc.out _).mono ?_); rintro e wb ⟨rfl, hbelb⟩; have hb2b := blk_below hb2a hbelb; have hb4b := blk_below hb4a hbelb; have hb5b := blk_below hb5a hbelb; have hb13b := blk_below hb13a hbelb; have hBb : Below w.heap.size w wb := below_step hBa hbelb; have mb2 := blk_lt hb2b; have mb4 := blk_lt hb4b; have mb5 := blk_lt hb5b; have mb13 := blk_lt hb13b; clear hb2a hb4a hb5a hb13a))
        clear hbel9 hbelb hbel5 hbel7 hg6 hg8 hga hBa hB9 hB8 hB7 hB6 hB5 Hw Hs Hc e1 e8
        go_cut [105] (fun _ wc => ∃ (a N : Nat) (b : Bool) (Y : _), RI w s g2 g4 g5 g13 k N [] a (p + 1) b none 0 wc ∧ (b = false → a ≤ s.size) ∧ X = finishV (bl s) k N Y ∧ ((b = true ∧ Y = .error a) ∨ (b = false ∧ Y = itemsGo (valueF fuel (bl s)) (bl s) (countedB k) (needF k).1 (needF k).2.2.1 (needF k).2.2.2 (needF k).2.1 [] a (p + 1))))
        case first =>
          cases cnt with
          | false =>
            go_wp2_with fail
            go_meet
            obtain ⟨Y, hle, hXY, hY⟩ := H0.out (by simp)
            exact ⟨A1, 0, B1, Y, ⟨hb2b, hb13b, Kd.R_nil _ _ _ _ _, hb4b, hb5b, hBb⟩, hle, hXY, hY⟩
          | true =>
            by_cases h4 : k = 4 ∨ k = 13
            · rcases h4 with rfl | rfl
              · skip
                obtain ⟨A2, N, B2, hn, hN, hle, Y, hXY, hY⟩ := H1.out (by simp) 9223372036854775807 9223372036854775807 rfl (.inl ⟨.inl rfl, rfl⟩)
                have Hn := Lib.hid hn
                have HXY := Lib.hid hXY
                have HY := Lib.hid hY
                clear hn hXY hY H1 H0
                go_wp2_with (first
                  | ((with_reducible refine gate_dst (N := 113) rfl ?_); refine wpList_load_row rfl 71 _ rfl g2 rfl 71 _ (0, 0) _ hb2b Tryd.underlying71 rfl (by kernel_rfl) ?_)
                  | (go_at_call 57; (with_reducible refine (Hn.out _).mono ?_); rintro e wc2 ⟨rfl, hbelc⟩; have hb2d := blk_below hb2b hbelc; have hb4d := blk_below hb4b hbelc; have hb5d := blk_below hb5b hbelc; have hb13d := blk_below hb13b hbelc; have hBd : Below w.heap.size w wc2 := below_step hBb hbelc; have sbc := hbelc.size; clear hb2b hb4b hb5b hb13b)
                  | ((with_reducible refine gate_dst (N := 15) rfl ?_); refine box_event rfl (N := 15) rfl (cs := #[.string ⟨#[]⟩, .int .i64 0, .int .i64 0, .bool false]) (t := 71) (by kernel_rfl) ?_; intro g15 hgg15 we hb15e hbele; have hgeg15 : wc2.heap.size ≤ g15 := Nat.le_of_eq hgg15.symm; clear hgg15; have hb2e := blk_below hb2d hbele; have hb4e := blk_below hb4d hbele; have hb5e := blk_below hb5d hbele; have hb13e := blk_below hb13d hbele; have hBe : Below w.heap.size w we := below_step hBd hbele; have d2 : g2 ≠ g15 := (by omega); have d4 : g4 ≠ g15 := (by omega); have d5 : g5 ≠ g15 := (by omega); have d13 : g13 ≠ g15 := (by omega); have hw15 : w.heap.size ≤ g15 := (by have := hBd.size; omega); clear hb2d hb4d hb5d hb13d hgeg15 mb2 mb4 mb5 mb13 sbc)
                  | ((with_reducible refine gate_store (t := 71) (p := 15) rfl ?_); refine store_row_event rfl rfl rfl rfl hb15e (by kernel_rfl) rfl (by kernel_rfl) ?_; intro wf hb15f hgf; have hb2f := blk_grown hb2e hgf (by simpa using d2); have hb4f := blk_grown hb4e hgf (by simpa using d4); have hb5f := blk_grown hb5e hgf (by simpa using d5); have hb13f := blk_grown hb13e hgf (by simpa using d13); have hBf : Below w.heap.size w wf := hBe.grown hgf hBe.size (by rintro k ⟨⟩; exact hw15); clear hb2e hb4e hb5e hb13e hb15e)
                  | ((with_reducible refine gate_dst (N := 118) rfl ?_); refine wpList_load_row rfl 71 _ rfl g15 rfl 71 _ (0, 0) _ hb15f Tryd.underlying71 rfl (by kernel_rfl) ?_)
                  | ((with_reducible refine gate_store (t := 71) (p := 2) rfl ?_); refine store_row_event rfl rfl rfl rfl hb2f (by kernel_rfl) rfl (by kernel_rfl) ?_; intro wg hb2g hgg; have hb4g := blk_grown hb4f hgg (by simpa using h24); have hb5g := blk_grown hb5f hgg (by simpa using h25); have hb13g := blk_grown hb13f hgg (by simpa using h213); have hBg : Below w.heap.size w wg := hBf.grown hgg hBf.size (by rintro k ⟨⟩; exact hw2); clear hb2f hb4f hb5f hb13f)
                  | ((with_reducible refine gate_store (t := 2) (p := 121) rfl ?_); refine store_cell_event rfl rfl rfl rfl hb13g rfl (by kernel_rfl) rfl rfl ?_; intro wh hb13h hgh; have hb2h := blk_grown hb2g hgh (by simpa using h213.symm); have hb4h := blk_grown hb4g hgh (by simpa using h413.symm); have hb5h := blk_grown hb5g hgh (by simpa using h513.symm); have hBh : Below w.heap.size w wh := hBg.grown hgh hBg.size (by rintro k ⟨⟩; exact hw13)))
                go_meet
                exact ⟨A2, N, B2, Y, ⟨hb2h, hb13h, Kd.R_nil _ _ _ _ _, hb4h, hb5h, hBh⟩, hle, HXY.out, HY.out⟩
              · skip
                obtain ⟨A2, N, B2, hn, hN, hle, Y, hXY, hY⟩ := H1.out (by simp) 9223372036854775807 9223372036854775807 rfl (.inl ⟨.inr rfl, rfl⟩)
                have Hn := Lib.hid hn
                have HXY := Lib.hid hXY
                have HY := Lib.hid hY
                clear hn hXY hY H1 H0
                go_wp2_with (first
                  | ((with_reducible refine gate_dst (N := 113) rfl ?_); refine wpList_load_row rfl 71 _ rfl g2 rfl 71 _ (0, 0) _ hb2b Tryd.underlying71 rfl (by kernel_rfl) ?_)
                  | (go_at_call 57; (with_reducible refine (Hn.out _).mono ?_); rintro e wc2 ⟨rfl, hbelc⟩; have hb2d := blk_below hb2b hbelc; have hb4d := blk_below hb4b hbelc; have hb5d := blk_below hb5b hbelc; have hb13d := blk_below hb13b hbelc; have hBd : Below w.heap.size w wc2 := below_step hBb hbelc; have sbc := hbelc.size; clear hb2b hb4b hb5b hb13b)
                  | ((with_reducible refine gate_dst (N := 15) rfl ?_); refine box_event rfl (N := 15) rfl (cs := #[.string ⟨#[]⟩, .int .i64 0, .int .i64 0, .bool false]) (t := 71) (by kernel_rfl) ?_; intro g15 hgg15 we hb15e hbele; have hgeg15 : wc2.heap.size ≤ g15 := Nat.le_of_eq hgg15.symm; clear hgg15; have hb2e := blk_below hb2d hbele; have hb4e := blk_below hb4d hbele; have hb5e := blk_below hb5d hbele; have hb13e := blk_below hb13d hbele; have hBe : Below w.heap.size w we := below_step hBd hbele; have d2 : g2 ≠ g15 := (by omega); have d4 : g4 ≠ g15 := (by omega); have d5 : g5 ≠ g15 := (by omega); have d13 : g13 ≠ g15 := (by omega); have hw15 : w.heap.size ≤ g15 := (by have := hBd.size; omega); clear hb2d hb4d hb5d hb13d hgeg15 mb2 mb4 mb5 mb13 sbc)
                  | ((with_reducible refine gate_store (t := 71) (p := 15) rfl ?_); refine store_row_event rfl rfl rfl rfl hb15e (by kernel_rfl) rfl (by kernel_rfl) ?_; intro wf hb15f hgf; have hb2f := blk_grown hb2e hgf (by simpa using d2); have hb4f := blk_grown hb4e hgf (by simpa using d4); have hb5f := blk_grown hb5e hgf (by simpa using d5); have hb13f := blk_grown hb13e hgf (by simpa using d13); have hBf : Below w.heap.size w wf := hBe.grown hgf hBe.size (by rintro k ⟨⟩; exact hw15); clear hb2e hb4e hb5e hb13e hb15e)
                  | ((with_reducible refine gate_dst (N := 118) rfl ?_); refine wpList_load_row rfl 71 _ rfl g15 rfl 71 _ (0, 0) _ hb15f Tryd.underlying71 rfl (by kernel_rfl) ?_)
                  | ((with_reducible refine gate_store (t := 71) (p := 2) rfl ?_); refine store_row_event rfl rfl rfl rfl hb2f (by kernel_rfl) rfl (by kernel_rfl) ?_; intro wg hb2g hgg; have hb4g := blk_grown hb4f hgg (by simpa using h24); have hb5g := blk_grown hb5f hgg (by simpa using h25); have hb13g := blk_grown hb13f hgg (by simpa using h213); have hBg : Below w.heap.size w wg := hBf.grown hgg hBf.size (by rintro k ⟨⟩; exact hw2); clear hb2f hb4f hb5f hb13f)
                  | ((with_reducible refine gate_store (t := 2) (p := 121) rfl ?_); refine store_cell_event rfl rfl rfl rfl hb13g rfl (by kernel_rfl) rfl rfl ?_; intro wh hb13h hgh; have hb2h := blk_grown hb2g hgh (by simpa using h213.symm); have hb4h := blk_grown hb4g hgh (by simpa using h413.symm); have hb5h := blk_grown hb5g hgh (by simpa using h513.symm); have hBh : Below w.heap.size w wh := hBg.grown hgh hBg.size (by rintro k ⟨⟩; exact hw13)))
                go_meet
                exact ⟨A2, N, B2, Y, ⟨hb2h, hb13h, Kd.R_nil _ _ _ _ _, hb4h, hb5h, hBh⟩, hle, HXY.out, HY.out⟩
            · have e4 : ((k : Int) == 4) = false := beq_eq_false_iff_ne.2 (by omega)
              have e13 : ((k : Int) == 13) = false := beq_eq_false_iff_ne.2 (by omega)
              obtain ⟨A2, N, B2, hn, hN, hle, Y, hXY, hY⟩ := H1.out (by simp) 63 63 rfl (.inr ⟨h4, rfl⟩)
              have Hn := Lib.hid hn
              have HXY := Lib.hid hXY
              have HY := Lib.hid hY
              clear hn hXY hY H1 H0
              go_wp2_with (first
                | ((with_reducible refine gate_dst (N := 113) rfl ?_); refine wpList_load_row rfl 71 _ rfl g2 rfl 71 _ (0, 0) _ hb2b Tryd.underlying71 rfl (by kernel_rfl) ?_)
                | (go_at_call 57; (with_reducible refine (Hn.out _).mono ?_); rintro e wc2 ⟨rfl, hbelc⟩; have hb2d := blk_below hb2b hbelc; have hb4d := blk_below hb4b hbelc; have hb5d := blk_below hb5b hbelc; have hb13d := blk_below hb13b hbelc; have hBd : Below w.heap.size w wc2 := below_step hBb hbelc; have sbc := hbelc.size; clear hb2b hb4b hb5b hb13b)
                | ((with_reducible refine gate_dst (N := 15) rfl ?_); refine box_event rfl (N := 15) rfl (cs := #[.string ⟨#[]⟩, .int .i64 0, .int .i64 0, .bool false]) (t := 71) (by kernel_rfl) ?_; intro g15 hgg15 we hb15e hbele; have hgeg15 : wc2.heap.size ≤ g15 := Nat.le_of_eq hgg15.symm; clear hgg15; have hb2e := blk_below hb2d hbele; have hb4e := blk_below hb4d hbele; have hb5e := blk_below hb5d hbele; have hb13e := blk_below hb13d hbele; have hBe : Below w.heap.size w we := below_step hBd hbele; have d2 : g2 ≠ g15 := (by omega); have d4 : g4 ≠ g15 := (by omega); have d5 : g5 ≠ g15 := (by omega); have d13 : g13 ≠ g15 := (by omega); have hw15 : w.heap.size ≤ g15 := (by have := hBd.size; omega); clear hb2d hb4d hb5d hb13d hgeg15 mb2 mb4 mb5 mb13 sbc)
                | ((with_reducible refine gate_store (t := 71) (p := 15) rfl ?_); refine store_row_event rfl rfl rfl rfl hb15e (by kernel_rfl) rfl (by kernel_rfl) ?_; intro wf hb15f hgf; have hb2f := blk_grown hb2e hgf (by simpa using d2); have hb4f := blk_grown hb4e hgf (by simpa using d4); have hb5f := blk_grown hb5e hgf (by simpa using d5); have hb13f := blk_grown hb13e hgf (by simpa using d13); have hBf : Below w.heap.size w wf := hBe.grown hgf hBe.size (by rintro k ⟨⟩; exact hw15); clear hb2e hb4e hb5e hb13e hb15e)
                | ((with_reducible refine gate_dst (N := 118) rfl ?_); refine wpList_load_row rfl 71 _ rfl g15 rfl 71 _ (0, 0) _ hb15f Tryd.underlying71 rfl (by kernel_rfl) ?_)
                | ((with_reducible refine gate_store (t := 71) (p := 2) rfl ?_); refine store_row_event rfl rfl rfl rfl hb2f (by kernel_rfl) rfl (by kernel_rfl) ?_; intro wg hb2g hgg; have hb4g := blk_grown hb4f hgg (by simpa using h24); have hb5g := blk_grown hb5f hgg (by simpa using h25); have hb13g := blk_grown hb13f hgg (by simpa using h213); have hBg : Below w.heap.size w wg := hBf.grown hgg hBf.size (by rintro k ⟨⟩; exact hw2); clear hb2f hb4f hb5f hb13f)
                | ((with_reducible refine gate_store (t := 2) (p := 121) rfl ?_); refine store_cell_event rfl rfl rfl rfl hb13g rfl (by kernel_rfl) rfl rfl ?_; intro wh hb13h hgh; have hb2h := blk_grown hb2g hgh (by simpa using h213.symm); have hb4h := blk_grown hb4g hgh (by simpa using h413.symm); have hb5h := blk_grown hb5g hgh (by simpa using h513.symm); have hBh : Below w.heap.size w wh := hBg.grown hgh hBg.size (by rintro k ⟨⟩; exact hw13)))
              go_meet
              exact ⟨A2, N, B2, Y, ⟨hb2h, hb13h, Kd.R_nil _ _ _ _ _, hb4h, hb5h, hBh⟩, hle, HXY.out, HY.out⟩
        case rest =>
          obtain ⟨a, N, b, Y, hI, hle, hXY, hY⟩ := hcut
          refine (by assumption : ∀ (a : Act) (w' : World), rvTail.wp Tryd.prog (bodyPost Tryd.prog Tryd.f30 (RVPost w s X)) a w' → _) _ _ ?_
          exact rv_tail fuel ih s m a p k N g2 g4 g5 g13 b w _ X Y hXY hY hs hp hf hk13 hw2 hw4 hw5 hw13 h24 h25 h45 h213 h413 h513 hI hle _ _ _ _ _ _ _ _ _ _ _ _ _ _ _ _ _ _ _ _ _ _ _ _ _ _ _ _ _ _ _ _ _ _ _ _ _ _ _ _ _ _ _ _ _ _ _ _ _ _ _ _ _ _ _ _ _ _ _ _ _ _ _ _ _ _ _ _ _ _ _ _ _ _ _ _ _ _ _ _ _ _ _ _ _ _ _ _ _ _ _ _ _ _ _ _ _ _ _ _ _ _ _ _ _ _ _ _ _ _ _ _ _ _ _ _ _ _ _ _ _ _ _ _ _ _ _ _ _ _ _ _ _ _ _ _ _ _ _ _ _ _ _ _ _ _ _ _ _ _ _ _ _ _ _ _ _ _ _ _ _ _ _ _ _ _ _ _
end Go.Proofs.YtfnekpgbfdhnmaaDoor

namespace Go.Proofs.YtfnekpgbfdhnmaaDoor
open Go.RowKit Go.Proofs.YtfnekpgbfdhnmaaDoorW.PrintWords Go.Proofs.YtfnekpgbfdhnmaaDoorW.PrintLast Go.Proofs.YtfnekpgbfdhnmaaDoorW.PrintMore Go.Proofs.YtfnekpgbfdhnmaaDoor.PAll
mutual
/-- How many parts a value has. -/
def cnt : Tree → Nat
  | ⟨_, _, l⟩ => 1 + cntL l
def cntL : List Tree → Nat
  | [] => 0
  | t :: ts => cnt t + cntL ts
end
theorem cntL_append (a b : List Tree) : cntL (a ++ b) = cntL a + cntL b := by
  induction a with
  | nil => simp [cntL]
  | cons x r ih => simp [cntL, ih]; omega
theorem cnt_eq (t : Tree) : cnt t = 1 + cntL t.f2 := by cases t; simp [cnt]
theorem cnt_pos (t : Tree) : 1 ≤ cnt t := by rw [cnt_eq]; omega
theorem cntL_length (l : List Tree) : l.length ≤ cntL l := by
  induction l with
  | nil => simp
  | cons x r ih => have := cnt_pos x; simp [cntL]; omega
theorem cntL_mem {l : List Tree} {x : Tree} (h : x ∈ l) : cnt x + l.length ≤ cntL l + 1 := by
  induction l with
  | nil => cases h
  | cons y r ih =>
    rcases List.mem_cons.1 h with rfl | h
    · have := cntL_length r; simp [cntL]; omega
    · have := ih h; have := cnt_pos y; simp [cntL]; omega
theorem refSize_go : ∀ (k : Nat) (q : List Tree) (n : Nat), n + cntL q ≤ 256 → cntL q < k → betrothalref04_Size.l0 k q (n : Int) = some (((n + cntL q : Nat) : Int))
  | 0, q, n, _, h => absurd h (Nat.not_lt_zero _)
  | k + 1, [], n, _, _ => by rw [betrothalref04_Size.l0]; simp [cntL]
  | k + 1, x :: r, n, h1, h2 => by
    have e := cnt_eq x
    have hr := cntL_length r
    have hx := cntL_length x.f2
    simp only [cntL] at h1 h2 ⊢
    rw [betrothalref04_Size.l0]
    have hl : ((x :: r).length : Int) > 0 := by simp only [List.length_cons]; omega
    have hrd : rd_T26 (x :: r) 0 = x := rfl
    rw [if_pos hl, if_pos (by omega), if_pos hl, Option.bind_some, if_pos (by simp only [List.length_cons]; omega), Option.bind_some, hrd]
    simp only [List.drop_succ_cons, List.drop_zero, List.length_nil, List.nil_append]
    rw [if_pos (by omega), Option.bind_some, if_pos (by omega), wrap_nat (by omega), refSize_go k (r ++ x.f2) (n + 1) (by rw [cntL_append]; omega) (by rw [cntL_append]; omega), cntL_append]
    congr 2
    omega
theorem refSize_small (t : Tree) (h : cnt t ≤ 256) (k : Nat) (hk : 257 ≤ k) : betrothalref04_Size.f k t.f0 t.f1 t.f2 = some ((cnt t : Nat) : Int) := by
  unfold betrothalref04_Size.f
  have ht : ([⟨t.f0, t.f1, t.f2⟩] : List Tree) = [t] := by cases t; rfl
  rw [ht]
  have := refSize_go k [t] 0 (by simp [cntL]; omega) (by simp [cntL]; omega)
  simp only [cntL] at this
  rw [show ((0 : Nat) : Int) = 0 from rfl] at this
  rw [this]
  simp
theorem refSame_loop (f0 f1 : Int) (l : List Tree) (C : Nat) (hl : l.length ≤ 256) (hC : ∀ x, x ∈ l → ∀ k, 4 * C ≤ k → betrothalref04_same.f k x.f0 x.f1 x.f2 x.f0 x.f1 x.f2 = some true) : ∀ (j i k : Nat), i + j = l.length → j + 1 + 4 * C ≤ k →
    betrothalref04_same.l0 k (i : Int) f0 f1 l f0 f1 l = some true
  | 0, i, k, h, hk => by
    obtain ⟨k, rfl⟩ : ∃ q, k = q + 1 := ⟨k - 1, by omega⟩
    rw [betrothalref04_same.l0, if_neg (by omega)]
  | j + 1, i, k, h, hk => by
    obtain ⟨k, rfl⟩ : ∃ q, k = q + 1 := ⟨k - 1, by omega⟩
    have hi : i < l.length := by omega
    have hm : rd_T26 l (i : Int) ∈ l := by
      have := rd_at (l := l) hi
      exact List.mem_of_getElem? this
    rw [betrothalref04_same.l0, if_pos (by omega), if_pos (by omega), if_pos (by omega), hC _ hm k (by omega), Option.bind_some, if_pos rfl, wrap_nat (by omega)]
    exact refSame_loop f0 f1 l C hl hC j (i + 1) k (by omega) (by omega)
theorem refSame_refl : ∀ (n : Nat) (t : Tree), cnt t ≤ n → cnt t ≤ 256 → ∀ k, 4 * cnt t ≤ k → betrothalref04_same.f k t.f0 t.f1 t.f2 t.f0 t.f1 t.f2 = some true
  | 0, t, h, _, _, _ => absurd h (by have := cnt_pos t; omega)
  | n + 1, t, h, h256, k, hk => by
    have e := cnt_eq t
    have hl := cntL_length t.f2
    obtain ⟨k, rfl⟩ : ∃ q, k = q + 2 := ⟨k - 2, by omega⟩
    rw [betrothalref04_same.f, if_pos rfl, if_pos rfl, betrothalref04_same.j0, if_neg (by simp)]
    by_cases hz : t.f2.length = 0
    · obtain ⟨k, rfl⟩ : ∃ q, k = q + 1 := ⟨k - 1, by omega⟩
      rw [betrothalref04_same.l0, if_neg (by omega)]
    · refine refSame_loop t.f0 t.f1 t.f2 (cntL t.f2 + 1 - t.f2.length) (by omega) (fun x hx k hk => ?_) t.f2.length 0 k (by omega) (by omega)
      have := cntL_mem hx
      exact refSame_refl n x (by omega) (by omega) k (by omega)
theorem refSame_self (t : Tree) (h : cnt t ≤ 256) : betrothalref04_Same.f 1100 t.f0 t.f1 t.f2 t.f0 t.f1 t.f2 = some true := by
  unfold betrothalref04_Same.f
  rw [refSize_small t h 1100 (by omega), Option.bind_some, if_pos (by omega), Option.bind_some, if_pos (by omega), refSame_refl _ t (Nat.le_refl _) h 1100 (by omega)]
  rfl
theorem itemsGo_cnt {val : Nat → Nat → Nat → Except Nat (Tree × Nat × Nat)} {l : List UInt8} (hval : ∀ m a p t a' p', val m a p = .ok (t, a', p') → p' = p + cnt t) {cnt1 : Bool} {least m0 m1 : Nat} : ∀ {left : Nat} {got : List Tree} {at2 parts : Nat} {x : List Tree × Nat × Nat},
    itemsGo val l cnt1 least m0 m1 left got at2 parts = .ok x → x.2.2 + cntL got = parts + cntL x.1
  | 0, got, at2, parts, x, h => by rw [itemsGo] at h; injection h with h; subst h; rfl
  | left + 1, got, at2, parts, x, h => by
    rw [itemsGo] at h
    split at h
    · injection h with h; subst h; rfl
    · split at h
      · cases h
      · split at h
        · cases h
        · rename_i hv
          have h1 := hval _ _ _ _ _ _ hv
          have h2 := itemsGo_cnt hval h
          rw [cntL_append] at h2
          simp only [cntL] at h2
          omega
theorem valueF_cnt : ∀ {fuel : Nat} {l : List UInt8} {m a p : Nat} {t : Tree} {a' p' : Nat}, valueF fuel l m a p = .ok (t, a', p') → p' = p + cnt t
  | 0, _, _, _, _, _, _, _, h => by rw [valueF] at h; cases h
  | fuel + 1, l, m, a, p, t, a', p', h => by
    rw [valueF] at h
    repeat' split at h
    all_goals first
      | (cases h; done)
      | (simp only [Except.ok.injEq, Prod.mk.injEq] at h; obtain ⟨rfl, _, rfl⟩ := h; simp [cnt, cntL]; done)
      | skip
    all_goals
      rename_i hi _
      have := itemsGo_cnt (fun _ _ _ _ _ _ hv => valueF_cnt hv) hi
      simp only [Except.ok.injEq, Prod.mk.injEq] at h
      obtain ⟨rfl, _, rfl⟩ := h
      simp only [cnt, cntL] at this ⊢
      omega
theorem parseF_cnt {l : List UInt8} {t : Tree} (h : parseF l = .ok t) : cnt t ≤ 256 := by
  unfold parseF at h
  split at h
  · cases h
  · rename_i hv
    split at h
    · injection h with h
      subst h
      have h1 := valueF_cnt hv
      have h2 := valueF_most hv
      omega
    · cases h
theorem same_self_calls (t : Tree) (h : cnt t ≤ 256) (A B : Option Addr) (c d : Nat) (w : World) (hA : Kd.C k26 w A t.f2.length t.f2) (hc : t.f2.length ≤ c) (hB : Kd.C k26 w B t.f2.length t.f2) (hd : t.f2.length ≤ d) :
    Calls Tryd.prog 10 #[.agg #[.int .i64 t.f0, .int .i64 t.f1, .slice A t.f2.length c], .agg #[.int .i64 t.f0, .int .i64 t.f1, .slice B t.f2.length d]] w fun e w' => e = .returned (.bool true) ∧ Below w.heap.size w w' :=
  betrothalref04_Same.calls 1100 t.f0 t.f1 A c t.f2 t.f0 t.f1 B d t.f2 true w hA hc hB hd (refSame_self t h)
/-- The reference's value, whole. -/
theorem refval_said : ∀ fuel, RefValSaid fuel
  | 0 => fun m s n p w hm hn hs hp hf => absurd hf (by omega)
  | fuel + 1 => fun m s n p w hm hn hs hp hf => by
    by_cases hend : s.size ≤ n ∨ 256 ≤ p
    · have hv : valueF (fuel + 1) (bl s) m n p = .error n := by rw [valueF, if_pos (by rw [bl_length]; exact hend)]
      rw [hv]
      refine (rv_stop m n p false s w (.inr hend)).mono ?_
      rintro e w' ⟨rfl, hB⟩
      exact ⟨⟨0, 0, []⟩, n, p, true, .slice none 0 0, rfl, Kd.R_nil _ _ _ _ _, hB, rfl, rfl⟩
    · have hn' : n < s.size := by omega
      obtain ⟨c, hc⟩ : ∃ c, (bl s)[n]? = some c := ⟨_, bl_at hn'⟩
      have hgd : (bl s).getD n 0 = c := by rw [List.getD_eq_getElem?_getD, hc]; rfl
      by_cases h1 : m = 0 ∧ 48 ≤ ((bl s).getD n 0).toNat ∧ ((bl s).getD n 0).toNat ≤ 57
      · obtain ⟨rfl, h2, h3⟩ := h1
        rw [hgd] at h2 h3
        exact rv_digit fuel n p s w c hn' hs (by omega) hc h2 h3
      · by_cases h2 : m = 0 ∧ (bl s).getD n 0 = 45
        · obtain ⟨rfl, h3⟩ := h2
          rw [hgd] at h3
          subst h3
          exact rv_minus fuel n p s w hn' hs (by omega) hc
        · exact rv_word fuel (refval_said fuel) m n p s w hm hn' hs (by omega) (by omega) h1 h2
end Go.Proofs.YtfnekpgbfdhnmaaDoor

namespace Go.Proofs.YtfnekpgbfdhnmaaDoor
open Go.RowKit Go.Proofs.YtfnekpgbfdhnmaaDoorW.PrintWords Go.Proofs.YtfnekpgbfdhnmaaDoorW.PrintLast Go.Proofs.YtfnekpgbfdhnmaaDoorW.PrintMore Go.Proofs.YtfnekpgbfdhnmaaDoor.PAll
theorem rp_results {W : World} {g0 : Nat} {cs tmps : Array Value} {v1 v2 : Value} (h0 : Blk W g0 26 cs) (hc : cs.size = 3) (p0 : tmps.getD 2 undef = .pointer (some ⟨g0, 0, none⟩)) (p1 : tmps.getD 3 undef = v1) (p2 : tmps.getD 4 undef = v2) :
    (results Tryd.f9 tmps).run Tryd.prog W = .ok (.tuple #[.agg cs, v1, v2]) W := by
  have e0 := run_loadVar_row (P := Tryd.prog) W g0 26 26 cs (0, 0) _ h0 Tryd.underlying26 rfl (by rw [hc]; kernel_rfl)
  simp only [Array.getD_eq_getD_getElem?] at p0 p1 p2
  simp [results, p0, p1, p2, asAddr, e0]
set_option maxRecDepth 100000 in
set_option maxHeartbeats 4000000 in
theorem RefParse_calls (s : ByteArray) (hs : s.size ≤ maxLen) (w : World) : Calls Tryd.prog 9 #[.string s] w (ParsePost w (parseF (bl s))) := by
  have hv : ∀ W, Calls Tryd.prog 30 #[.agg #[.string s, .int .i64 0, .int .i64 0, .bool false], .int .i64 0] W (RVPost W s (valueF 257 (bl s) 0 0 0)) := fun W => refval_said 257 0 s 0 0 W (by omega) (by omega) hs (by omega) (by omega)
  unfold parseF
  cases hx : valueF 257 (bl s) 0 0 0 with
  | error e0 =>
    rw [hx] at hv
    have Hv := Lib.hid hv
    clear hv hx
    dsimp only
    go_enter Tryd.func9, Tryd.ntmps9
    go_wp2_with (first
      | ((with_reducible refine gate_dst (N := 2) rfl ?_); refine box_event rfl (N := 2) rfl (cs := val0) (t := 26) (by kernel_rfl) ?_; intro g2 hgg2 w1 hb2 hbel1; have hgeg2 : w.heap.size ≤ g2 := Nat.le_of_eq hgg2.symm; clear hgg2)
      | (go_at_call 30; (with_reducible refine (Hv.out _).mono ?_); rintro e w2 ⟨t, a, p, b, v2, rfl, hR2, hbel2, hx⟩; obtain ⟨A, c, rfl⟩ := Kd.R_slice hR2; have hb23 := blk_below hb2 hbel2; have hB2 : Below w.heap.size w w2 := below_step hbel1 hbel2; have hx1 := hx; dsimp only at hx1; obtain ⟨rfl, rfl⟩ := hx1; clear hx)
      | ((with_reducible refine gate_dst (N := 5) rfl ?_); refine box_event rfl (N := 5) rfl (cs := #[.string ⟨#[]⟩, .int .i64 0, .int .i64 0, .bool false]) (t := 71) (by kernel_rfl) ?_; intro g5 hgg5 w3 hb5 hbel3; have hgeg5 : w2.heap.size ≤ g5 := Nat.le_of_eq hgg5.symm; clear hgg5)
      | ((with_reducible refine gate_dst (N := 6) rfl ?_); refine box_event rfl (N := 6) rfl (cs := val0) (t := 26) (by kernel_rfl) ?_; intro g6 hgg6 w4 hb6 hbel4; have hgeg6 : w3.heap.size ≤ g6 := Nat.le_of_eq hgg6.symm; clear hgg6; have hb54 := blk_below hb5 hbel4; have hb24 := blk_below (blk_below hb23 hbel3) hbel4; have hB4 : Below w.heap.size w w4 := below_step (below_step hB2 hbel3) hbel4; have m5 := blk_lt hb5; have d65 : g5 ≠ g6 := (by omega); have m2 := blk_lt hb23; have d25 : g2 ≠ g5 := (by omega); have d26 : g2 ≠ g6 := (by have := hbel3.size; omega); have hw5 : w.heap.size ≤ g5 := (by have := hB2.size; omega); have hw6 : w.heap.size ≤ g6 := (by have := hB2.size; have := hbel3.size; omega))
      | ((with_reducible refine gate_store (t := 71) (p := 5) rfl ?_); refine store_row_event rfl rfl rfl rfl hb54 (by kernel_rfl) rfl (by kernel_rfl) ?_; intro w5 hb55 hg5; have hb65 := blk_grown hb6 hg5 (by simpa using d65.symm); have hb25 := blk_grown hb24 hg5 (by simpa using d25); have hB5 : Below w.heap.size w w5 := hB4.grown hg5 hB4.size (by rintro k ⟨⟩; exact hw5))
      | ((with_reducible refine gate_store (t := 26) (p := 6) rfl ?_); refine store_row_event rfl rfl rfl rfl hb65 (by kernel_rfl) rfl (by kernel_rfl) ?_; intro w6 hb66 hg6; have hb56 := blk_grown hb55 hg6 (by simpa using d65); have hb26 := blk_grown hb25 hg6 (by simpa using d26); have hB6 : Below w.heap.size w w6 := hB5.grown hg6 hB5.size (by rintro k ⟨⟩; exact hw6); have q3 : w6.cell? ⟨g5, 3, none⟩ = some (.bool true) := Blk.cell hb56 3; have q1 : w6.cell? ⟨g5, 1, none⟩ = some (.int .i64 a) := Blk.cell hb56 1))
    refine draw_beginN (fun W' => Blk W' g5 71 #[.string s, .int .i64 a, .int .i64 p, .bool true]) (fun _ => false) (by kernel_rfl) (n := 6) rfl rfl ?_
    intro W0 _hWh hWg
    clear _hWh
    have HS : Blk W0 g5 71 #[.string s, .int .i64 a, .int .i64 p, .bool true] := blk_grown hb56 hWg (by simp)
    have hb2W := blk_grown hb26 hWg (by simp)
    have hBW : Below w.heap.size w W0 := hB6.grown hWg hB6.size (by rintro k ⟨⟩)
    refine draw_take (i := 0) (l2 := #[true, false, false, false, false, false]) (v := .agg val0) rfl (by kernel_rfl) (by kernel_rfl) (by kernel_rfl) (by kernel_rfl) (by kernel_rfl) (fun _ _ _ h => h) (.inl ⟨by kernel_rfl, fun W' hS => ?_⟩) HS ?_
    · kernel_rfl
    refine draw_take (i := 1) (l2 := #[true, true, false, false, false, false]) (v := .pointer (some ⟨g5, 1, none⟩)) rfl (by kernel_rfl) (by kernel_rfl) (by kernel_rfl) (by kernel_rfl) (by kernel_rfl) (fun _ _ _ h => h) (.inl ⟨by kernel_rfl, fun W' hS => ?_⟩) HS ?_
    · kernel_rfl
    refine draw_take (i := 2) (l2 := #[true, true, true, false, false, false]) (v := .int .i64 a) rfl (by kernel_rfl) (by kernel_rfl) (by kernel_rfl) (by kernel_rfl) (by kernel_rfl) (fun _ _ _ h => h) (.inl ⟨by kernel_rfl, fun W' hS => ?_⟩) HS ?_
    · exact run_load_cell rfl (by kernel_rfl) hS (i := 1) rfl Tryd.underlying3 rfl
    refine draw_store_row (i := 3) (l2 := #[true, true, true, true, false, false]) (cells := val0) (by kernel_rfl) (by kernel_rfl) rfl (by kernel_rfl) rfl (by kernel_rfl) hb2W (by kernel_rfl) rfl (by kernel_rfl) rfl ?_
    intro W1 hb2x hgr1
    have HS1 := blk_grown HS hgr1 (by simpa using d25.symm)
    have hBx : Below w.heap.size w W1 := hBW.grown hgr1 hBW.size (by rintro k ⟨⟩; exact hgeg2)
    refine ⟨HS1, ?_⟩
    refine draw_take (i := 4) (l2 := #[true, true, true, true, true, false]) (v := .int .i64 a) rfl (by kernel_rfl) (by kernel_rfl) (by kernel_rfl) (by kernel_rfl) (by kernel_rfl) (fun _ _ _ h => h) (.inl ⟨by kernel_rfl, fun W' hS => ?_⟩) HS1 ?_
    · kernel_rfl
    refine draw_take (i := 5) (l2 := #[true, true, true, true, true, true]) (v := .int .i64 50) rfl (by kernel_rfl) (by kernel_rfl) (by kernel_rfl) (by kernel_rfl) (by kernel_rfl) (fun _ _ _ h => h) (.inl ⟨by kernel_rfl, fun W' hS => ?_⟩) HS1 ?_
    · kernel_rfl
    refine draw_doneN (by kernel_rfl) ?_
    clear HS HS1
    go_simp
    go_wp2_with fail
    exact bodyPost_ret (rp_results hb2x rfl rfl rfl rfl) rfl ⟨rfl, hBx⟩
  | ok x =>
    obtain ⟨t0, a0, p0⟩ := x
    rw [hx] at hv
    have hle := valueF_at hx
    rw [bl_length] at hle
    have Hv := Lib.hid hv
    clear hv hx
    dsimp only
    rw [bl_length]
    by_cases hat : a0 = s.size
    · rw [if_pos hat]
      have hge : s.size ≤ a0 := by omega
      clear hat
      go_enter Tryd.func9, Tryd.ntmps9
      go_wp2_with (first
        | ((with_reducible refine gate_dst (N := 2) rfl ?_); refine box_event rfl (N := 2) rfl (cs := val0) (t := 26) (by kernel_rfl) ?_; intro g2 hgg2 w1 hb2 hbel1; have hgeg2 : w.heap.size ≤ g2 := Nat.le_of_eq hgg2.symm; clear hgg2)
        | (go_at_call 30; (with_reducible refine (Hv.out _).mono ?_); rintro e w2 ⟨t, a, p, b, v2, rfl, hR2, hbel2, hx⟩; obtain ⟨A, c, rfl⟩ := Kd.R_slice hR2; have hb23 := blk_below hb2 hbel2; have hB2 : Below w.heap.size w w2 := below_step hbel1 hbel2; have hx1 := hx; dsimp only at hx1; obtain ⟨rfl, rfl, rfl, rfl⟩ := hx1; clear hx)
        | ((with_reducible refine gate_dst (N := 5) rfl ?_); refine box_event rfl (N := 5) rfl (cs := #[.string ⟨#[]⟩, .int .i64 0, .int .i64 0, .bool false]) (t := 71) (by kernel_rfl) ?_; intro g5 hgg5 w3 hb5 hbel3; have hgeg5 : w2.heap.size ≤ g5 := Nat.le_of_eq hgg5.symm; clear hgg5)
        | ((with_reducible refine gate_dst (N := 6) rfl ?_); refine box_event rfl (N := 6) rfl (cs := val0) (t := 26) (by kernel_rfl) ?_; intro g6 hgg6 w4 hb6 hbel4; have hgeg6 : w3.heap.size ≤ g6 := Nat.le_of_eq hgg6.symm; clear hgg6; have hb54 := blk_below hb5 hbel4; have hb24 := blk_below (blk_below hb23 hbel3) hbel4; have hB4 : Below w.heap.size w w4 := below_step (below_step hB2 hbel3) hbel4; have m5 := blk_lt hb5; have d65 : g5 ≠ g6 := (by omega); have m2 := blk_lt hb23; have d25 : g2 ≠ g5 := (by omega); have d26 : g2 ≠ g6 := (by have := hbel3.size; omega); have hw5 : w.heap.size ≤ g5 := (by have := hB2.size; omega); have hw6 : w.heap.size ≤ g6 := (by have := hB2.size; have := hbel3.size; omega))
        | ((with_reducible refine gate_store (t := 71) (p := 5) rfl ?_); refine store_row_event rfl rfl rfl rfl hb54 (by kernel_rfl) rfl (by kernel_rfl) ?_; intro w5 hb55 hg5; have hb65 := blk_grown hb6 hg5 (by simpa using d65.symm); have hb25 := blk_grown hb24 hg5 (by simpa using d25); have hB5 : Below w.heap.size w w5 := hB4.grown hg5 hB4.size (by rintro k ⟨⟩; exact hw5))
        | ((with_reducible refine gate_store (t := 26) (p := 6) rfl ?_); refine store_row_event rfl rfl rfl rfl hb65 (by kernel_rfl) rfl (by kernel_rfl) ?_; intro w6 hb66 hg6; have hb56 := blk_grown hb55 hg6 (by simpa using d65); have hb26 := blk_grown hb25 hg6 (by simpa using d26); have hB6 : Below w.heap.size w w6 := hB5.grown hg6 hB5.size (by rintro k ⟨⟩; exact hw6); have q3 : w6.cell? ⟨g5, 3, none⟩ = some (.bool false) := Blk.cell hb56 3; have q1 : w6.cell? ⟨g5, 1, none⟩ = some (.int .i64 a) := Blk.cell hb56 1)
        | ((with_reducible refine gate_dst (N := 25) rfl ?_); refine wpList_load_row rfl 26 _ rfl g6 rfl 26 _ (0, 0) _ hb66 Tryd.underlying26 rfl (by kernel_rfl) ?_)
        | ((with_reducible refine gate_store (t := 26) (p := 2) rfl ?_); refine store_row_event rfl rfl rfl rfl hb26 (by kernel_rfl) rfl (by kernel_rfl) ?_; intro w7 hb27 hg7))
      have hKb := Kd.R_bound hR2
      have s12 := blk_lt hb2
      have hK4 := Kd.R_below (Kd.R_below hKb hbel3) hbel4
      have hK5 := Kd.R_grown hK4 hg5 (fun j hj e => by have := hj.2.2.1; injection e with e; omega)
      have hK6 := Kd.R_grown hK5 hg6 (fun j hj e => by have := hj.2.2.1; injection e with e; have := hbel3.size; omega)
      have hK7 := Kd.R_grown hK6 hg7 (fun j hj e => by have := hj.2.1; injection e with e; omega)
      exact bodyPost_ret (rp_results hb27 rfl rfl rfl rfl) rfl ⟨⟨_, rfl, Kd.R_mono (Kd.R_lower hK7 hbel1.size) (fun _ _ => trivial)⟩, hB6.grown hg7 hB6.size (by rintro k ⟨⟩; exact hgeg2)⟩
    · rw [if_neg hat]
      have hlt : a0 < s.size := by omega
      clear hat hle
      go_enter Tryd.func9, Tryd.ntmps9
      go_wp2_with (first
        | ((with_reducible refine gate_dst (N := 2) rfl ?_); refine box_event rfl (N := 2) rfl (cs := val0) (t := 26) (by kernel_rfl) ?_; intro g2 hgg2 w1 hb2 hbel1; have hgeg2 : w.heap.size ≤ g2 := Nat.le_of_eq hgg2.symm; clear hgg2)
        | (go_at_call 30; (with_reducible refine (Hv.out _).mono ?_); rintro e w2 ⟨t, a, p, b, v2, rfl, hR2, hbel2, hx⟩; obtain ⟨A, c, rfl⟩ := Kd.R_slice hR2; have hb23 := blk_below hb2 hbel2; have hB2 : Below w.heap.size w w2 := below_step hbel1 hbel2; have hx1 := hx; dsimp only at hx1; obtain ⟨rfl, rfl, rfl, rfl⟩ := hx1; clear hx)
        | ((with_reducible refine gate_dst (N := 5) rfl ?_); refine box_event rfl (N := 5) rfl (cs := #[.string ⟨#[]⟩, .int .i64 0, .int .i64 0, .bool false]) (t := 71) (by kernel_rfl) ?_; intro g5 hgg5 w3 hb5 hbel3; have hgeg5 : w2.heap.size ≤ g5 := Nat.le_of_eq hgg5.symm; clear hgg5)
        | ((with_reducible refine gate_dst (N := 6) rfl ?_); refine box_event rfl (N := 6) rfl (cs := val0) (t := 26) (by kernel_rfl) ?_; intro g6 hgg6 w4 hb6 hbel4; have hgeg6 : w3.heap.size ≤ g6 := Nat.le_of_eq hgg6.symm; clear hgg6; have hb54 := blk_below hb5 hbel4; have hb24 := blk_below (blk_below hb23 hbel3) hbel4; have hB4 : Below w.heap.size w w4 := below_step (below_step hB2 hbel3) hbel4; have m5 := blk_lt hb5; have d65 : g5 ≠ g6 := (by omega); have m2 := blk_lt hb23; have d25 : g2 ≠ g5 := (by omega); have d26 : g2 ≠ g6 := (by have := hbel3.size; omega); have hw5 : w.heap.size ≤ g5 := (by have := hB2.size; omega); have hw6 : w.heap.size ≤ g6 := (by have := hB2.size; have := hbel3.size; omega))
        | ((with_reducible refine gate_store (t := 71) (p := 5) rfl ?_); refine store_row_event rfl rfl rfl rfl hb54 (by kernel_rfl) rfl (by kernel_rfl) ?_; intro w5 hb55 hg5; have hb65 := blk_grown hb6 hg5 (by simpa using d65.symm); have hb25 := blk_grown hb24 hg5 (by simpa using d25); have hB5 : Below w.heap.size w w5 := hB4.grown hg5 hB4.size (by rintro k ⟨⟩; exact hw5))
        | ((with_reducible refine gate_store (t := 26) (p := 6) rfl ?_); refine store_row_event rfl rfl rfl rfl hb65 (by kernel_rfl) rfl (by kernel_rfl) ?_; intro w6 hb66 hg6; have hb56 := blk_grown hb55 hg6 (by simpa using d65); have hb26 := blk_grown hb25 hg6 (by simpa using d26); have hB6 : Below w.heap.size w w6 := hB5.grown hg6 hB5.size (by rintro k ⟨⟩; exact hw6); have q3 : w6.cell? ⟨g5, 3, none⟩ = some (.bool false) := Blk.cell hb56 3; have q1 : w6.cell? ⟨g5, 1, none⟩ = some (.int .i64 a) := Blk.cell hb56 1))
      refine draw_beginN (fun W' => Blk W' g5 71 #[.string s, .int .i64 a, .int .i64 p, .bool false]) (fun _ => false) (by kernel_rfl) (n := 6) rfl rfl ?_
      intro W0 _hWh hWg
      clear _hWh
      have HS : Blk W0 g5 71 #[.string s, .int .i64 a, .int .i64 p, .bool false] := blk_grown hb56 hWg (by simp)
      have hb2W := blk_grown hb26 hWg (by simp)
      have hBW : Below w.heap.size w W0 := hB6.grown hWg hB6.size (by rintro k ⟨⟩)
      refine draw_take (i := 0) (l2 := #[true, false, false, false, false, false]) (v := .agg val0) rfl (by kernel_rfl) (by kernel_rfl) (by kernel_rfl) (by kernel_rfl) (by kernel_rfl) (fun _ _ _ h => h) (.inl ⟨by kernel_rfl, fun W' hS => ?_⟩) HS ?_
      · kernel_rfl
      refine draw_take (i := 1) (l2 := #[true, true, false, false, false, false]) (v := .pointer (some ⟨g5, 1, none⟩)) rfl (by kernel_rfl) (by kernel_rfl) (by kernel_rfl) (by kernel_rfl) (by kernel_rfl) (fun _ _ _ h => h) (.inl ⟨by kernel_rfl, fun W' hS => ?_⟩) HS ?_
      · kernel_rfl
      refine draw_take (i := 2) (l2 := #[true, true, true, false, false, false]) (v := .int .i64 a) rfl (by kernel_rfl) (by kernel_rfl) (by kernel_rfl) (by kernel_rfl) (by kernel_rfl) (fun _ _ _ h => h) (.inl ⟨by kernel_rfl, fun W' hS => ?_⟩) HS ?_
      · exact run_load_cell rfl (by kernel_rfl) hS (i := 1) rfl Tryd.underlying3 rfl
      refine draw_store_row (i := 3) (l2 := #[true, true, true, true, false, false]) (cells := val0) (by kernel_rfl) (by kernel_rfl) rfl (by kernel_rfl) rfl (by kernel_rfl) hb2W (by kernel_rfl) rfl (by kernel_rfl) rfl ?_
      intro W1 hb2x hgr1
      have HS1 := blk_grown HS hgr1 (by simpa using d25.symm)
      have hBx : Below w.heap.size w W1 := hBW.grown hgr1 hBW.size (by rintro k ⟨⟩; exact hgeg2)
      refine ⟨HS1, ?_⟩
      refine draw_take (i := 4) (l2 := #[true, true, true, true, true, false]) (v := .int .i64 a) rfl (by kernel_rfl) (by kernel_rfl) (by kernel_rfl) (by kernel_rfl) (by kernel_rfl) (fun _ _ _ h => h) (.inl ⟨by kernel_rfl, fun W' hS => ?_⟩) HS1 ?_
      · kernel_rfl
      refine draw_take (i := 5) (l2 := #[true, true, true, true, true, true]) (v := .int .i64 50) rfl (by kernel_rfl) (by kernel_rfl) (by kernel_rfl) (by kernel_rfl) (by kernel_rfl) (fun _ _ _ h => h) (.inl ⟨by kernel_rfl, fun W' hS => ?_⟩) HS1 ?_
      · kernel_rfl
      refine draw_doneN (by kernel_rfl) ?_
      clear HS HS1
      go_simp
      go_wp2_with fail
      exact bodyPost_ret (rp_results hb2x rfl rfl rfl rfl) rfl ⟨rfl, hBx⟩
end Go.Proofs.YtfnekpgbfdhnmaaDoor

namespace Go.Proofs.YtfnekpgbfdhnmaaDoor
open Go.RowKit Go.Proofs.YtfnekpgbfdhnmaaDoorW.PrintWords Go.Proofs.YtfnekpgbfdhnmaaDoorW.PrintLast Go.Proofs.YtfnekpgbfdhnmaaDoorW.PrintMore Go.Proofs.YtfnekpgbfdhnmaaDoor.PAll
set_option maxRecDepth 100000 in
set_option maxHeartbeats 4000000 in
theorem parses_walk (s : ByteArray) (hs : s.size ≤ maxLen) (w : World) (hT : Tab w) : Calls Tryd.prog 3 #[.string s] w fun e w' => e = .returned (.bool true) ∧ Below w.heap.size w w' := by
  have HT := Lib.hid fun W (hW : Below w.heap.size w W) => hT.below hW
  clear hT
  by_cases hl : (600 : Int) < s.size
  · go_enter Tryd.func3, Tryd.ntmps3
    go_wp2_with (first
      | (go_at_call 7; (with_reducible refine (works_calls _ (HT.out _ (Below.refl _ _))).mono ?_); rintro e w1 ⟨rfl, hbel1⟩))
    go_ret
    exact ⟨rfl, hbel1⟩
  · have hp := fun W => Parse_calls s hs W
    have hr := fun W => RefParse_calls s hs W
    cases hx : parseF (bl s) with
    | ok t =>
      have hcnt := parseF_cnt hx
      rw [hx] at hp hr
      have Hp := Lib.hid hp
      have Hr := Lib.hid hr
      clear hp hr hx
      go_enter Tryd.func3, Tryd.ntmps3
      go_wp2_with (first
        | (go_at_call 8; (with_reducible refine (Hp.out _).mono ?_); rintro e w1 ⟨⟨v2, rfl, hR1⟩, hbel1⟩; obtain ⟨Av, cv, rfl, hlv, hCv⟩ := Kd.R_reads hR1)
        | ((with_reducible refine gate_dst (N := 3) rfl ?_); refine box_event rfl (N := 3) rfl (cs := val0) (t := 26) (by kernel_rfl) ?_; intro g3 hgg3 w2 hb3 hbel2; have hgeg3 : w1.heap.size ≤ g3 := Nat.le_of_eq hgg3.symm; clear hgg3)
        | ((with_reducible refine gate_store (t := 26) (p := 3) rfl ?_); refine store_row_event rfl rfl rfl rfl hb3 (by kernel_rfl) rfl (by kernel_rfl) ?_; intro w3 hb33 hg3; have hb23 : Below w1.heap.size w1 w3 := hbel2.grown hg3 hbel2.size (by rintro k ⟨⟩; exact hgeg3); have hB3 : Below w.heap.size w w3 := below_step hbel1 hb23)
        | (go_at_call 9; (with_reducible refine (Hr.out _).mono ?_); rintro e w4 ⟨⟨v3, rfl, hR4⟩, hbel4⟩; obtain ⟨Bv, dv, rfl, hlb, hCb⟩ := Kd.R_reads hR4)
        | ((with_reducible refine gate_dst (N := 6) rfl ?_); refine box_event rfl (N := 6) rfl (cs := val0) (t := 26) (by kernel_rfl) ?_; intro g6 hgg6 w5 hb6 hbel5; have hgeg6 : w4.heap.size ≤ g6 := Nat.le_of_eq hgg6.symm; clear hgg6)
        | ((with_reducible refine gate_store (t := 26) (p := 6) rfl ?_); refine store_row_event rfl rfl rfl rfl hb6 (by kernel_rfl) rfl (by kernel_rfl) ?_; intro w6 hb66 hg6; have hb46 : Below w4.heap.size w4 w6 := hbel5.grown hg6 hbel5.size (by rintro k ⟨⟩; exact hgeg6); have hb36 : Below w3.heap.size w3 w6 := below_step hbel4 hb46; have hb36v := blk_below hb33 hb36; have hB6 : Below w.heap.size w w6 := below_step hB3 hb36)
        | ((with_reducible refine gate_dst (N := 25) rfl ?_); refine wpList_load_row rfl 26 _ rfl g3 rfl 26 _ (0, 0) _ hb36v Tryd.underlying26 rfl (by kernel_rfl) ?_)
        | ((with_reducible refine gate_dst (N := 26) rfl ?_); refine wpList_load_row rfl 26 _ rfl g6 rfl 26 _ (0, 0) _ hb66 Tryd.underlying26 rfl (by kernel_rfl) ?_)
        | (go_at_call 10; (with_reducible refine (same_self_calls t hcnt Av Bv cv dv _ (Kd.C_below (Kd.C_below hCv hb23) hb36) hlv (Kd.C_below hCb hb46) hlb).mono ?_); rintro e w7 ⟨rfl, hbel7⟩; have hB7 : Below w.heap.size w w7 := below_step hB6 hbel7)
        | (go_at_call 11; (with_reducible refine (num_calls _ _).mono ?_); rintro e w8 ⟨rfl, rfl⟩)
        | (go_at_call 7; (with_reducible refine (works_calls _ (HT.out _ hB7)).mono ?_); rintro e w9 ⟨rfl, hbel9⟩))
      go_ret
      exact ⟨rfl, hB7.trans (hbel9.mono hB7.size)⟩
    | error e0 =>
      rw [hx] at hp hr
      have Hp := Lib.hid hp
      have Hr := Lib.hid hr
      have hf : betrothalref04_Same.f 10 0 0 [] 0 0 [] = some true := by kernel_rfl
      have hsame := fun W => betrothalref04_Same.calls 10 0 0 none 0 [] 0 0 none 0 [] true W (Kd.C_nil _ _) (Nat.le_refl _) (Kd.C_nil _ _) (Nat.le_refl _) hf
      simp only [List.length_nil] at hsame
      clear hp hr hx hf
      go_enter Tryd.func3, Tryd.ntmps3
      go_wp2_with (first
        | (go_at_call 8; (with_reducible refine (Hp.out _).mono ?_); rintro e w1 ⟨rfl, hbel1⟩)
        | ((with_reducible refine gate_dst (N := 3) rfl ?_); refine box_event rfl (N := 3) rfl (cs := val0) (t := 26) (by kernel_rfl) ?_; intro g3 hgg3 w2 hb3 hbel2; have hgeg3 : w1.heap.size ≤ g3 := Nat.le_of_eq hgg3.symm; clear hgg3)
        | ((with_reducible refine gate_store (t := 26) (p := 3) rfl ?_); refine store_row_event rfl rfl rfl rfl hb3 (by kernel_rfl) rfl (by kernel_rfl) ?_; intro w3 hb33 hg3; have hb23 : Below w1.heap.size w1 w3 := hbel2.grown hg3 hbel2.size (by rintro k ⟨⟩; exact hgeg3); have hB3 : Below w.heap.size w w3 := below_step hbel1 hb23)
        | (go_at_call 9; (with_reducible refine (Hr.out _).mono ?_); rintro e w4 ⟨rfl, hbel4⟩)
        | ((with_reducible refine gate_dst (N := 6) rfl ?_); refine box_event rfl (N := 6) rfl (cs := val0) (t := 26) (by kernel_rfl) ?_; intro g6 hgg6 w5 hb6 hbel5; have hgeg6 : w4.heap.size ≤ g6 := Nat.le_of_eq hgg6.symm; clear hgg6)
        | ((with_reducible refine gate_store (t := 26) (p := 6) rfl ?_); refine store_row_event rfl rfl rfl rfl hb6 (by kernel_rfl) rfl (by kernel_rfl) ?_; intro w6 hb66 hg6; have hb46 : Below w4.heap.size w4 w6 := hbel5.grown hg6 hbel5.size (by rintro k ⟨⟩; exact hgeg6); have hb36 : Below w3.heap.size w3 w6 := below_step hbel4 hb46; have hb36v := blk_below hb33 hb36; have hB6 : Below w.heap.size w w6 := below_step hB3 hb36)
        | ((with_reducible refine gate_dst (N := 25) rfl ?_); refine wpList_load_row rfl 26 _ rfl g3 rfl 26 _ (0, 0) _ hb36v Tryd.underlying26 rfl (by kernel_rfl) ?_)
        | ((with_reducible refine gate_dst (N := 26) rfl ?_); refine wpList_load_row rfl 26 _ rfl g6 rfl 26 _ (0, 0) _ hb66 Tryd.underlying26 rfl (by kernel_rfl) ?_)
        | (go_at_call 10; (with_reducible refine (hsame _).mono ?_); rintro e w7 ⟨rfl, hbel7⟩; have hB7 : Below w.heap.size w w7 := below_step hB6 hbel7)
        | (go_at_call 11; (with_reducible refine (num_calls _ _).mono ?_); rintro e w8 ⟨rfl, rfl⟩)
        | (go_at_call 7; (with_reducible refine (works_calls _ (HT.out _ hB7)).mono ?_); rintro e w9 ⟨rfl, hbel9⟩))
      go_ret
      exact ⟨rfl, hB7.trans (hbel9.mono hB7.size)⟩
end Go.Proofs.YtfnekpgbfdhnmaaDoor
