/- Part 4 of the proof: what is used of the words, contracts and walks (Part to ValU). -/
import Derived.Defers
import Derived.Recover
import Derived.Tactics
import Derived.Tactics2
import Derived.Shelf.Strings.Builder1
import Derived.Shelf.Strings.Builder2
import Derived.Shelf.Strings.OnBuilder
import Derived.Shelf.Small.Strs
import Derived.Shelf.Strings.BuilderF
import Derived.Shelf.Strings.BuilderK
import Derived.Shelf.Strings.Builder2Cap
import Derived.Shelf.Strconv.Itoa0
import Derived.Shelf.Strconv.Itoa1
import Derived.Shelf.LaysM
import Derived.Shelf.Strconv.Itoa2
import Derived.Shelf.Strconv.Itoa3
import Derived.Shelf.Strconv.Itoa4
import Derived.Shelf.Strings.Search1
import Derived.Shelf.Strings.Prefix
import Derived.Shelf.Strings.BuilderCap
import Derived.Shelf.Slices.Turned
import Derived.Test.YtfnekpgbfdhnmaaDoorProg
import Derived.WalkSmall
import Derived.Lib.IndexLaws
import Derived.Test.YtfnekpgbfdhnmaaDoorVp2
set_option linter.unusedVariables false
set_option linter.unusedSimpArgs false
namespace Go.Proofs.YtfnekpgbfdhnmaaDoor
open Go.RowKit Go.Proofs.YtfnekpgbfdhnmaaDoorW.PrintWords Go.Proofs.YtfnekpgbfdhnmaaDoorW.PrintLast Go.Proofs.YtfnekpgbfdhnmaaDoorW.PrintMore Go.Proofs.YtfnekpgbfdhnmaaDoor.PAll
attribute [local go_sem] max2_int min2_int max_two min_two
theorem types_ne {W : World} {a b ta tb : Nat} {ca cb : Array Value} (ha : Blk W a ta ca) (hb : W.heap[b]? = some (.cells cb tb (0, 0))) (h : ta ≠ tb) : a ≠ b := by
  rintro rfl
  have h1 : some (Obj.cells ca ta (0, 0)) = some (Obj.cells cb tb (0, 0)) := Eq.trans (Eq.symm ha) hb
  injection h1 with h1
  injection h1 with _ h2 _
  exact h h2
def sliceLen : Value → Nat
  | .slice _ n _ => n
  | _ => 0
/-- What stands between two rounds: b4 is the pile's box, ds the marks of the loops that were. -/
structure PInv (w : World) (t : Tree) (b4 : Nat) (ds : List Nat) (v2 : Value) (fuel : Nat) (stack out : List (Tree × Int)) (vt : Value) (W : World) : Prop where
  fuelE : fuel + out.length = 258
  said : partsF t = partsGo fuel stack out
  most : out.length ≤ 256
  deep : ∀ p ∈ stack, 0 ≤ p.2 ∧ p.2 ≤ out.length
  pile : stack.length ≤ 1 + 256 * out.length
  outR : Kd.R (kPart w) 95 W w.heap.size (fun _ => True) v2 out
  box : Blk W b4 90 #[vt]
  pileR : Kd.R (kPart w) 95 W w.heap.size (fun _ => True) vt stack.reverse
  apart : ∀ k, v2.ownBlock = some k → vt.ownBlock ≠ some k
  own : w.heap.size ≤ b4
  nodup : ds.Nodup
  marks : ∀ d, d ∈ ds → w.heap.size ≤ d ∧ W.heap[d]? = some (.deferred (some []))
  below : Below w.heap.size w W
set_option maxRecDepth 100000 in
def PLoop (w : World) (t : Tree) (b4 : Nat) (c0 c1 c9 c10 c11 : Value) (a' : Act) (W : World) : Prop :=
  ∃ (ds : List Nat) (fuel : Nat) (stack out : List (Tree × Int)) (vt v2 u5 u6 u12 u13 u14 u15 u16 u17 u18 u19 u20 u21 u22 u23 u24 u25 u26 u27 u28 u29 u30 u31 u32 u33 u34 u35 u36 u37 u38 u39 u40 u41 u42 u43 u44 : Value), PInv w t b4 ds v2 fuel stack out vt W ∧ a' = ⟨#[c0, c1, v2, .bool false, .pointer (some ⟨b4, 0, none⟩), u5, u6, undef, undef, c9, c10, c11, u12, u13, u14, u15, u16, u17, u18, u19, u20, u21, u22, u23, u24, u25, u26, u27, u28, u29, u30, u31, u32, u33, u34, u35, u36, u37, u38, u39, u40, u41, u42, u43, u44, undef, undef, undef, undef, undef, undef, undef, undef, undef, undef, undef], marks ds⟩
theorem PInv.outB {w : World} {t : Tree} {b4 : Nat} {ds : List Nat} {v2 : Value} {fuel : Nat} {stack out : List (Tree × Int)} {vt : Value} {W w' : World} (h : PInv w t b4 ds v2 fuel stack out vt W) (hw : Chg (fun k => k ∈ ds) W w') :
    Kd.R (kPart w) 95 w' w.heap.size (fun _ => True) v2 out ∧ Below w.heap.size w w' := by
  refine ⟨Kd.R_mono (hw.kd (Kd.R_bound h.outR) (fun k hk hd => ?_)) (fun _ _ => trivial), h.below.trans (hw.below (fun k hk hd => ?_) h.below.size)⟩
  · obtain ⟨_, _, _, q, _, cells, hcells⟩ := hk
    rw [(h.marks k hd).2] at hcells
    cases hcells
  · have := (h.marks k hd).1
    omega
/-- What stands in a round of the loop over a value's own values: n is where the heap ended ahead of it. -/
structure PRound (w : World) (n b4 g5 : Nat) (v4 : Value) (out base : List (Tree × Int)) (cells : Array Value) (ds : List Nat) (f : Nat → Tree × Int) (sb : Nat) (cb : Array Value) (vt : Value) (pre : List Nat) (W : World) : Prop where
  its : Blk W sb 24 cb
  pcur : vt.ownBlock ≠ some g5
  box : Blk W b4 90 #[vt]
  pileR : Kd.R (kPart w) 95 W w.heap.size (fun _ => True) vt (base ++ pre.map f)
  where_ : ∀ k, vt.ownBlock = some k → k < n ∨ n + 2 ≤ k
  apart : ∀ k, v4.ownBlock = some k → vt.ownBlock ≠ some k
  outR : Kd.R (kPart w) 95 W w.heap.size (fun _ => True) v4 out
  cur : Blk W g5 95 cells
  marks : ∀ d, d ∈ ds → W.heap[d]? = some (.deferred (some []))
  below : Below w.heap.size w W
/-- What was known ahead of it. -/
structure PStat (w : World) (n b4 g5 : Nat) (v4 : Value) (ds : List Nat) (sb : Nat) : Prop where
  sbn : sb < n
  b4n : b4 < n
  g5n : g5 < n
  v4n : ∀ k, v4.ownBlock = some k → k < n
  dsn : ∀ d, d ∈ ds → w.heap.size ≤ d ∧ d < n
  wn : w.heap.size ≤ n
  b4w : w.heap.size ≤ b4
  g5w : w.heap.size ≤ g5
  b4g5 : b4 ≠ g5
theorem PRound.chg {w : World} {n b4 g5 : Nat} {v4 : Value} {out base : List (Tree × Int)} {cells : Array Value} {ds : List Nat} {f : Nat → Tree × Int} {sb : Nat} {cb : Array Value} {vt : Value} {pre : List Nat} {A B : World} {S : Nat → Prop}
    (hS : PStat w n b4 g5 v4 ds sb) (h : PRound w n b4 g5 v4 out base cells ds f sb cb vt pre A) (hc : Chg S A B) (hs : ∀ k, S k → n ≤ k ∧ k < n + 2) : PRound w n b4 g5 v4 out base cells ds f sb cb vt pre B := by
  have hno : ∀ k, k < n ∨ n + 2 ≤ k → ¬ S k := fun k hk hsk => by have := hs k hsk; omega
  refine ⟨hc.blk h.its (hno _ (.inl hS.sbn)), h.pcur, hc.blk h.box (hno _ (.inl hS.b4n)), ?_, h.where_, h.apart, ?_, hc.blk h.cur (hno _ (.inl hS.g5n)), fun d hd => hc.obj (h.marks d hd) (hno _ (.inl (hS.dsn d hd).2)), h.below.trans (hc.below (fun k hk => hno k (.inl (by have := hS.wn; omega))) h.below.size)⟩
  · exact Kd.R_mono (hc.kd (Kd.R_tight (kPart_E w) h.pileR) (fun k hk => hno k (h.where_ k hk.symm))) (fun _ _ => trivial)
  · exact Kd.R_mono (hc.kd (Kd.R_tight (kPart_E w) h.outR) (fun k hk => hno k (.inl (hS.v4n k hk.symm)))) (fun _ _ => trivial)
/-- What a call of parts comes to. -/
def PartsPost (w : World) (t : Tree) (e : Ending) (w' : World) : Prop :=
  ∃ v, e = .returned (.tuple #[v, .bool (partsF t).2]) ∧ Kd.R (kPart w) 95 w' w.heap.size (fun _ => True) v (partsF t).1 ∧ Below w.heap.size w w'
def partsMu (a : Act) (_ : World) : Nat := 258 - sliceLen (a.tmps.getD 2 undef)
set_option maxRecDepth 100000 in
set_option maxHeartbeats 4000000 in
theorem parts_calls (t : Tree) (A : Option Addr) (c : Nat) (w : World) (hC : Kd.C k26 w A t.f2.length t.f2) (hc : t.f2.length ≤ c) :
    Calls Tryd.prog 42 #[.agg #[.int .i64 t.f0, .int .i64 t.f1, .slice A t.f2.length c]] w (PartsPost w t) := by
  refine calls_of_wp_marks Tryd.func42 rfl ?_
  simp only [Tryd.ntmps42, List.size_toArray, List.length_cons, List.length_nil, Nat.reduceAdd, Nat.reduceSub, Array.replicate_succ, Array.replicate_zero, List.push_toArray, List.append_toArray, List.nil_append, List.cons_append]
  have hC0 := hC
  go_wp2_with (first
    | ((with_reducible refine gate_dst (N := 1) rfl ?_); refine box_event rfl (N := 1) rfl (cs := #[.int .i64 t.f0, .int .i64 t.f1, .slice A t.f2.length c]) (t := 26) (by kernel_rfl) ?_; intro g1 hg1 w1 hb1 hbel1; have hge1 : w.heap.size ≤ g1 := Nat.le_of_eq hg1.symm; clear hg1)
    | ((with_reducible refine gate_dst (N := 9) rfl ?_); refine wpList_load_row rfl 26 _ rfl g1 rfl 26 _ (0, 0) _ hb1 Tryd.underlying26 rfl (by kernel_rfl) ?_)
    | ((with_reducible refine gate_dst (N := 11) rfl ?_); refine Kd.R_lit (kPart w) (w0 := w) w.heap.size 95 rfl (N := 11) rfl (xs := [(t, 0)]) (inner := [.int .i64 t.f0, .int .i64 t.f1, .slice A t.f2.length c, .int .i64 0]) (ok := fun _ => True) (okp := fun _ => True) (by kernel_rfl) ((Reps.none _ _).snoc (kPart_mk (x := (t, 0)) hc hC0) rfl) (fun _ _ => trivial) trivial hbel1 hbel1.size (by simp) ?_; intro v11 w1b hK11 hBel11 hg11 hat11)
    | ((with_reducible refine gate_dst (N := 4) rfl ?_); refine box_event rfl (N := 4) rfl (cs := #[.slice none 0 0]) (t := 90) (by kernel_rfl) ?_; intro b4 hb4 w2 hb2 hbel2; have hge4 : w1b.heap.size ≤ b4 := Nat.le_of_eq hb4.symm; clear hb4)
    | ((with_reducible refine gate_store (t := 90) (p := 4) rfl ?_); refine store_cell_event rfl rfl rfl rfl hb2 rfl (by kernel_rfl) (Kd.R_val hK11).2 rfl ?_; intro w3 hb3' hg3; have hb3 : Blk w3 b4 90 #[v11] := hb3'; clear hb3'))
  simp only [Act.put]
  simp only [List.setIfInBounds_toArray, List.set_cons_succ, List.set_cons_zero]
  refine wp_loop (PLoop w t b4 (.agg #[.int .i64 t.f0, .int .i64 t.f1, .slice A t.f2.length c]) (.pointer (some ⟨g1, 0, none⟩)) (.agg #[.int .i64 t.f0, .int .i64 t.f1, .slice A t.f2.length c]) (.agg #[.int .i64 t.f0, .int .i64 t.f1, .slice A t.f2.length c, .int .i64 0]) v11) partsMu ?_ ?_
  · have hs1 := hBel11.size
    refine ⟨[], 258, [(t, 0)], [], v11, .slice none 0 0, undef, undef, undef, undef, undef, undef, undef, undef, undef, undef, undef, undef, undef, undef, undef, undef, undef, undef, undef, undef, undef, undef, undef, undef, undef, undef, undef, undef, undef, undef, undef, undef, undef, undef, undef, ⟨rfl, rfl, by simp, by simp, by simp, Kd.R_nil _ _ _ _ _, hb3, ?_, by simp [Value.ownBlock], by omega, List.nodup_nil, by simp, ?_⟩, rfl⟩
    · exact Kd.R_mono (Kd.R_grown (Kd.R_below (Kd.R_bound hK11) hbel2) hg3 (fun k hk e => by have := hk.2.2.1; injection e with e; omega)) (fun _ _ => trivial)
    · exact (hBel11.trans (hbel2.mono hs1)).grown hg3 (by have := hbel2.size; omega) (by rintro k ⟨⟩; omega)
  rintro a' W ⟨ds, fuel, stack, out, vt, v2, u5, u6, u12, u13, u14, u15, u16, u17, u18, u19, u20, u21, u22, u23, u24, u25, u26, u27, u28, u29, u30, u31, u32, u33, u34, u35, u36, u37, u38, u39, u40, u41, u42, u43, u44, hP, rfl⟩
  have hP' := hP
  obtain ⟨hfuel, hsaid, hmost, hdeep, hpile, houtR, hbox, hpileR, hapart, hown, hnodup, hmarks, hbelow⟩ := hP'
  obtain ⟨A2, c2, rfl⟩ := Kd.R_slice houtR
  obtain ⟨At, ct, rfl⟩ := Kd.R_slice hpileR
  obtain ⟨f, rfl⟩ : ∃ f, fuel = f + 1 := ⟨fuel - 1, by omega⟩
  cases stack with
  | nil =>
    rw [partsGo] at hsaid
    have hc4 : W.cell? ⟨b4, 0, none⟩ = some (.slice At 0 ct) := hbox.cell 0
    have Hsaid := Lib.hid hsaid
    clear hsaid hfuel hdeep hpile hpileR hbox hapart
    go_wp2
    refine leaves_marks (v := .tuple #[.slice A2 out.length c2, .bool true]) ds W hnodup (fun d hd => (hmarks d hd).2) (fun w' hw => ⟨by kernel_rfl, ?_⟩)
    obtain ⟨h1, h2⟩ := hP.outB hw
    exact ⟨_, by rw [Hsaid.out], by rw [Hsaid.out]; exact h1, h2⟩
  | cons x rest =>
    have hrl : (x :: rest).reverse.length = rest.length + 1 := by simp
    rw [hrl] at hbox hpileR hapart
    have hc4 : W.cell? ⟨b4, 0, none⟩ = some (.slice At (rest.length + 1) ct) := hbox.cell 0
    by_cases hfull : out.length = 256
    · rw [partsGo, if_pos hfull] at hsaid
      have Hsaid := Lib.hid hsaid
      clear hsaid hfuel hdeep hpile hpileR hbox hapart hmost
      generalize hL : out.length = L at *
      subst hfull
      clear hL
      go_wp2
      refine leaves_marks (v := .tuple #[.slice A2 256 c2, .bool false]) ds W hnodup (fun d hd => (hmarks d hd).2) (fun w' hw => ⟨by kernel_rfl, ?_⟩)
      obtain ⟨h1, h2⟩ := hP.outB hw
      exact ⟨_, by rw [Hsaid.out], by rw [Hsaid.out]; exact h1, h2⟩
    · rw [partsGo, if_neg hfull] at hsaid
      have hxe : (x :: rest).reverse.getD rest.length part0 = x := by simp [List.getD_eq_getElem?_getD]
      obtain ⟨ad, Ax, cx, rfl, e0, e1, e2, e3, hlx, hCx⟩ := part_at hpileR (i := rest.length) (by simp)
      rw [hxe] at e0 e1 e2 e3 hlx hCx
      clear hxe
      obtain ⟨hd0, hd1⟩ := hdeep x (by simp)
      obtain ⟨⟨f0, f1, f2⟩, d⟩ := x
      dsimp only at e0 e1 e2 e3 hlx hCx hd0 hd1
      have hrl2 : rest.length ≤ 65536 := by simp at hpile; omega
      have hout256 : out.length < 256 := by omega
      have hfne : ((out.length : Int) == 256) = false := by rw [beq_eq_false_iff_ne]; omega
      have hLmax := Kd.C_max hCx
      have Hsaid := Lib.hid hsaid
      have Hdeep := Lib.hid hdeep
      have Hpile := Lib.hid hpile
      have Hfuel := Lib.hid hfuel
      have hv2lt := Kd.R_lt houtR
      have hsz2 := (Kd.R_reads' houtR).2.1
      have hvtlt := Kd.R_lt hpileR
      have hblt := hbox.lt
      have hwW := hbelow.size
      clear hsaid hdeep hpile hfuel hfull hrl hP hmost
      generalize hR : rest.length = R at *
      have HR := Lib.hid hR
      clear hR
      have hR0 : (0 : Int) ≤ (R : Int) := by omega
      have hct : R + 1 ≤ ct := (Kd.R_reads' hpileR).2.1
      have hctI : (R : Int) ≤ ct := by omega
      have hb4v2 : some b4 ≠ (Value.slice A2 out.length c2).ownBlock := Kd.R_ne houtR hbox (by decide)
      have hl48 : (out.length + 1) * 48 ≤ 140737488355328 := by omega
      rcases Nat.lt_or_ge 256 f2.length with hL | hL
      all_goals
        first
          | (have hLI : (256 : Int) < f2.length := by omega)
          | (have hLI : (f2.length : Int) ≤ 256 := by omega)
        go_wp2_with (first
          | ((with_reducible refine gate_dst (N := 5) rfl ?_); refine box_event rfl (N := 5) rfl (cs := #[.int .i64 0, .int .i64 0, .slice none 0 0, .int .i64 0]) (t := 95) (by kernel_rfl) ?_; intro g5 hg5 W1 hb51 hbel1; have hge5 : W.heap.size ≤ g5 := Nat.le_of_eq hg5.symm; clear hg5)
          | ((with_reducible refine gate_store (t := 95) (p := 5) rfl ?_); refine store_row_event rfl rfl rfl rfl hb51 (by kernel_rfl) rfl (by kernel_rfl) ?_; intro W2 hb52 hg2; have hg2' : W1.grownBy W2 (some g5) := hg2; have hbox2 : Blk W2 b4 90 #[.slice (some ad) (R + 1) ct] := blk_grown (blk_below hbox hbel1) hg2 (by have : b4 ≠ g5 := (by omega); simpa using this); have hc42 : W2.cell? ⟨b4, 0, none⟩ = some (.slice (some ad) (R + 1) ct) := hbox2.cell 0)
          | ((with_reducible refine gate_store (t := 90) (p := 4) rfl ?_); refine store_cell_event rfl rfl rfl rfl hbox2 rfl (by kernel_rfl) rfl rfl ?_; intro W3 hbox3' hg3; have hbox3 : Blk W3 b4 90 #[.slice (some ad) R ct] := hbox3'; clear hbox3'; have hb53 : Blk W3 g5 95 #[.int .i64 f0, .int .i64 f1, .slice Ax f2.length cx, .int .i64 d] := blk_grown hb52 hg3 (by have : g5 ≠ b4 := (by omega); simpa using this); have hC3 : Chg (fun k => k = b4) W W3 := ((Chg.of_below hbel1 _).andThen (Chg.of_grown (S := fun k => k = g5) hg2 (by rintro k ⟨⟩; rfl)) (fun j hj => .inr (by omega))).trans (Chg.of_grown hg3 (by rintro k ⟨⟩; rfl)); have hs3 := hC3.size; have hOut3 : Kd.R (kPart w) 95 W3 w.heap.size (fun _ => True) (.slice A2 out.length c2) out := Kd.R_mono (hC3.kd (Kd.R_far1 houtR (kPart_E w) hb4v2) (fun k hk => hk.2)) (fun _ _ => trivial); have hBel3 : Below w.heap.size w W3 := hbelow.trans (hC3.below (fun k hk => (by omega)) hwW); have hg5lt := hb53.lt)
          | ((with_reducible refine gate_dst (N := 31) rfl ?_); refine wpList_load_row rfl 95 _ rfl g5 rfl 95 _ (0, 0) _ hb53 Tryd.underlying95 rfl (by kernel_rfl) ?_)
          | ((with_reducible refine gate_dst (N := 33) rfl ?_); refine Kd.R_append (kPart w) (w0 := w) (W := W3) w.heap.size rfl (.tmp 30) (.tmp 32) 90 95 (.agg #[.int .i64 0, .int .i64 0, .slice none 0 0, .int .i64 0]) 48 rfl Tryd.underlying90 info_part rfl (by show 0 < 4; omega) (by omega) (.slice A2 out.length c2) out (⟨f0, f1, f2⟩, d) [.int .i64 f0, .int .i64 f1, .slice Ax f2.length cx, .int .i64 d] (fun _ => True) (fun _ => False) rfl rfl (kPart_mk hlx hCx) (fun _ h => h.elim) (fun _ _ => trivial) hOut3 hBel3 (by omega) hl48 ?_; intro v4 W4 hOut4 hBel4 hg4 hat4; have hb54 : Blk W4 g5 95 #[.int .i64 f0, .int .i64 f1, .slice Ax f2.length cx, .int .i64 d] := blk_grown hb53 hg4 (fun e => (by have := hv2lt g5 e.symm; omega)); have hc54 : W4.cell? ⟨g5, 2, none⟩ = some (.slice Ax f2.length cx) := hb54.cell 2; have hbox4 : Blk W4 b4 90 #[.slice (some ad) R ct] := blk_grown hbox3 hg4 hb4v2)
          | (go_at_call 70; (with_reducible refine (backward_calls _ _ _ _).mono ?_); rintro e W5 ⟨sb, rfl, hsb, hsbge, hbel5⟩))
        obtain ⟨xs, hxs⟩ : ∃ xs, xs = f2.take 256 := ⟨_, rfl⟩
        have hxs2 : (256 < f2.length ∧ xs.length = 256) ∨ (f2.length ≤ 256 ∧ xs = f2) := by
          rcases Nat.lt_or_ge 256 f2.length with h | h
          · exact .inl ⟨h, by rw [hxs]; simp; omega⟩
          · exact .inr ⟨h, by rw [hxs]; exact List.take_of_length_le h⟩
        have hsb' : Blk W5 sb 24 #[.slice Ax xs.length cx] := by
          rcases hxs2 with ⟨h1, h2⟩ | ⟨h1, h2⟩
          · rw [h2]; first | exact hsb | (exfalso; omega)
          · rw [h2]; first | exact hsb | (exfalso; omega)
        have hCxs : Kd.C k26 w Ax xs.length xs := by
          rcases hxs2 with ⟨h1, h2⟩ | ⟨h1, h2⟩
          · rw [hxs]; exact Kd.C_take hCx (by omega)
          · rw [h2]; exact hCx
        have hxmax := Kd.C_max hCxs
        have hxl : xs.length ≤ 256 := by rcases hxs2 with h | ⟨h1, h2⟩; omega; rw [h2]; exact h1
        clear hxs2
        have Hxs := Lib.hid hxs
        clear hxs
        obtain ⟨va, hva⟩ := rowAt_of hCxs
        have hBel5 : Below w.heap.size w W5 := (hBel4).trans (hbel5.mono hBel4.size)
        have hs5 := hbel5.size
        have hs4 := hg4.size
        have hC34 : Chg (fun k => k = b4) W W3 := hC3
        have hS : PStat w W5.heap.size b4 g5 v4 ds sb := ⟨hsb'.lt, by omega, by omega, fun k hk => by have := Kd.R_lt hOut4 k hk; omega, fun q hq => ⟨(hmarks q hq).1, by have := (Array.getElem?_eq_some_iff.1 (hmarks q hq).2).1; omega⟩, by omega, hown, by omega, by omega⟩
        have htake : (({ f0 := f0, f1 := f1, f2 := f2 }, d) :: rest).reverse.take R = rest.reverse := by
          rw [← HR.out]; simp
        have hpw : Kd.R (kPart w) 95 W w.heap.size (fun _ => True) (.slice (some ad) R ct) rest.reverse := by
          rw [← htake]; exact Kd.R_take hpileR (by rw [List.length_reverse, List.length_cons, HR.out]; omega)
        have hpb : ∀ k, (Value.slice (some ad) R ct).ownBlock = some k → k < W.heap.size := Kd.R_lt hpw
        have hpb4 : some b4 ≠ (Value.slice (some ad) R ct).ownBlock := Kd.R_ne hpw hbox (by decide)
        have hpv : ∀ k, (Value.slice A2 out.length c2).ownBlock = some k → (Value.slice (some ad) R ct).ownBlock ≠ some k := hapart
        have hp3 : Kd.R (kPart w) 95 W3 w.heap.size (fun _ => True) (.slice (some ad) R ct) rest.reverse := Kd.R_mono (hC3.kd (Kd.R_far1 hpw (kPart_E w) hpb4) (fun k hk => hk.2)) (fun _ _ => trivial)
        have hp4 : Kd.R (kPart w) 95 W4 w.heap.size (fun _ => True) (.slice (some ad) R ct) rest.reverse := Kd.R_grown2 hp3 (kPart_E w) hg4 (fun k hk e => hpv k hk e.symm)
        have hp5 := Kd.R_below hp4 hbel5
        have hmk4 : ∀ q, q ∈ ds → W4.heap[q]? = some (.deferred (some [])) := fun q hq => by
          have h3 := hC3.obj (hmarks q hq).2 (fun e => by
            subst e
            have h1 := (hmarks _ hq).2
            rw [show W.heap[q]? = _ from hbox] at h1; cases h1)
          refine (hg4.block q (Array.getElem?_eq_some_iff.1 h3).1 (fun e => ?_)).trans h3
          obtain ⟨cells, hcells⟩ := Kd.R_typed houtR q e.symm
          rw [(hmarks q hq).2] at hcells; cases hcells
        have hP0 : PRound w W5.heap.size b4 g5 v4 (out ++ [({ f0 := f0, f1 := f1, f2 := f2 }, d)]) rest.reverse #[.int .i64 f0, .int .i64 f1, .slice Ax f2.length cx, .int .i64 d] ds (fun i => (rd_T26 xs i, d + 1)) sb #[.slice Ax xs.length cx] (.slice (some ad) R ct) [] W5 :=
          ⟨hsb', fun e => by have := hpb g5 e; omega, blk_below hbox4 hbel5, by simpa using hp5, fun k hk => .inl (by have := hpb k hk; omega), fun k hk e => by
              rcases hat4 with h | ⟨b, h, hb⟩
              · rw [h] at hk; exact hpv k hk e
              · rw [h] at hk; injection hk with hk; have := hpb k e; omega, Kd.R_below hOut4 hbel5, blk_below hb54 hbel5, fun q hq => blk_below (hmk4 q hq) hbel5, hBel5⟩
        refine wp_iter (gf := 84) (lb := #[.pointer (some ⟨sb, 0, none⟩)]) rfl (enters Tryd.func84 (by kernel_rfl) rfl) (back_said sb w.heap.size Ax cx xs va hxmax) (fun _ => rfl)
          (fun W' hW' => backSt_of hva (hBel5.trans (hW'.mono (by omega))) (blk_below hsb' hW'))
          (fun pre W' => ∃ vt, PRound w W5.heap.size b4 g5 v4 (out ++ [({ f0 := f0, f1 := f1, f2 := f2 }, d)]) rest.reverse #[.int .i64 f0, .int .i64 f1, .slice Ax f2.length cx, .int .i64 d] ds (fun i => (rd_T26 xs i, d + 1)) sb #[.slice Ax xs.length cx] vt pre W')
          (fun _ _ _ => False) (fun k hk => by rcases hk with h | h; omega; have := hsb'.lt; omega) (fun k hk => hk.elim)
          (fun pre A' B' hi _ hc => by
            obtain ⟨vt, hi⟩ := hi
            exact ⟨vt, hi.chg hS hc (fun k hk => by
              rcases hk with h | h | h | h
              · omega
              · omega
              · exact h.elim
              · omega)⟩)
          (fun _ _ _ _ h _ _ => h.elim) ⟨_, hP0⟩ ?round ?done (fun _ _ _ _ _ h _ => h.elim)
        case round =>
          rintro pre i B0 ⟨vt, hPA⟩ hpre hszA
          have hi : i < xs.length := by
            have : i ∈ (List.range xs.length).reverse := hpre.subset (by simp)
            simpa using this
          generalize hN : W5.heap.size = n at *
          unfold backEnc
          simp only [List.zip_toArray, List.zip_cons_cons, List.zip_nil_right, List.foldl_toArray, List.foldl_cons, List.foldl_nil, List.setIfInBounds_toArray, List.set_cons_succ, List.set_cons_zero]
          refine region_inRound (by rintro ⟨_, _, h⟩; exact h) (by kernel_rfl) ?_
          go_wp2_with (first
            | ((with_reducible refine gate_dst (N := 8) rfl ?_); refine box_event rfl (N := 8) rfl (cs := #[.int .i64 0, .int .i64 0, .slice none 0 0]) (t := 26) (by kernel_rfl) ?_; intro g8 hg8 B1 hb81 hbelB1; have hge8 : B0.heap.size ≤ g8 := Nat.le_of_eq hg8.symm; clear hg8)
            | ((with_reducible refine gate_store (t := 26) (p := 8) rfl ?_); refine store_row_event rfl rfl rfl rfl hb81 (by kernel_rfl) rfl (by kernel_rfl) ?_; intro B2 hb82 hgB2))
          have hB02 : Chg (fun k => k = g8) B0 B2 := (Chg.of_below hbelB1 _).trans (Chg.of_grown hgB2 (by rintro k ⟨⟩; rfl))
          have hB02' : Chg (fun _ => False) B0 B2 := ((Chg.of_below hbelB1 (fun _ => False)).andThen (Chg.of_grown (S := fun k => k = g8) hgB2 (by rintro k ⟨⟩; rfl)) (fun j hj => .inr (by omega)))
          refine ⟨hB02'.mono (fun _ h => h.elim), fun B3 hB3 => ?_⟩
          have hP3 := ((hPA.chg hS hB02' (fun k h => h.elim)).chg hS hB3 (fun k hk => by omega))
          have hb83 := hB3.blk (g := g8) hb82 (by omega)
          have hs23 := hB3.size
          have hs02 := hB02.size
          obtain ⟨Av, cv, rfl⟩ := Kd.R_slice hP3.pileR
          obtain ⟨ad5, hA5, hA6, hA7, hA8, hA9, hl5, hC5⟩ := hva i hi
          clear hA5 hA6 hA7 hA8 hA9
          have hwr : IntKind.i64.wrap (d + 1) = d + 1 := IntWalk.i64_in _ (by omega)
          have hlx : (rest.reverse ++ pre.map (fun i : Nat => ((rd_T26 xs i, d + 1) : Tree × Int))).length ≤ 100000 := by
            have h1 := hpre.length_le
            simp at h1 ⊢
            have h3 := HR.out
            omega
          generalize hx5 : rd_T26 xs i = x5 at *
          obtain ⟨k0, k1, k2⟩ := x5
          dsimp only at hl5 hC5 hb83 ⊢
          have hMk := fun W => kPart_mk (w := w) (W := W) (base := w.heap.size) (ok := fun _ => False) (x := (⟨k0, k1, k2⟩, d + 1)) hl5 hC5
          have hl48' : ((rest.reverse ++ pre.map (fun i : Nat => ((rd_T26 xs i, d + 1) : Tree × Int))).length + 1) * 48 ≤ 140737488355328 := by omega
          generalize hbs : rest.reverse ++ pre.map (fun i : Nat => ((rd_T26 xs i, d + 1) : Tree × Int)) = bs at *
          have Hbs := Lib.hid hbs
          have Hx5 := Lib.hid hx5
          clear hbs hx5
          have hcur := hP3.cur
          have hbx := hP3.box
          have hpr := hP3.pileR
          rw [Hbs.out] at hpr
          have hbl3 := hP3.below
          have hpap := hP3.apart
          have hpwh := hP3.where_
          have hpbx : some b4 ≠ (Value.slice Av bs.length cv).ownBlock := Kd.R_ne hpr hbx (by decide)
          apply wpIn_block
          refine region_inRound (by rintro ⟨_, _, h⟩; exact h) (by kernel_rfl) ?_
          go_wp2_with (first
            | ((with_reducible refine gate_dst (N := 47) rfl ?_); refine load_cell_event rfl rfl rfl hbx rfl Tryd.underlying90 rfl ?_)
            | ((with_reducible refine gate_dst (N := 48) rfl ?_); refine wpList_load_row rfl 26 _ rfl g8 rfl 26 _ (0, 0) _ hb83 Tryd.underlying26 rfl (by kernel_rfl) ?_)
            | ((with_reducible refine gate_dst (N := 50) rfl ?_); refine load_cell_event rfl rfl rfl hcur (i := 3) rfl Tryd.underlying3 rfl ?_)
            | ((with_reducible refine gate_dst (N := 51) rfl ?_); refine Kd.event_run rfl (v := .int .i64 (d + 1)) (w1 := B3) (by rw [← hwr]; kernel_rfl) ?_)
            | ((with_reducible refine gate_dst (N := 54) rfl ?_); refine Kd.R_append (kPart w) (w0 := w) (W := B3) w.heap.size rfl (.tmp 47) (.tmp 53) 90 95 (.agg #[.int .i64 0, .int .i64 0, .slice none 0 0, .int .i64 0]) 48 rfl Tryd.underlying90 info_part rfl (by show 0 < 4; omega) (by omega) (.slice Av bs.length cv) bs (⟨k0, k1, k2⟩, d + 1) [.int .i64 k0, .int .i64 k1, .slice (va i).1 k2.length (va i).2, .int .i64 (d + 1)] (fun _ => True) (fun _ => False) rfl rfl (hMk _) (fun _ h => h.elim) (fun _ _ => trivial) hpr hbl3 (by omega) hl48' ?_; intro v6 B6 hR6 hBel6 hg6 hat6; have hbx6 : Blk B6 b4 90 #[.slice Av bs.length cv] := blk_grown hbx hg6 hpbx)
            | ((with_reducible refine gate_store (t := 90) (p := 4) rfl ?_); refine store_cell_event rfl rfl rfl rfl hbx6 rfl (by kernel_rfl) (Kd.R_val hR6).2 rfl ?_; intro B7 hbx7' hg7; have hbx7 : Blk B7 b4 90 #[v6] := hbx7'; clear hbx7'))
          have hpb6 : some b4 ≠ v6.ownBlock := Kd.R_ne hR6 hbx6 (by decide)
          have hn3 : n + 2 ≤ B3.heap.size := by omega
          have hat : ∀ k, v6.ownBlock = some k → (Value.slice Av bs.length cv).ownBlock = some k ∨ B3.heap.size ≤ k := fun k hk => by
            rcases hat6 with h | ⟨b, h, hb⟩
            · exact .inl (by rw [← h]; exact hk)
            · rw [h] at hk; injection hk with hk; exact .inr (by omega)
          have hgn5 : g5 < n := hS.g5n
          have hb4n : b4 < n := hS.b4n
          have hpc := hP3.pcur
          have hrow : ∀ k, (Value.slice Av bs.length cv).ownBlock = some k → w.heap.size ≤ k ∧ k ≠ sb ∧ (k < n ∨ n + 2 ≤ k) := fun k hk => by
            refine ⟨Kd.R_base hpr k hk, fun e => ?_, hpwh k hk⟩
            obtain ⟨cells, hcells⟩ := Kd.R_typed hpr k hk
            exact types_ne hP3.its hcells (by decide) e.symm
          have hsb4 : sb ≠ b4 := types_ne hP3.its hbx (by decide)
          have hit7 : Blk B7 sb 24 #[.slice Ax xs.length cx] := blk_grown (blk_grown hP3.its hg6 (fun e => (hrow sb e.symm).2.1 rfl)) hg7 (by simpa using hsb4)
          refine ⟨((Chg.of_grown (S := fun k => ¬ ((k < w.heap.size ∨ k = sb) ∨ loopOwn (fun _ => False) n 0 k)) hg6 (fun k hk => ?_)).trans (Chg.of_grown hg7 (fun k hk => ?_))), v6, ?_⟩
          · have h1 := hrow k hk
            rintro ((h | h) | h | h | h | h)
            · omega
            · exact h1.2.1 h
            · omega
            · omega
            · exact h
            · omega
          · injection hk with hk
            subst hk
            rintro ((h | h) | h | h | h | h)
            · omega
            · exact hsb4 h.symm
            · omega
            · omega
            · exact h
            · omega
          · refine ⟨hit7, fun e => ?_, hbx7, ?_, fun k hk => ?_, fun k hk e => ?_, ?_, ?_, fun q hq => ?_, hBel6.grown hg7 (by have := hBel6.size; omega) (by rintro k ⟨⟩; exact hown)⟩
            · rcases hat _ e with h | h
              · exact hpc h
              · omega
            · have h7 := Kd.R_grown2 hR6 (kPart_E w) hg7 (fun k hk => by rw [← hk]; exact hpb6)
              have hlist : rest.reverse ++ (pre ++ [i]).map (fun i : Nat => ((rd_T26 xs i, d + 1) : Tree × Int)) = bs ++ [((⟨k0, k1, k2⟩, d + 1) : Tree × Int)] := by
                rw [← Hbs.out]; simp [Hx5.out]
              rw [hlist]
              exact h7
            · rcases hat k hk with h | h
              · exact hpwh k h
              · exact .inr (by omega)
            · rcases hat k e with h | h
              · exact hpap k hk h
              · have := hS.v4n k hk; omega
            · exact Kd.R_grown2 (Kd.R_grown2 hP3.outR (kPart_E w) hg6 (fun k hk e => hpap k e.symm hk)) (kPart_E w) hg7 (fun k hk e => by
                injection hk with hk
                subst hk
                exact absurd e (Kd.R_ne hP3.outR hbx (by decide)))
            · exact blk_grown (blk_grown hcur hg6 (fun e => hpc e.symm)) hg7 (by have := hS.b4g5.symm; simpa using this)
            · have hm3 := hP3.marks q hq
              refine (hg7.block q (by have := (Array.getElem?_eq_some_iff.1 hm3).1; have := hg6.size; omega) (fun e => ?_)).trans ((hg6.block q (Array.getElem?_eq_some_iff.1 hm3).1 (fun e => ?_)).trans hm3)
              · injection e with e
                subst e
                rw [show B3.heap[q]? = _ from hbx] at hm3; cases hm3
              · obtain ⟨cells, hcells⟩ := Kd.R_typed hpr q e.symm
                rw [hm3] at hcells; cases hcells
        case done =>
          rintro W6 ⟨vt, hP6⟩ hD
          obtain ⟨A4, c4, hv4⟩ := Kd.R_slice hP6.outR
          have hxmap : ((xs.map (fun y => (y, d + 1))).reverse) = (List.range xs.length).reverse.map (fun i : Nat => (rd_T26 xs i, d + 1)) := by
            rw [List.map_reverse]
            congr 1
            apply List.ext_getElem
            · simp
            · intro j h1 h2
              have hj : j < xs.length := by simpa using h1
              simp [rd_T26, List.getD_eq_getElem?_getD, hj]
          have hpr := hP6.pileR
          rw [← hxmap, ← List.reverse_append] at hpr
          have hlen : (out ++ [(({ f0 := f0, f1 := f1, f2 := f2 }, d) : Tree × Int)]).length = out.length + 1 := by simp
          have hPI : PInv w t b4 (W5.heap.size :: ds) v4 f (xs.map (fun y => (y, d + 1)) ++ rest) (out ++ [({ f0 := f0, f1 := f1, f2 := f2 }, d)]) vt W6 :=
            ⟨by have := Hfuel.out; rw [hlen]; omega, by rw [Hsaid.out, Hxs.out], by omega, fun q hq => by
                rw [hlen]
                rcases List.mem_append.1 hq with h | h
                · obtain ⟨y, _, rfl⟩ := List.mem_map.1 h
                  exact ⟨by dsimp only; omega, by dsimp only; omega⟩
                · have := Hdeep.out q (by simp [h]); omega, by
                have := Hpile.out
                simp only [List.length_append, List.length_map, List.length_cons, List.length_nil] at this ⊢
                omega, hP6.outR, hP6.box, hpr, hP6.apart, hown, List.nodup_cons.2 ⟨fun h => by have := (hS.dsn _ h).2; omega, hnodup⟩, fun q hq => by
                rcases List.mem_cons.1 hq with rfl | h
                · exact ⟨hS.wn, hD⟩
                · exact ⟨(hS.dsn q h).1, hP6.marks q h⟩, hP6.below⟩
          have hmu : 258 - sliceLen v4 < 258 - out.length := by rw [hv4]; show 258 - (out ++ [_]).length < _; rw [hlen]; omega
          clear hP6
          go_wp2
          exact ⟨⟨_, _, _, _, _, _, _, _, _, _, _, _, _, _, _, _, _, _, _, _, _, _, _, _, _, _, _, _, _, _, _, _, _, _, _, _, _, _, _, _, _, hPI, rfl⟩, hmu⟩
end Go.Proofs.YtfnekpgbfdhnmaaDoor

namespace Go.Proofs.YtfnekpgbfdhnmaaDoor
open Go.RowKit Go.Proofs.YtfnekpgbfdhnmaaDoorW.PrintWords Go.Proofs.YtfnekpgbfdhnmaaDoorW.PrintLast Go.Proofs.YtfnekpgbfdhnmaaDoorW.PrintMore Go.Proofs.YtfnekpgbfdhnmaaDoor.PAll
set_option maxHeartbeats 1000000 in
theorem notev_calls (k n : Int) (A : Option Addr) (m c : Nat) (w : World) :
    Calls Tryd.prog 96 #[.agg #[.int .i64 k, .int .i64 n, .slice A m c]] w fun e w' => e = .returned (.bool (!evB k)) ∧ Below w.heap.size w w' := by
  have hnot : ∀ (x : Bool) (w : World), (Op.unary .not (.bool x)).run Tryd.prog w = .ok (.bool (!x)) w := fun _ _ => rfl
  have hv := fun W => vevent_calls k n A m c W
  generalize evB k = b at *
  have Hv := Lib.hid hv
  clear hv
  go_enter Tryd.func96, Tryd.ntmps96
  go_wp2_with (first
    | ((with_reducible refine gate_dst (N := 1) rfl ?_); refine box_event rfl (N := 1) rfl (cs := #[.int .i64 k, .int .i64 n, .slice A m c]) (t := 26) (by kernel_rfl) ?_; intro g hg w1 hb hbel; clear hg)
    | ((with_reducible refine gate_dst (N := 3) rfl ?_); refine wpList_load_row rfl 26 _ rfl g rfl 26 _ (0, 0) _ hb Tryd.underlying26 rfl (by kernel_rfl) ?_)
    | (go_at_call 97; (with_reducible refine (Hv.out _).mono ?_); rintro e w2 ⟨rfl, hb2⟩))
  go_ret
  exact ⟨rfl, hbel.trans (hb2.mono hbel.size)⟩
/-- Where the first one stands that is no event. -/
def notEv (l : List Tree) : Int := match l.findIdx? (fun t => !evB t.f0) with | some i => i | none => -1
theorem notEv_here {l : List Tree} {i : Nat} (hi : i < l.length) (he : evB (rd_T26 l i).f0 = false) (hb : ∀ j : Nat, j < i → evB (rd_T26 l j).f0 = true) : notEv l = i := by
  have : l.findIdx? (fun t => !evB t.f0) = some i := by
    rw [List.findIdx?_eq_some_iff_getElem]
    refine ⟨hi, ?_, fun j hj => ?_⟩
    · have : rd_T26 l i = l[i] := by simp [rd_T26, List.getD_eq_getElem?_getD, hi]
      rw [this] at he; simp [he]
    · have hj' : j < l.length := by omega
      have h1 := hb j hj
      have : rd_T26 l j = l[j] := by simp [rd_T26, List.getD_eq_getElem?_getD, hj']
      rw [this] at h1; simp [h1]
  rw [notEv, this]
theorem notEv_none {l : List Tree} (hb : ∀ j : Nat, j < l.length → evB (rd_T26 l j).f0 = true) : notEv l = -1 := by
  have : l.findIdx? (fun t => !evB t.f0) = none := by
    rw [List.findIdx?_eq_none_iff]
    intro x hx
    obtain ⟨j, hj, rfl⟩ := List.getElem_of_mem hx
    have h1 := hb j hj
    have : rd_T26 l j = l[j] := by simp [rd_T26, List.getD_eq_getElem?_getD, hj]
    rw [this] at h1; simp [h1]
  rw [notEv, this]
set_option maxHeartbeats 1000000 in
theorem index_calls (A : Option Addr) (c : Nat) (l : List Tree) (w : World) (hC : Kd.C k26 w A l.length l) :
    Calls Tryd.prog 109 #[.slice A l.length c, .func (.func 96) #[] #[]] w fun e w' => e = .returned (.int .i64 (notEv l)) ∧ Below w.heap.size w w' := by
  have hmax := Kd.C_max hC
  go_enter Tryd.func109, Tryd.ntmps109
  go_wp2
  go_loopw [8] (fun t wr => ∃ i : Nat, t = .int .i64 i ∧ i ≤ l.length ∧ Below w.heap.size w wr ∧ ∀ j : Nat, j < i → evB (rd_T26 l j).f0 = true) (fun t _ => l.length - (intOf t).toNat)
  case atStart => exact ⟨0, rfl, by omega, Below.refl _ _, fun j h => by omega⟩
  case round =>
    obtain ⟨i, rfl, hi, hB, hb⟩ := hrel
    by_cases hlt : i < l.length
    · have hCr := Kd.C_below hC hB
      obtain ⟨ad, A2, c2, rfl, h0, h1, h2, _⟩ := at_T26 hCr i (by omega) (by omega)
      rw [show ((i : Nat) : Int).toNat * 3 = i * 3 from by simp] at h0 h1 h2
      have hcs := fun W => notev_calls (rd_T26 l i).f0 (rd_T26 l i).f1 A2 (rd_T26 l i).f2.length c2 W
      cases he : evB (rd_T26 l i).f0 with
      | false =>
        have H := Lib.hid (notEv_here hlt he hb)
        rw [he] at hcs
        clear he hb hC hCr
        generalize rd_T26 l i = x at *
        obtain ⟨f0, f1, f2⟩ := x
        dsimp only at *
        have Hcs := Lib.hid hcs
        clear hcs
        generalize f2.length = L2 at *
        go_wp2_with (go_at_call 96; (with_reducible refine (Hcs.out _).mono ?_); rintro e w2 ⟨rfl, hb2⟩)
        go_ret
        exact ⟨by rw [H.out]; rfl, hB.trans (hb2.mono hB.size)⟩
      | true =>
        have H : Hid (∀ j : Nat, j < i + 1 → evB (rd_T26 l j).f0 = true) := fun j hj => by
          rcases Nat.lt_or_ge j i with h | h
          · exact hb j h
          · obtain rfl : j = i := by omega
            exact he
        rw [he] at hcs
        clear he hb hC hCr
        generalize hx : rd_T26 l i = x at *
        clear hx
        obtain ⟨f0, f1, f2⟩ := x
        dsimp only at *
        have Hcs := Lib.hid hcs
        clear hcs
        generalize f2.length = L2 at *
        go_wp2_with (go_at_call 96; (with_reducible refine (Hcs.out _).mono ?_); rintro e w2 ⟨rfl, hb2⟩)
        go_roundw
        case rel => exact ⟨i + 1, by go_num, by omega, hB.trans (hb2.mono hB.size), H.out⟩
        case measure => simp [intOf]; omega
    · have H := Lib.hid (notEv_none (l := l) (fun j hj => hb j (by omega)))
      clear hb hC
      go_wp2
      go_ret
      exact ⟨by rw [H.out]; rfl, hB⟩
end Go.Proofs.YtfnekpgbfdhnmaaDoor

namespace Go.Proofs.YtfnekpgbfdhnmaaDoor
open Go.RowKit Go.Proofs.YtfnekpgbfdhnmaaDoorW.PrintWords Go.Proofs.YtfnekpgbfdhnmaaDoorW.PrintLast Go.Proofs.YtfnekpgbfdhnmaaDoorW.PrintMore Go.Proofs.YtfnekpgbfdhnmaaDoor.PAll
set_option maxHeartbeats 1000000 in
theorem contains_calls (A : Option Addr) (c : Nat) (l : List Tree) (w : World) (hC : Kd.C k26 w A l.length l) :
    Calls Tryd.prog 95 #[.slice A l.length c, .func (.func 96) #[] #[]] w fun e w' => e = .returned (.bool (decide (0 ≤ notEv l))) ∧ Below w.heap.size w w' := by
  have hv := fun W hC => index_calls A c l W hC
  have Hv := Lib.hid hv
  generalize notEv l = x at *
  clear hv
  go_enter Tryd.func95, Tryd.ntmps95
  go_wp2_with (go_at_call 109; (with_reducible refine (Hv.out _ hC).mono ?_); rintro e w2 ⟨rfl, hb2⟩)
  go_ret
  exact ⟨rfl, hb2⟩
/-- What values of a Kind may be. -/
def hasLen (l : List Tree) (m : Int) : Bool := (l.length : Int) == m
def firstChan (l : List Tree) : Bool := (rd_T26 l 0).f0 == 4
def lenChan (l : List Tree) (m : Int) : Bool := hasLen l m && firstChan l
set_option maxHeartbeats 1000000 in
theorem send_calls (A : Option Addr) (c : Nat) (l : List Tree) (w : World) (hC : Kd.C k26 w A l.length l) :
    Calls Tryd.prog 91 #[.slice A l.length c] w fun e w' => e = .returned (.bool (lenChan l 2)) ∧ Below w.heap.size w w' := by
  have hl : lenChan l 2 = (((l.length : Int) == 2) && firstChan l) := rfl
  by_cases h2 : l.length = 2
  · have hB : (((l.length : Int) == 2)) = true := by rw [h2]; rfl
    have hch := fun W hC => vchannel_calls A c l W hC (by omega)
    rw [hl, hB]
    have Hch := Lib.hid hch
    have HB := Lib.hid hB
    clear hch hB hl h2
    unfold firstChan
    generalize ((rd_T26 l 0).f0 == 4) = b at *
    go_enter Tryd.func91, Tryd.ntmps91
    go_wp2_with (first
      | (go_at_call 88; (with_reducible refine (many_calls _ _).mono ?_); rintro e w1 ⟨g, rfl, hb, _, hbel⟩)
      | (go_at_call 108; (with_reducible refine (many1_calls _ _ _ _ _ _ hb).mono ?_); rintro e w2 ⟨rfl, rfl⟩; rw [HB.out])
      | (go_at_call 92; (with_reducible refine (Hch.out _ (Kd.C_below hC hbel)).mono ?_); rintro e w3 ⟨rfl, rfl⟩))
    go_ret
    exact ⟨by simp, hbel⟩
  · have hB : (((l.length : Int) == 2)) = false := by rw [beq_eq_false_iff_ne]; omega
    rw [hl, hB]
    have HB := Lib.hid hB
    clear hB hl h2
    go_enter Tryd.func91, Tryd.ntmps91
    go_wp2_with (first
      | (go_at_call 88; (with_reducible refine (many_calls _ _).mono ?_); rintro e w1 ⟨g, rfl, hb, _, hbel⟩)
      | (go_at_call 108; (with_reducible refine (many1_calls _ _ _ _ _ _ hb).mono ?_); rintro e w2 ⟨rfl, rfl⟩; rw [HB.out]))
    go_ret
    exact ⟨by simp, hbel⟩
set_option maxHeartbeats 1000000 in
theorem recv_calls (A : Option Addr) (c : Nat) (l : List Tree) (w : World) (hC : Kd.C k26 w A l.length l) :
    Calls Tryd.prog 93 #[.slice A l.length c] w fun e w' => e = .returned (.bool (lenChan l 1)) ∧ Below w.heap.size w w' := by
  have hl : lenChan l 1 = (((l.length : Int) == 1) && firstChan l) := rfl
  by_cases h2 : l.length = 1
  · have hB : (((l.length : Int) == 1)) = true := by rw [h2]; rfl
    have hch := fun W hC => vchannel_calls A c l W hC (by omega)
    rw [hl, hB]
    have Hch := Lib.hid hch
    have HB := Lib.hid hB
    clear hch hB hl h2
    unfold firstChan
    generalize ((rd_T26 l 0).f0 == 4) = b at *
    go_enter Tryd.func93, Tryd.ntmps93
    go_wp2_with (first
      | (go_at_call 88; (with_reducible refine (many_calls _ _).mono ?_); rintro e w1 ⟨g, rfl, hb, _, hbel⟩)
      | (go_at_call 108; (with_reducible refine (many1_calls _ _ _ _ _ _ hb).mono ?_); rintro e w2 ⟨rfl, rfl⟩; rw [HB.out])
      | (go_at_call 92; (with_reducible refine (Hch.out _ (Kd.C_below hC hbel)).mono ?_); rintro e w3 ⟨rfl, rfl⟩))
    go_ret
    exact ⟨by simp, hbel⟩
  · have hB : (((l.length : Int) == 1)) = false := by rw [beq_eq_false_iff_ne]; omega
    rw [hl, hB]
    have HB := Lib.hid hB
    clear hB hl h2
    go_enter Tryd.func93, Tryd.ntmps93
    go_wp2_with (first
      | (go_at_call 88; (with_reducible refine (many_calls _ _).mono ?_); rintro e w1 ⟨g, rfl, hb, _, hbel⟩)
      | (go_at_call 108; (with_reducible refine (many1_calls _ _ _ _ _ _ hb).mono ?_); rintro e w2 ⟨rfl, rfl⟩; rw [HB.out]))
    go_ret
    exact ⟨by simp, hbel⟩
def chooseB (l : List Tree) : Bool := decide (l.length ≤ 16) && decide (notEv l < 0)
set_option maxHeartbeats 1000000 in
theorem choose_calls (A : Option Addr) (c : Nat) (l : List Tree) (w : World) (hC : Kd.C k26 w A l.length l) :
    Calls Tryd.prog 94 #[.slice A l.length c] w fun e w' => e = .returned (.bool (chooseB l)) ∧ Below w.heap.size w w' := by
  have hnot : ∀ (x : Bool) (w : World), (Op.unary .not (.bool x)).run Tryd.prog w = .ok (.bool (!x)) w := fun _ _ => rfl
  have hl : chooseB l = (decide (l.length ≤ 16) && !decide (0 ≤ notEv l)) := by unfold chooseB; congr 1; rw [Bool.eq_iff_iff]; simp
  rw [hl]
  have hv := fun W hC => contains_calls A c l W hC
  generalize decide (0 ≤ notEv l) = b at *
  have Hv := Lib.hid hv
  clear hv hl
  by_cases h16 : l.length ≤ 16
  · have hd : decide (l.length ≤ 16) = true := by simpa using h16
    have hd' : decide ((l.length : Int) ≤ 16) = true := by simp; omega
    rw [hd]
    clear h16 hd
    go_enter Tryd.func94, Tryd.ntmps94
    go_wp2_with (go_at_call 95; (with_reducible refine (Hv.out _ hC).mono ?_); rintro e w2 ⟨rfl, hb2⟩)
    go_ret
    exact ⟨by simp, hb2⟩
  · have hd : decide (l.length ≤ 16) = false := by simpa using h16
    have hd' : decide ((l.length : Int) ≤ 16) = false := by simp; omega
    rw [hd]
    clear h16 hd
    go_enter Tryd.func94, Tryd.ntmps94
    go_wp2
    go_ret
    exact ⟨by simp, Below.refl _ _⟩
set_option maxHeartbeats 1000000 in
theorem args_calls (A : Option Addr) (n c : Nat) (w : World) :
    Calls Tryd.prog 100 #[.slice A n c] w fun e w' => e = .returned (.bool (decide (n ≤ 8))) ∧ w = w' := by
  have hd : decide (n ≤ 8) = decide ((n : Int) ≤ 8) := by rw [Bool.eq_iff_iff]; simp; omega
  rw [hd]
  clear hd
  go_enter Tryd.func100, Tryd.ntmps100
  go_wp2
  go_ret
  exact ⟨rfl, rfl⟩
def wrapB (l : List Tree) : Bool := decide (0 < l.length) && (evB (rd_T26 l 0).f0 && decide (l.length - 1 ≤ 8))
set_option maxHeartbeats 1000000 in
theorem wrap_calls (A : Option Addr) (c : Nat) (l : List Tree) (w : World) (hC : Kd.C k26 w A l.length l) (hc : l.length ≤ c) :
    Calls Tryd.prog 99 #[.slice A l.length c] w fun e w' => e = .returned (.bool (wrapB l)) ∧ Below w.heap.size w w' := by
  have hmax := Kd.C_max hC
  have hl : wrapB l = (decide (0 < l.length) && (evB (rd_T26 l 0).f0 && decide (l.length - 1 ≤ 8))) := rfl
  rw [hl]
  clear hl
  by_cases h0 : 0 < l.length
  · have hd : decide (0 < l.length) = true := by simpa using h0
    have hd' : decide ((0 : Int) < l.length) = true := by simp; omega
    rw [hd]
    obtain ⟨ad, A2, c2, rfl, k0, k1, k2⟩ := at_T0 hC h0
    have hcs := fun W => vevent_calls (rd_T26 l 0).f0 (rd_T26 l 0).f1 A2 (rd_T26 l 0).f2.length c2 W
    cases he : evB (rd_T26 l 0).f0 with
    | false =>
      rw [he] at hcs
      clear he hC hd
      generalize rd_T26 l 0 = x at *
      obtain ⟨f0, f1, f2⟩ := x
      dsimp only at *
      have Hcs := Lib.hid hcs
      clear hcs
      generalize f2.length = L2 at *
      go_enter Tryd.func99, Tryd.ntmps99
      go_wp2_with (go_at_call 97; (with_reducible refine (Hcs.out _).mono ?_); rintro e w2 ⟨rfl, hb2⟩)
      go_ret
      exact ⟨by simp, hb2⟩
    | true =>
      rw [he] at hcs
      clear he hC hd
      generalize rd_T26 l 0 = x at *
      obtain ⟨f0, f1, f2⟩ := x
      dsimp only at *
      have Hcs := Lib.hid hcs
      clear hcs
      generalize f2.length = L2 at *
      generalize hL : l.length = L at *
      clear hL
      go_enter Tryd.func99, Tryd.ntmps99
      go_wp2_with (first
        | (go_at_call 97; (with_reducible refine (Hcs.out _).mono ?_); rintro e w2 ⟨rfl, hb2⟩))
      all_goals
        (with_reducible refine (args_calls _ _ _ _).mono ?_)
        rintro e w3 ⟨rfl, rfl⟩
        go_wp2
        go_ret
        exact ⟨by first | (simp; done) | (simp; omega), hb2⟩
  · have hd : decide (0 < l.length) = false := by simpa using h0
    have hd' : decide ((0 : Int) < l.length) = false := by rw [decide_eq_false_iff_not]; omega
    rw [hd]
    clear hd
    go_enter Tryd.func99, Tryd.ntmps99
    go_wp2
    go_ret
    exact ⟨by simp, Below.refl _ _⟩
end Go.Proofs.YtfnekpgbfdhnmaaDoor

namespace Go.Proofs.YtfnekpgbfdhnmaaDoor
open Go.RowKit Go.Proofs.YtfnekpgbfdhnmaaDoorW.PrintWords Go.Proofs.YtfnekpgbfdhnmaaDoorW.PrintLast Go.Proofs.YtfnekpgbfdhnmaaDoorW.PrintMore Go.Proofs.YtfnekpgbfdhnmaaDoor.PAll
/-- The function that tells which number a Kind may have. -/
def numFn (k : Nat) : Nat := if k = 2 then 89 else if k = 4 then 90 else if k = 13 then 90 else if k = 10 then 98 else if k = 11 then 98 else if k = 12 then 98 else 87
/-- Which Kinds' values are counted by a closure, and to what. -/
def manyB (k : Nat) : Bool := k == 0 || k == 1 || k == 2 || k == 3 || k == 4 || k == 7 || k == 8 || k == 13
def manyN (k : Nat) : Int := if k = 0 then -1 else if k = 3 then 2 else if k = 7 then 1 else 0
def valFn (k : Nat) : Nat := if k = 5 then 91 else if k = 6 then 93 else if k = 9 then 94 else if k = 10 then 99 else if k = 11 then 100 else if k = 12 then 100 else 108
def valV (bx : Nat → Nat) (k : Nat) : Value := .func (.func (valFn k)) #[] (if manyB k then #[.pointer (some ⟨bx k, 0, none⟩)] else #[])
def numV (k : Nat) : Value := .func (.func (numFn k)) #[] #[]
def shapesV (bx : Nat → Nat) : Array Value := (((List.range 14).map (fun k => [numV k, valV bx k])).flatten).toArray
def shapes0 : Array Value := (List.replicate 28 Value.nilFunc).toArray
/-- The boxes of the counts. -/
def ShapeBoxes (bx : Nat → Nat) (w w' : World) : Prop := ∀ k, manyB k = true → Blk w' (bx k) 3 #[.int .i64 (manyN k)] ∧ w.heap.size ≤ bx k
def bxOf (g0 g1 g2 g3 g4 g7 g8 g13 : Nat) (k : Nat) : Nat := if k = 0 then g0 else if k = 1 then g1 else if k = 2 then g2 else if k = 3 then g3 else if k = 4 then g4 else if k = 7 then g7 else if k = 8 then g8 else g13
set_option maxRecDepth 100000 in
set_option maxHeartbeats 2000000 in
theorem shapes_calls (w : World) :
    Calls Tryd.prog 78 #[] w fun e w' => ∃ bx, e = .returned (.agg (shapesV bx)) ∧ ShapeBoxes bx w w' ∧ Below w.heap.size w w' := by
  go_enter Tryd.func78, Tryd.ntmps78
  go_wp2_with ((with_reducible refine gate_dst (N := 0) rfl ?_); refine box_event rfl (N := 0) rfl (cs := shapes0) (t := 139) (by kernel_rfl) ?_; intro g hg wz hb hbelz; have hge : w.heap.size ≤ g := Nat.le_of_eq hg.symm; clear hg)
  refine (many_calls _ _).mono ?_
  rintro e w0 ⟨g0, rfl, hb0, hge0, hbel0⟩
  go_wp2_with fail
  refine (many_calls _ _).mono ?_
  rintro e w1 ⟨g1, rfl, hb1, hge1, hbel1⟩
  go_wp2_with fail
  refine (many_calls _ _).mono ?_
  rintro e w2 ⟨g2, rfl, hb2, hge2, hbel2⟩
  go_wp2_with fail
  refine (many_calls _ _).mono ?_
  rintro e w3 ⟨g3, rfl, hb3, hge3, hbel3⟩
  go_wp2_with fail
  refine (many_calls _ _).mono ?_
  rintro e w4 ⟨g4, rfl, hb4, hge4, hbel4⟩
  go_wp2_with fail
  refine (many_calls _ _).mono ?_
  rintro e w7 ⟨g7, rfl, hb7, hge7, hbel7⟩
  go_wp2_with fail
  refine (many_calls _ _).mono ?_
  rintro e w8 ⟨g8, rfl, hb8, hge8, hbel8⟩
  go_wp2_with fail
  refine (many_calls _ _).mono ?_
  rintro e w13 ⟨g13, rfl, hb13, hge13, hbel13⟩
  generalize hbx : bxOf g0 g1 g2 g3 g4 g7 g8 g13 = bx
  have Hbx := Lib.hid hbx
  clear hbx
  go_wp2_with (first
    | ((with_reducible refine gate_dst (N := 23) rfl ?_); refine Kd.event_run rfl (v := .agg (shapesV bx)) (w1 := w13) (by rw [← Hbx.out]; kernel_rfl) ?_)
    | ((with_reducible refine gate_store rfl ?_); refine store_row_event rfl rfl rfl rfl (blk_below (blk_below (blk_below (blk_below (blk_below (blk_below (blk_below (blk_below hb hbel0) hbel1) hbel2) hbel3) hbel4) hbel7) hbel8) hbel13) (by kernel_rfl) (by kernel_rfl) (by rw [← Hbx.out]; kernel_rfl) ?_; intro wy hby hgy))
  have hBz : Below w.heap.size w w13 := (below_step (below_step (below_step (below_step (below_step (below_step (below_step (below_step hbelz hbel0) hbel1) hbel2) hbel3) hbel4) hbel7) hbel8) hbel13)
  refine bodyPost_ret (results_cell_row rfl _ _ g 139 (shapesV bx) (0, 0) _ rfl hby Tryd.underlying139 rfl (by kernel_rfl)) rfl ⟨bx, rfl, ?_, hBz.grown hgy hBz.size (by rintro k ⟨⟩; exact hge)⟩
  have sz := blk_lt hb
  have szz := hbelz.size
  have sz0 := hbel0.size
  have sz1 := hbel1.size
  have sz2 := hbel2.size
  have sz3 := hbel3.size
  have sz4 := hbel4.size
  have sz7 := hbel7.size
  have sz8 := hbel8.size
  have sz13 := hbel13.size
  have kb0 : Blk wy g0 3 #[.int .i64 (manyN 0)] := blk_grown (blk_below (blk_below (blk_below (blk_below (blk_below (blk_below (blk_below hb0 hbel1) hbel2) hbel3) hbel4) hbel7) hbel8) hbel13) hgy (by have h9 : g0 ≠ g := (by omega); simpa using h9)
  have kb1 : Blk wy g1 3 #[.int .i64 (manyN 1)] := blk_grown (blk_below (blk_below (blk_below (blk_below (blk_below (blk_below hb1 hbel2) hbel3) hbel4) hbel7) hbel8) hbel13) hgy (by have h9 : g1 ≠ g := (by omega); simpa using h9)
  have kb2 : Blk wy g2 3 #[.int .i64 (manyN 2)] := blk_grown (blk_below (blk_below (blk_below (blk_below (blk_below hb2 hbel3) hbel4) hbel7) hbel8) hbel13) hgy (by have h9 : g2 ≠ g := (by omega); simpa using h9)
  have kb3 : Blk wy g3 3 #[.int .i64 (manyN 3)] := blk_grown (blk_below (blk_below (blk_below (blk_below hb3 hbel4) hbel7) hbel8) hbel13) hgy (by have h9 : g3 ≠ g := (by omega); simpa using h9)
  have kb4 : Blk wy g4 3 #[.int .i64 (manyN 4)] := blk_grown (blk_below (blk_below (blk_below hb4 hbel7) hbel8) hbel13) hgy (by have h9 : g4 ≠ g := (by omega); simpa using h9)
  have kb7 : Blk wy g7 3 #[.int .i64 (manyN 7)] := blk_grown (blk_below (blk_below hb7 hbel8) hbel13) hgy (by have h9 : g7 ≠ g := (by omega); simpa using h9)
  have kb8 : Blk wy g8 3 #[.int .i64 (manyN 8)] := blk_grown (blk_below hb8 hbel13) hgy (by have h9 : g8 ≠ g := (by omega); simpa using h9)
  have kb13 : Blk wy g13 3 #[.int .i64 (manyN 13)] := blk_grown hb13 hgy (by have h9 : g13 ≠ g := (by omega); simpa using h9)
  intro k hk
  have hcases : k = 0 ∨ k = 1 ∨ k = 2 ∨ k = 3 ∨ k = 4 ∨ k = 7 ∨ k = 8 ∨ k = 13 := by simpa [manyB, or_assoc] using hk
  rw [← Hbx.out]
  rcases hcases with rfl | rfl | rfl | rfl | rfl | rfl | rfl | rfl
  · exact ⟨kb0, by show w.heap.size ≤ g0; omega⟩
  · exact ⟨kb1, by show w.heap.size ≤ g1; omega⟩
  · exact ⟨kb2, by show w.heap.size ≤ g2; omega⟩
  · exact ⟨kb3, by show w.heap.size ≤ g3; omega⟩
  · exact ⟨kb4, by show w.heap.size ≤ g4; omega⟩
  · exact ⟨kb7, by show w.heap.size ≤ g7; omega⟩
  · exact ⟨kb8, by show w.heap.size ≤ g8; omega⟩
  · exact ⟨kb13, by show w.heap.size ≤ g13; omega⟩
end Go.Proofs.YtfnekpgbfdhnmaaDoor

namespace Go.Proofs.YtfnekpgbfdhnmaaDoor
open Go.RowKit Go.Proofs.YtfnekpgbfdhnmaaDoorW.PrintWords Go.Proofs.YtfnekpgbfdhnmaaDoorW.PrintLast Go.Proofs.YtfnekpgbfdhnmaaDoorW.PrintMore Go.Proofs.YtfnekpgbfdhnmaaDoor.PAll
/-- What a value is given up with. -/
def gaveUp (e : Int) : List PanicEntry := [{ v := .iface 27 (.int .i64 e), recovered := false }]
theorem vmust_ok (e : Int) (w : World) : Calls Tryd.prog 79 #[.bool true, .int .i64 e] w fun r w' => r = .returned (.tuple #[]) ∧ w = w' := by
  go_enter Tryd.func79, Tryd.ntmps79
  go_wp2
  go_end0
  exact ⟨rfl, rfl⟩
theorem vmust_bad (e : Int) (w : World) : Calls Tryd.prog 79 #[.bool false, .int .i64 e] w fun r w' => r = .panicked (gaveUp e) ∧ w = w' := by
  go_enter Tryd.func79, Tryd.ntmps79
  go_wp2
  exact ⟨rfl, rfl, rfl⟩
/-- May a value of this Kind have this number? -/
def numOk (k : Nat) (n : Int) : Bool := if k = 2 then true else if k = 4 then decide (0 ≤ n) else if k = 13 then decide (0 ≤ n) else if k = 10 then decide (0 ≤ n) && decide (n < 64) else if k = 11 then decide (0 ≤ n) && decide (n < 64) else if k = 12 then decide (0 ≤ n) && decide (n < 64) else n == 0
theorem vzero_calls (n : Int) (w : World) : Calls Tryd.prog 87 #[.int .i64 n] w fun r w' => r = .returned (.bool (n == 0)) ∧ w = w' := by
  go_enter Tryd.func87, Tryd.ntmps87
  go_wp2
  go_ret
  exact ⟨rfl, rfl⟩
theorem vany_calls (n : Int) (w : World) : Calls Tryd.prog 89 #[.int .i64 n] w fun r w' => r = .returned (.bool true) ∧ w = w' := by
  go_enter Tryd.func89, Tryd.ntmps89
  go_wp2
  go_ret
  exact ⟨rfl, rfl⟩
theorem vplace_calls (n : Int) (w : World) : Calls Tryd.prog 90 #[.int .i64 n] w fun r w' => r = .returned (.bool (decide (0 ≤ n))) ∧ w = w' := by
  go_enter Tryd.func90, Tryd.ntmps90
  go_wp2
  go_ret
  exact ⟨rfl, rfl⟩
theorem vfunction_calls (n : Int) (w : World) : Calls Tryd.prog 98 #[.int .i64 n] w fun r w' => r = .returned (.bool (decide (0 ≤ n) && decide (n < 64))) ∧ w = w' := by
  by_cases h : 0 ≤ n
  · rw [decide_eq_true h]
    go_enter Tryd.func98, Tryd.ntmps98
    go_wp2
    go_ret
    exact ⟨by simp, rfl⟩
  · rw [decide_eq_false h]
    go_enter Tryd.func98, Tryd.ntmps98
    go_wp2
    go_ret
    exact ⟨by simp, rfl⟩
theorem num_said (k : Nat) (n : Int) (w : World) : Calls Tryd.prog (numFn k) #[.int .i64 n] w fun r w' => r = .returned (.bool (numOk k n)) ∧ w = w' := by
  unfold numFn numOk
  split; exact vany_calls n w
  split; exact vplace_calls n w
  split; exact vplace_calls n w
  split; exact vfunction_calls n w
  split; exact vfunction_calls n w
  split; exact vfunction_calls n w
  exact vzero_calls n w
theorem num_invoke (k : Nat) (args : Array Value) (W : World) : (callFunc (numFn k) args).run Tryd.prog W = .ok (.enter (numFn k) args) W := by
  unfold numFn
  split; exact enters Tryd.func89 (by kernel_rfl) rfl args W
  split; exact enters Tryd.func90 (by kernel_rfl) rfl args W
  split; exact enters Tryd.func90 (by kernel_rfl) rfl args W
  split; exact enters Tryd.func98 (by kernel_rfl) rfl args W
  split; exact enters Tryd.func98 (by kernel_rfl) rfl args W
  split; exact enters Tryd.func98 (by kernel_rfl) rfl args W
  exact enters Tryd.func87 (by kernel_rfl) rfl args W
/-- May a value of this Kind have these values? -/
def valOk (k : Nat) (l : List Tree) : Bool := if k = 5 then lenChan l 2 else if k = 6 then lenChan l 1 else if k = 9 then chooseB l else if k = 10 then wrapB l else if k = 11 then decide (l.length ≤ 8) else if k = 12 then decide (l.length ≤ 8) else hasLen l (manyN k)
theorem val_invoke (k : Nat) (args : Array Value) (W : World) : (callFunc (valFn k) args).run Tryd.prog W = .ok (.enter (valFn k) args) W := by
  unfold valFn
  split; exact enters Tryd.func91 (by kernel_rfl) rfl args W
  split; exact enters Tryd.func93 (by kernel_rfl) rfl args W
  split; exact enters Tryd.func94 (by kernel_rfl) rfl args W
  split; exact enters Tryd.func99 (by kernel_rfl) rfl args W
  split; exact enters Tryd.func100 (by kernel_rfl) rfl args W
  split; exact enters Tryd.func100 (by kernel_rfl) rfl args W
  exact enters Tryd.func108 (by kernel_rfl) rfl args W
def valCap (bx : Nat → Nat) (k : Nat) : Array Value := if manyB k then #[.pointer (some ⟨bx k, 0, none⟩)] else #[]
theorem val_said_ (k : Nat) (hk : k ≤ 13) (bx : Nat → Nat) (A : Option Addr) (c : Nat) (l : List Tree) (w : World) (hC : Kd.C k26 w A l.length l) (hc : l.length ≤ c) (hb : ∀ k, manyB k = true → Blk w (bx k) 3 #[.int .i64 (manyN k)]) :
    Calls Tryd.prog (valFn k) (#[.slice A l.length c] ++ valCap bx k) w fun r w' => r = .returned (.bool (valOk k l)) ∧ Below w.heap.size w w' := by
  have hcases : k = 5 ∨ k = 6 ∨ k = 9 ∨ k = 10 ∨ k = 11 ∨ k = 12 ∨ (manyB k = true ∧ valFn k = 108 ∧ valOk k l = hasLen l (manyN k)) := by
    have : k = 0 ∨ k = 1 ∨ k = 2 ∨ k = 3 ∨ k = 4 ∨ k = 5 ∨ k = 6 ∨ k = 7 ∨ k = 8 ∨ k = 9 ∨ k = 10 ∨ k = 11 ∨ k = 12 ∨ k = 13 := by omega
    rcases this with rfl | rfl | rfl | rfl | rfl | rfl | rfl | rfl | rfl | rfl | rfl | rfl | rfl | rfl <;> simp [manyB, valFn, valOk]
  rcases hcases with rfl | rfl | rfl | rfl | rfl | rfl | ⟨h1, h2, h3⟩
  · exact send_calls A c l w hC
  · exact recv_calls A c l w hC
  · exact choose_calls A c l w hC
  · exact wrap_calls A c l w hC hc
  · exact (args_calls A l.length c w).mono (by rintro r w' ⟨rfl, rfl⟩; exact ⟨rfl, Below.refl _ _⟩)
  · exact (args_calls A l.length c w).mono (by rintro r w' ⟨rfl, rfl⟩; exact ⟨rfl, Below.refl _ _⟩)
  · rw [h2, h3]
    have hcap : valCap bx k = #[.pointer (some ⟨bx k, 0, none⟩)] := by unfold valCap; rw [h1]; rfl
    rw [hcap]
    exact (many1_calls A l.length c (bx k) (manyN k) w (hb k h1)).mono (by rintro r w' ⟨rfl, rfl⟩; exact ⟨rfl, Below.refl _ _⟩)
/-- May a part be? -/
def shapeOk (t : Tree) : Bool := decide (0 ≤ t.f0) && (decide (t.f0 < 14) && (numOk t.f0.toNat t.f1 && valOk t.f0.toNat t.f2))
/-- May a value be? -/
def rightB (t : Tree) : Bool := (partsF t).2 && (partsF t).1.all (fun p => shapeOk p.1)
/-- Where the shapes' functions lie. -/
theorem shapes_at (bx : Nat → Nat) (k : Nat) (hk : k ≤ 13) : (shapesV bx)[k * 2]? = some (numV k) ∧ (shapesV bx)[k * 2 + 1]? = some (valV bx k) := by
  have : k = 0 ∨ k = 1 ∨ k = 2 ∨ k = 3 ∨ k = 4 ∨ k = 5 ∨ k = 6 ∨ k = 7 ∨ k = 8 ∨ k = 9 ∨ k = 10 ∨ k = 11 ∨ k = 12 ∨ k = 13 := by omega
  rcases this with rfl | rfl | rfl | rfl | rfl | rfl | rfl | rfl | rfl | rfl | rfl | rfl | rfl | rfl <;> exact ⟨rfl, rfl⟩
end Go.Proofs.YtfnekpgbfdhnmaaDoor

namespace Go.Proofs.YtfnekpgbfdhnmaaDoor
open Go.RowKit Go.Proofs.YtfnekpgbfdhnmaaDoorW.PrintWords Go.Proofs.YtfnekpgbfdhnmaaDoorW.PrintLast Go.Proofs.YtfnekpgbfdhnmaaDoorW.PrintMore Go.Proofs.YtfnekpgbfdhnmaaDoor.PAll
theorem run_load_cell {P : Program} {o : Oper} {a : Act} {W : World} {T : TypeId} {x : Operand} (ho : o.op = .load T x) {g i : Nat} {t : TypeId} {cells : Array Value} {v : Value} {d : TypeDesc}
    (hx : a.eval x = .pointer (some ⟨g, i, none⟩)) (hb : Blk W g t cells) (hi : cells[i]? = some v) (hu : P.underlying T = some d) (hd : (match d with | .struct _ | .array _ _ => true | _ => false) = false) : (execOp a.eval o).run P W = .ok (.value v) W := by
  have hagg : (isAgg T).run P W = .ok false W := by
    unfold isAgg
    rw [Sem.run_bind, run_underlying hu W]
    cases d <;> simp_all
  have hc : W.cell? ⟨g, i, none⟩ = some v := (hb.cell i).trans hi
  unfold execOp
  simp [ho, hx, Instr.loadAt, Instr.sureAddr, Sem.run_bind, loadVar, hagg, load, Sem.run, hc]
/-- A function value of one argument is called. -/
theorem run_call_value {P : Program} {o : Oper} {a : Act} {W : World} {x y : Operand} {ts : Array TypeId} {f : FuncId} {cap : Array Value} {v : Value} (ho : o.op = .call { callee := .value x, args := #[y], argTypes := ts }) (hx : a.eval x = .func (.func f) #[] cap) (hy : a.eval y = v)
    (he : ∀ args W, (callFunc f args).run P W = .ok (.enter f args) W) : (execOp a.eval o).run P W = .ok (.enter f (#[v] ++ cap)) W := by
  generalize a.eval = ρ at *
  unfold execOp
  simp [ho, hx, hy, resolve, invoke, go_sem, he]
theorem run_geq {o : Oper} {a : Act} {W : World} {T : TypeId} {x y : Operand} {n m : Int} {b : Bool} (ho : o.op = .binOp .geq T x y T) (hT : Tryd.prog.underlying T = some (.int .i64)) (hx : a.eval x = .int .i64 n) (hy : a.eval y = .int .i64 m) (hb : decide (m ≤ n) = b) : (execOp a.eval o).run Tryd.prog W = .ok (.value (.bool b)) W := by
  generalize a.eval = ρ at *
  unfold execOp
  subst hb
  simp [ho, hx, hy, binOp, run_underlying hT, go_sem]
theorem run_lss {o : Oper} {a : Act} {W : World} {T : TypeId} {x y : Operand} {n m : Int} {b : Bool} (ho : o.op = .binOp .lss T x y T) (hT : Tryd.prog.underlying T = some (.int .i64)) (hx : a.eval x = .int .i64 n) (hy : a.eval y = .int .i64 m) (hb : decide (n < m) = b) : (execOp a.eval o).run Tryd.prog W = .ok (.value (.bool b)) W := by
  generalize a.eval = ρ at *
  unfold execOp
  subst hb
  simp [ho, hx, hy, binOp, run_underlying hT, go_sem]
theorem run_shapeAddr {o : Oper} {a : Act} {W : World} {x y : Operand} {g k : Nat} (ho : o.op = .indexAddr 139 x y) (hx : a.eval x = .pointer (some ⟨g, 0, none⟩)) (hy : a.eval y = .int .i64 (k : Nat)) (hk : k ≤ 13) : (execOp a.eval o).run Tryd.prog W = .ok (.value (.pointer (some ⟨g, k * 2, none⟩))) W := by
  generalize a.eval = ρ at *
  have hk2 : (k : Int) < 14 := by omega
  have : k = 0 ∨ k = 1 ∨ k = 2 ∨ k = 3 ∨ k = 4 ∨ k = 5 ∨ k = 6 ∨ k = 7 ∨ k = 8 ∨ k = 9 ∨ k = 10 ∨ k = 11 ∨ k = 12 ∨ k = 13 := by omega
  unfold execOp
  rw [ho]
  simp only [hx, hy]
  rcases this with rfl | rfl | rfl | rfl | rfl | rfl | rfl | rfl | rfl | rfl | rfl | rfl | rfl | rfl <;> (show _ = _; kernel_rfl)
section
variable {P : Program} {ops : Array Oper} {Q : Exit → Act → World → Prop} {md : Region.Mode} {S : World → Prop} {tl : Nat → Bool}
/-- One operation alone may come up, and it isn't wanted. -/
theorem draw_off {i : Nat} {o : Oper} {f : Nat} {listed l2 : Array Bool} {a : Act} {w : World} (hr : Region.ready md ops listed = [i]) (hl : listed.setIfInBounds i true = l2) (hi : ops[i]? = some o) (hw : Region.wanted o (yielded ops a.tmps) = false) (hS : S w)
    (h : AnyL P md ops Q S tl f l2 (a.put o.dst undef) w) : AnyL P md ops Q S tl (f + 1) listed a w := draw_one hr hl (op_off hi hw ⟨fun _ => hS, h⟩)
/-- One operation alone may come up: a call. -/
theorem draw_call {i : Nat} {o : Oper} {f : Nat} {listed l2 : Array Bool} {a : Act} {w : World} {fn : FuncId} {args : Array Value} {R : Ending → World → Prop} (hr : Region.ready md ops listed = [i]) (hl : listed.setIfInBounds i true = l2) (hi : ops[i]? = some o)
    (hw : Region.wanted o (yielded ops a.tmps) = true) (hrun : (execOp a.eval o).run P w = .ok (.enter fn args) w) (hc : Calls P fn args w R)
    (h : ∀ v w1, R (.returned v) w1 → S w1 ∧ AnyL P md ops Q S tl f l2 (a.put o.dst v) w1) (hp : ∀ c w1, R (.panicked c) w1 → Q (.panic c) a w1) (ho : ∀ w1, ¬ R .outgrown w1) : AnyL P md ops Q S tl (f + 1) listed a w :=
  draw_one hr hl (op_call hi hw hrun hc (fun v w1 hR => ⟨fun _ => (h v w1 hR).1, (h v w1 hR).2⟩) hp ho)
end
theorem run_call_plain {P : Program} {o : Oper} {a : Act} {W : World} {x y : Operand} {ts : Array TypeId} {f : FuncId} {v : Value} (ho : o.op = .call { callee := .value x, args := #[y], argTypes := ts }) (hx : a.eval x = .func (.func f) #[] #[]) (hy : a.eval y = v)
    (he : ∀ args W, (callFunc f args).run P W = .ok (.enter f args) W) : (execOp a.eval o).run P W = .ok (.enter f #[v]) W := run_call_value ho hx hy he
/-- What a call of right comes to. -/
def RightPost (w : World) (l : List Tree) (e : Ending) (w' : World) : Prop :=
  (e = if l.all rightB then .returned (.tuple #[]) else .panicked (gaveUp 40)) ∧ Below w.heap.size w w'
theorem all_take_succ {α : Type} {p : α → Bool} {l : List α} {i : Nat} {x : α} (h : (l.take i).all p = true) (hi : l[i]? = some x) : (l.take (i + 1)).all p = p x := by
  rw [List.take_add_one, hi]
  simp [List.all_append, h]
theorem all_false {α : Type} {p : α → Bool} {l : List α} {i : Nat} {x : α} (hi : l[i]? = some x) (h : p x = false) : l.all p = false := by
  rw [List.all_eq_false]
  exact ⟨x, List.mem_of_getElem? hi, by simp [h]⟩
theorem below_of_grown0 {A B : World} (h : A.grownBy B none) : Below A.heap.size A B := ⟨h.os, h.tape, h.output, h.size, fun k hk => h.block k hk (by simp)⟩
theorem rd_at {l : List Tree} {i : Nat} (h : i < l.length) : l[i]? = some (rd_T26 l i) := by
  simp [rd_T26, List.getD_eq_getElem?_getD, h]
set_option maxRecDepth 100000 in
set_option maxHeartbeats 8000000 in
theorem right_calls (A : Option Addr) (c : Nat) (l : List Tree) (w : World) (hC : Kd.C k26 w A l.length l) :
    Calls Tryd.prog 64 #[.slice A l.length c] w (RightPost w l) := by
  have hmax := Kd.C_max hC
  go_enter Tryd.func64, Tryd.ntmps64
  go_wp2_with (first
    | (go_at_call 78; (with_reducible refine (shapes_calls _).mono ?_); rintro e w1 ⟨bx, rfl, hbx1, hbel1⟩)
    | ((with_reducible refine gate_dst (N := 2) rfl ?_); refine box_event rfl (N := 2) rfl (cs := shapes0) (t := 139) (by kernel_rfl) ?_; intro g2 hg2 w2 hb2 hbel2; have hge2 : w1.heap.size ≤ g2 := Nat.le_of_eq hg2.symm; clear hg2)
    | ((with_reducible refine gate_store (t := 139) (p := 2) rfl ?_); refine store_row_event rfl rfl rfl rfl hb2 (by kernel_rfl) (by kernel_rfl) (by kernel_rfl) ?_; intro w3 hb3 hg3))
  have hs1 := hbel1.size
  have hs2 := hbel2.size
  have hB3 : Below w.heap.size w w3 := (below_step hbel1 hbel2).grown hg3 (by omega) (by rintro k ⟨⟩; omega)
  have hbx3 : ∀ k, manyB k = true → Blk w3 (bx k) 3 #[.int .i64 (manyN k)] := fun k hk => by
    have h1 := (hbx1 k hk).1
    have h2 := h1.lt
    exact blk_grown (blk_below h1 hbel2) hg3 (by have : bx k ≠ g2 := (by omega); simpa using this)
  clear hbx1
  go_loopw [12] (fun t wr => ∃ i : Nat, t = .int .i64 i ∧ i ≤ l.length ∧ (l.take i).all rightB = true ∧ Blk wr g2 139 (shapesV bx) ∧ (∀ k, manyB k = true → Blk wr (bx k) 3 #[.int .i64 (manyN k)]) ∧ Below w.heap.size w wr) (fun t _ => l.length - (intOf t).toNat)
  case atStart => exact ⟨0, rfl, by omega, by simp, hb3, hbx3, hB3⟩
  case round =>
    obtain ⟨i, rfl, hi, hall, hb2r, hbxr, hBr⟩ := hrel
    have Hall := Lib.hid hall
    have Hbxr := Lib.hid hbxr
    have HC := Lib.hid hC
    clear hall hbxr hbx3 hC
    obtain ⟨wo, hwo⟩ : ∃ wo : World, wo = wr := ⟨_, rfl⟩
    subst hwo
    by_cases hlt : i < l.length
    · have hCr := Kd.C_below HC.out hBr
      obtain ⟨ad, A2, cx, rfl, h0, h1, h2, hlx, hCx⟩ := at_T26 hCr i (by omega) (by omega)
      rw [show ((i : Nat) : Int).toNat * 3 = i * 3 from by simp] at h0 h1 h2
      have hxi := rd_at hlt
      clear hCr
      generalize hx : rd_T26 l i = x at *
      have Hxi := Lib.hid hxi
      clear hx hxi
      obtain ⟨f0, f1, f2⟩ := x
      dsimp only at h0 h1 h2 hlx hCx
      have hpc := fun W hW => parts_calls ⟨f0, f1, f2⟩ A2 cx W (Kd.C_below hCx hW) hlx
      have Hpc := Lib.hid hpc
      clear hpc
      cases hfine : (partsF ⟨f0, f1, f2⟩).2 with
      | false =>
        have hrb : rightB ⟨f0, f1, f2⟩ = false := by unfold rightB; rw [hfine]; rfl
        have Hrb := Lib.hid (all_false Hxi.out hrb)
        have Hfine := Lib.hid hfine
        clear hrb hfine
        generalize hL2 : f2.length = L2 at *
        go_wp2_with (first
          | ((with_reducible refine gate_dst (N := 4) rfl ?_); refine box_event rfl (N := 4) rfl (cs := #[.int .i64 0, .int .i64 0, .slice none 0 0]) (t := 26) (by kernel_rfl) ?_; intro g4 hg4 w4 hb4 hbel4; have hge4 : wo.heap.size ≤ g4 := Nat.le_of_eq hg4.symm; clear hg4)
          | ((with_reducible refine gate_store (t := 26) (p := 4) rfl ?_); refine store_row_event rfl rfl rfl rfl hb4 (by kernel_rfl) rfl (by kernel_rfl) ?_; intro w5 hb5 hg5; have hB5 : Below wo.heap.size wo w5 := hbel4.grown hg5 hbel4.size (by rintro k ⟨⟩; exact hge4))
          | ((with_reducible refine gate_dst (N := 17) rfl ?_); refine wpList_load_row rfl 26 _ rfl g4 rfl 26 _ (0, 0) _ hb5 Tryd.underlying26 rfl (by kernel_rfl) ?_)
          | (go_at_call 42; (with_reducible refine (Hpc.out _ hB5).mono ?_); rintro e w6 ⟨v, rfl, hRv, hbel6⟩; rw [Hfine.out])
          | (go_at_call 79; (with_reducible refine (vmust_bad _ _).mono ?_); rintro e w7 ⟨rfl, rfl⟩))
        exact ⟨rfl, by rw [Hrb.out]; rfl, hBr.trans ((hB5.trans (hbel6.mono hB5.size)).mono hBr.size)⟩
      | true =>
        have Hfine := Lib.hid hfine
        clear hfine
        generalize hL2 : f2.length = L2 at *
        have HL2 := Lib.hid hL2
        clear hL2
        go_wp2_with (first
          | ((with_reducible refine gate_dst (N := 4) rfl ?_); refine box_event rfl (N := 4) rfl (cs := #[.int .i64 0, .int .i64 0, .slice none 0 0]) (t := 26) (by kernel_rfl) ?_; intro g4 hg4 w4 hb4 hbel4; have hge4 : wo.heap.size ≤ g4 := Nat.le_of_eq hg4.symm; clear hg4)
          | ((with_reducible refine gate_store (t := 26) (p := 4) rfl ?_); refine store_row_event rfl rfl rfl rfl hb4 (by kernel_rfl) rfl (by kernel_rfl) ?_; intro w5 hb5 hg5; have hB5 : Below wo.heap.size wo w5 := hbel4.grown hg5 hbel4.size (by rintro k ⟨⟩; exact hge4))
          | ((with_reducible refine gate_dst (N := 17) rfl ?_); refine wpList_load_row rfl 26 _ rfl g4 rfl 26 _ (0, 0) _ hb5 Tryd.underlying26 rfl (by kernel_rfl) ?_)
          | (go_at_call 42; (with_reducible refine (Hpc.out _ hB5).mono ?_); rintro e w6 ⟨v, rfl, hRv, hbel6⟩; rw [Hfine.out]; obtain ⟨Av, cv, rfl⟩ := Kd.R_slice hRv)
          | (go_at_call 79; (with_reducible refine (vmust_ok _ _).mono ?_); rintro e w7 ⟨rfl, rfl⟩))
        have hB6 : Below wo.heap.size wo w6 := hB5.trans (hbel6.mono hB5.size)
        obtain ⟨ps, hps⟩ : ∃ ps, ps = (partsF ⟨f0, f1, f2⟩).1 := ⟨_, rfl⟩
        rw [← hps] at hRv ⊢
        have Hps := Lib.hid hps
        clear hps
        have hmx6 : ps.length ≤ 9223372036854775807 := Kd.C_max (Kd.R_reads' hRv).2.2
        have hs5 := hB5.size
        have hs6 := hbel6.size
        have h2lt := hb2r.lt
        go_loopw [25] (fun t wr => ∃ j : Nat, t = .int .i64 j ∧ j ≤ ps.length ∧ (ps.take j).all (fun p => shapeOk p.1) = true ∧ Below w6.heap.size w6 wr) (fun t _ => ps.length - (intOf t).toNat)
        case atStart => exact ⟨0, rfl, by omega, by simp, Below.refl _ _⟩
        case round =>
          obtain ⟨j, rfl, hj, hall2, hBr2⟩ := hrel
          have Hall2 := Lib.hid hall2
          clear hall2
          by_cases hjlt : j < ps.length
          · have hRr := Kd.R_below hRv hBr2
            obtain ⟨adp, Ax, cx, hAv, e0, e1, e2, e3, hlp, hCp⟩ := part_at hRr hjlt
            subst hAv
            have hpj : ps[j]? = some (ps.getD j part0) := by simp [List.getD_eq_getElem?_getD, hjlt]
            generalize hp : ps.getD j part0 = p at *
            have Hpj := Lib.hid hpj
            clear hpj hp hRr
            obtain ⟨⟨k0, k1, k2⟩, d⟩ := p
            dsimp only at e0 e1 e2 e3 hlp hCp
            have hb2r2 : Blk wr g2 139 (shapesV bx) := blk_below (blk_below hb2r hB6) hBr2
            have hBwr : Below wo.heap.size wo wr := hB6.trans (hBr2.mono (by omega))
            have hsr := hBwr.size
            have hbad : shapeOk ⟨k0, k1, k2⟩ = false → l.all rightB = false := fun h => all_false Hxi.out (by
              unfold rightB; rw [Hfine.out, ← Hps.out]; exact all_false Hpj.out h)
            have HBx : Hid (∀ W, Below wr.heap.size wr W → ∀ k, manyB k = true → Blk W (bx k) 3 #[.int .i64 (manyN k)]) := fun W hW k hk => blk_below (blk_below (Hbxr.out k hk) hBwr) hW
            have HCp : Hid (∀ W, Below wr.heap.size wr W → Kd.C k26 W Ax k2.length k2) := fun W hW => Kd.C_below hCp (hbel6.trans ((hBr2.trans (hW.mono hBr2.size)).mono hbel6.size))
            clear hCp
            generalize hL : k2.length = L at *
            have HL := Lib.hid hL
            clear hL
            have hBall : Below w.heap.size w wr := hBr.trans (hBwr.mono hBr.size)
            by_cases hk0 : 0 ≤ k0
            · by_cases hk14 : k0 < 14
              · obtain ⟨k, rfl⟩ : ∃ k : Nat, k0 = (k : Int) := ⟨k0.toNat, by omega⟩
                have hk13 : k ≤ 13 := by omega
                have hat := shapes_at bx k hk13
                have hsh : shapeOk ⟨(k : Int), k1, k2⟩ = (numOk k k1 && valOk k k2) := by unfold shapeOk; simp [hk14]
                cases hnum : numOk k k1 with
                | false =>
                  have Hbad := Lib.hid (hbad (by rw [hsh, hnum]; rfl))
                  clear hbad hsh
                  have Hnum := Lib.hid hnum
                  clear hnum
                  go_wp2_with (first
                    | ((with_reducible refine gate_dst (N := 8) rfl ?_); refine box_event rfl (N := 8) rfl (cs := #[.int .i64 0, .int .i64 0, .slice none 0 0, .int .i64 0]) (t := 95) (by kernel_rfl) ?_; intro g8 hg8 w8 hb8 hbel8; have hge8 : wr.heap.size ≤ g8 := Nat.le_of_eq hg8.symm; clear hg8)
                    | ((with_reducible refine gate_store (t := 95) (p := 8) rfl ?_); refine store_row_event rfl rfl rfl rfl hb8 (by kernel_rfl) rfl (by kernel_rfl) ?_; intro w9 hb9 hg9; have hB9 : Below wr.heap.size wr w9 := hbel8.grown hg9 hbel8.size (by rintro k ⟨⟩; exact hge8)))
                  refine draw_begin (fun W' => Blk W' g2 139 (shapesV bx) ∧ Blk W' g8 95 #[.int .i64 (k : Nat), .int .i64 k1, .slice Ax L cx, .int .i64 d]) (fun _ => false) (by kernel_rfl) (n := 35) rfl rfl ?_
                  intro W _hWh hWg
                  clear _hWh
                  have hWB : Below wr.heap.size wr W := hB9.trans ((below_of_grown0 hWg).mono hB9.size)
                  have HS0 : Blk W g2 139 (shapesV bx) ∧ Blk W g8 95 #[.int .i64 (k : Nat), .int .i64 k1, .slice Ax L cx, .int .i64 d] := ⟨blk_below hb2r2 hWB, blk_grown hb9 hWg (by simp)⟩
                  refine draw_take (i := 0) (l2 := #[true, false, false, false, false, false, false, false, false, false, false, false, false, false, false, false, false, false, false, false, false, false, false, false, false, false, false, false, false, false, false, false, false, false, false]) (v := .pointer (some ⟨g8, 0, none⟩)) rfl (by kernel_rfl) (by kernel_rfl) (by kernel_rfl) (by kernel_rfl) (by kernel_rfl) (fun _ _ _ h => h) (.inl ⟨by kernel_rfl, fun W' hS => ?_⟩) HS0 ?_
                  · kernel_rfl
                  refine draw_take (i := 1) (l2 := #[true, true, false, false, false, false, false, false, false, false, false, false, false, false, false, false, false, false, false, false, false, false, false, false, false, false, false, false, false, false, false, false, false, false, false]) (v := .pointer (some ⟨g8, 0, none⟩)) rfl (by kernel_rfl) (by kernel_rfl) (by kernel_rfl) (by kernel_rfl) (by kernel_rfl) (fun _ _ _ h => h) (.inl ⟨by kernel_rfl, fun W' hS => ?_⟩) HS0 ?_
                  · kernel_rfl
                  refine draw_take (i := 2) (l2 := #[true, true, true, false, false, false, false, false, false, false, false, false, false, false, false, false, false, false, false, false, false, false, false, false, false, false, false, false, false, false, false, false, false, false, false]) (v := .int .i64 (k : Nat)) rfl (by kernel_rfl) (by kernel_rfl) (by kernel_rfl) (by kernel_rfl) (by kernel_rfl) (fun _ _ _ h => h) (.inl ⟨by kernel_rfl, fun W' hS => ?_⟩) HS0 ?_
                  · exact run_load_cell rfl (by kernel_rfl) hS.2 (i := 0) rfl Tryd.underlying23 rfl
                  refine draw_take (i := 3) (l2 := #[true, true, true, true, false, false, false, false, false, false, false, false, false, false, false, false, false, false, false, false, false, false, false, false, false, false, false, false, false, false, false, false, false, false, false]) (v := .bool true) rfl (by kernel_rfl) (by kernel_rfl) (by kernel_rfl) (by kernel_rfl) (by kernel_rfl) (fun _ _ _ h => h) (.inl ⟨by kernel_rfl, fun W' hS => ?_⟩) HS0 ?_
                  · exact run_geq rfl Tryd.underlying23 (by kernel_rfl) (by kernel_rfl) (n := (k : Nat)) (m := 0) (decide_eq_true (by omega))
                  refine draw_take (i := 4) (l2 := #[true, true, true, true, true, false, false, false, false, false, false, false, false, false, false, false, false, false, false, false, false, false, false, false, false, false, false, false, false, false, false, false, false, false, false]) (v := .bool true) rfl (by kernel_rfl) (by kernel_rfl) (by kernel_rfl) (by kernel_rfl) (by kernel_rfl) (fun _ _ _ h => h) (.inl ⟨by kernel_rfl, fun W' hS => ?_⟩) HS0 ?_
                  · kernel_rfl
                  refine draw_take (i := 5) (l2 := #[true, true, true, true, true, true, false, false, false, false, false, false, false, false, false, false, false, false, false, false, false, false, false, false, false, false, false, false, false, false, false, false, false, false, false]) (v := .pointer (some ⟨g8, 0, none⟩)) rfl (by kernel_rfl) (by kernel_rfl) (by kernel_rfl) (by kernel_rfl) (by kernel_rfl) (fun _ _ _ h => h) (.inl ⟨by kernel_rfl, fun W' hS => ?_⟩) HS0 ?_
                  · kernel_rfl
                  refine draw_take (i := 6) (l2 := #[true, true, true, true, true, true, true, false, false, false, false, false, false, false, false, false, false, false, false, false, false, false, false, false, false, false, false, false, false, false, false, false, false, false, false]) (v := .pointer (some ⟨g8, 0, none⟩)) rfl (by kernel_rfl) (by kernel_rfl) (by kernel_rfl) (by kernel_rfl) (by kernel_rfl) (fun _ _ _ h => h) (.inl ⟨by kernel_rfl, fun W' hS => ?_⟩) HS0 ?_
                  · kernel_rfl
                  refine draw_take (i := 7) (l2 := #[true, true, true, true, true, true, true, true, false, false, false, false, false, false, false, false, false, false, false, false, false, false, false, false, false, false, false, false, false, false, false, false, false, false, false]) (v := .int .i64 (k : Nat)) rfl (by kernel_rfl) (by kernel_rfl) (by kernel_rfl) (by kernel_rfl) (by kernel_rfl) (fun _ _ _ h => h) (.inl ⟨by kernel_rfl, fun W' hS => ?_⟩) HS0 ?_
                  · exact run_load_cell rfl (by kernel_rfl) hS.2 (i := 0) rfl Tryd.underlying23 rfl
                  refine draw_take (i := 8) (l2 := #[true, true, true, true, true, true, true, true, true, false, false, false, false, false, false, false, false, false, false, false, false, false, false, false, false, false, false, false, false, false, false, false, false, false, false]) (v := .bool true) rfl (by kernel_rfl) (by kernel_rfl) (by kernel_rfl) (by kernel_rfl) (by kernel_rfl) (fun _ _ _ h => h) (.inl ⟨by kernel_rfl, fun W' hS => ?_⟩) HS0 ?_
                  · exact run_lss rfl Tryd.underlying3 (by kernel_rfl) (by kernel_rfl) (n := (k : Nat)) (m := 14) (decide_eq_true (by omega))
                  refine draw_take (i := 9) (l2 := #[true, true, true, true, true, true, true, true, true, true, false, false, false, false, false, false, false, false, false, false, false, false, false, false, false, false, false, false, false, false, false, false, false, false, false]) (v := .bool true) rfl (by kernel_rfl) (by kernel_rfl) (by kernel_rfl) (by kernel_rfl) (by kernel_rfl) (fun _ _ _ h => h) (.inl ⟨by kernel_rfl, fun W' hS => ?_⟩) HS0 ?_
                  · kernel_rfl
                  refine draw_take (i := 10) (l2 := #[true, true, true, true, true, true, true, true, true, true, true, false, false, false, false, false, false, false, false, false, false, false, false, false, false, false, false, false, false, false, false, false, false, false, false]) (v := .bool true) rfl (by kernel_rfl) (by kernel_rfl) (by kernel_rfl) (by kernel_rfl) (by kernel_rfl) (fun _ _ _ h => h) (.inl ⟨by kernel_rfl, fun W' hS => ?_⟩) HS0 ?_
                  · kernel_rfl
                  refine draw_take (i := 11) (l2 := #[true, true, true, true, true, true, true, true, true, true, true, true, false, false, false, false, false, false, false, false, false, false, false, false, false, false, false, false, false, false, false, false, false, false, false]) (v := .pointer (some ⟨g8, 0, none⟩)) rfl (by kernel_rfl) (by kernel_rfl) (by kernel_rfl) (by kernel_rfl) (by kernel_rfl) (fun _ _ _ h => h) (.inl ⟨by kernel_rfl, fun W' hS => ?_⟩) HS0 ?_
                  · kernel_rfl
                  refine draw_take (i := 12) (l2 := #[true, true, true, true, true, true, true, true, true, true, true, true, true, false, false, false, false, false, false, false, false, false, false, false, false, false, false, false, false, false, false, false, false, false, false]) (v := .pointer (some ⟨g8, 0, none⟩)) rfl (by kernel_rfl) (by kernel_rfl) (by kernel_rfl) (by kernel_rfl) (by kernel_rfl) (fun _ _ _ h => h) (.inl ⟨by kernel_rfl, fun W' hS => ?_⟩) HS0 ?_
                  · kernel_rfl
                  refine draw_take (i := 13) (l2 := #[true, true, true, true, true, true, true, true, true, true, true, true, true, true, false, false, false, false, false, false, false, false, false, false, false, false, false, false, false, false, false, false, false, false, false]) (v := .int .i64 (k : Nat)) rfl (by kernel_rfl) (by kernel_rfl) (by kernel_rfl) (by kernel_rfl) (by kernel_rfl) (fun _ _ _ h => h) (.inl ⟨by kernel_rfl, fun W' hS => ?_⟩) HS0 ?_
                  · exact run_load_cell rfl (by kernel_rfl) hS.2 (i := 0) rfl Tryd.underlying23 rfl
                  refine draw_take (i := 14) (l2 := #[true, true, true, true, true, true, true, true, true, true, true, true, true, true, true, false, false, false, false, false, false, false, false, false, false, false, false, false, false, false, false, false, false, false, false]) (v := .pointer (some ⟨g2, k * 2, none⟩)) rfl (by kernel_rfl) (by kernel_rfl) (by kernel_rfl) (by kernel_rfl) (by kernel_rfl) (fun _ _ _ h => h) (.inl ⟨by kernel_rfl, fun W' hS => ?_⟩) HS0 ?_
                  · exact run_shapeAddr rfl (by kernel_rfl) (by kernel_rfl) hk13
                  refine draw_take (i := 15) (l2 := #[true, true, true, true, true, true, true, true, true, true, true, true, true, true, true, true, false, false, false, false, false, false, false, false, false, false, false, false, false, false, false, false, false, false, false]) (v := .pointer (some ⟨g2, k * 2, none⟩)) rfl (by kernel_rfl) (by kernel_rfl) (by kernel_rfl) (by kernel_rfl) (by kernel_rfl) (fun _ _ _ h => h) (.inl ⟨by kernel_rfl, fun W' hS => ?_⟩) HS0 ?_
                  · kernel_rfl
                  refine draw_take (i := 16) (l2 := #[true, true, true, true, true, true, true, true, true, true, true, true, true, true, true, true, true, false, false, false, false, false, false, false, false, false, false, false, false, false, false, false, false, false, false]) (v := .func (.func (numFn k)) #[] #[]) rfl (by kernel_rfl) (by kernel_rfl) (by kernel_rfl) (by kernel_rfl) (by kernel_rfl) (fun _ _ _ h => h) (.inl ⟨by kernel_rfl, fun W' hS => ?_⟩) HS0 ?_
                  · exact run_load_cell rfl (by kernel_rfl) hS.1 hat.1 Tryd.underlying136 rfl
                  refine draw_take (i := 17) (l2 := #[true, true, true, true, true, true, true, true, true, true, true, true, true, true, true, true, true, true, false, false, false, false, false, false, false, false, false, false, false, false, false, false, false, false, false]) (v := .pointer (some ⟨g8, 0, none⟩)) rfl (by kernel_rfl) (by kernel_rfl) (by kernel_rfl) (by kernel_rfl) (by kernel_rfl) (fun _ _ _ h => h) (.inl ⟨by kernel_rfl, fun W' hS => ?_⟩) HS0 ?_
                  · kernel_rfl
                  refine draw_take (i := 18) (l2 := #[true, true, true, true, true, true, true, true, true, true, true, true, true, true, true, true, true, true, true, false, false, false, false, false, false, false, false, false, false, false, false, false, false, false, false]) (v := .pointer (some ⟨g8, 1, none⟩)) rfl (by kernel_rfl) (by kernel_rfl) (by kernel_rfl) (by kernel_rfl) (by kernel_rfl) (fun _ _ _ h => h) (.inl ⟨by kernel_rfl, fun W' hS => ?_⟩) HS0 ?_
                  · kernel_rfl
                  refine draw_take (i := 19) (l2 := #[true, true, true, true, true, true, true, true, true, true, true, true, true, true, true, true, true, true, true, true, false, false, false, false, false, false, false, false, false, false, false, false, false, false, false]) (v := .int .i64 k1) rfl (by kernel_rfl) (by kernel_rfl) (by kernel_rfl) (by kernel_rfl) (by kernel_rfl) (fun _ _ _ h => h) (.inl ⟨by kernel_rfl, fun W' hS => ?_⟩) HS0 ?_
                  · exact run_load_cell rfl (by kernel_rfl) hS.2 (i := 1) rfl Tryd.underlying2 rfl
                  refine draw_call (i := 20) (l2 := #[true, true, true, true, true, true, true, true, true, true, true, true, true, true, true, true, true, true, true, true, true, false, false, false, false, false, false, false, false, false, false, false, false, false, false]) ?h1_r ?h1_l (show _ from rfl) ?h1_w ?h1_run (num_said k k1 _) ?h1_k ?h1_p ?h1_o
                  case h1_r => kernel_rfl
                  case h1_l => kernel_rfl
                  case h1_w => kernel_rfl
                  case h1_run => exact (run_call_plain rfl (by kernel_rfl) (by kernel_rfl) (num_invoke k))
                  case h1_o => exact (fun W1 h => by cases h.1)
                  case h1_p => exact (fun c W1 h => by cases h.1)
                  intro v W1 h
                  obtain ⟨h1, rfl⟩ := h
                  injection h1 with h1
                  rw [Hnum.out] at h1
                  subst h1
                  refine ⟨HS0, ?_⟩
                  refine draw_take (i := 21) (l2 := #[true, true, true, true, true, true, true, true, true, true, true, true, true, true, true, true, true, true, true, true, true, true, false, false, false, false, false, false, false, false, false, false, false, false, false]) (v := .bool false) rfl (by kernel_rfl) (by kernel_rfl) (by kernel_rfl) (by kernel_rfl) (by kernel_rfl) (fun _ _ _ h => h) (.inl ⟨by kernel_rfl, fun W' hS => ?_⟩) HS0 ?_
                  · kernel_rfl
                  refine draw_take (i := 22) (l2 := #[true, true, true, true, true, true, true, true, true, true, true, true, true, true, true, true, true, true, true, true, true, true, true, false, false, false, false, false, false, false, false, false, false, false, false]) (v := .bool false) rfl (by kernel_rfl) (by kernel_rfl) (by kernel_rfl) (by kernel_rfl) (by kernel_rfl) (fun _ _ _ h => h) (.inl ⟨by kernel_rfl, fun W' hS => ?_⟩) HS0 ?_
                  · kernel_rfl
                  refine draw_take (i := 23) (l2 := #[true, true, true, true, true, true, true, true, true, true, true, true, true, true, true, true, true, true, true, true, true, true, true, true, false, false, false, false, false, false, false, false, false, false, false]) (v := undef) rfl (by kernel_rfl) (by kernel_rfl) (by kernel_rfl) (by kernel_rfl) (by kernel_rfl) (fun _ _ _ h => h) (.inr ⟨by kernel_rfl, rfl⟩) HS0 ?_
                  refine draw_take (i := 24) (l2 := #[true, true, true, true, true, true, true, true, true, true, true, true, true, true, true, true, true, true, true, true, true, true, true, true, true, false, false, false, false, false, false, false, false, false, false]) (v := undef) rfl (by kernel_rfl) (by kernel_rfl) (by kernel_rfl) (by kernel_rfl) (by kernel_rfl) (fun _ _ _ h => h) (.inr ⟨by kernel_rfl, rfl⟩) HS0 ?_
                  refine draw_take (i := 25) (l2 := #[true, true, true, true, true, true, true, true, true, true, true, true, true, true, true, true, true, true, true, true, true, true, true, true, true, true, false, false, false, false, false, false, false, false, false]) (v := undef) rfl (by kernel_rfl) (by kernel_rfl) (by kernel_rfl) (by kernel_rfl) (by kernel_rfl) (fun _ _ _ h => h) (.inr ⟨by kernel_rfl, rfl⟩) HS0 ?_
                  refine draw_take (i := 26) (l2 := #[true, true, true, true, true, true, true, true, true, true, true, true, true, true, true, true, true, true, true, true, true, true, true, true, true, true, true, false, false, false, false, false, false, false, false]) (v := undef) rfl (by kernel_rfl) (by kernel_rfl) (by kernel_rfl) (by kernel_rfl) (by kernel_rfl) (fun _ _ _ h => h) (.inr ⟨by kernel_rfl, rfl⟩) HS0 ?_
                  refine draw_take (i := 27) (l2 := #[true, true, true, true, true, true, true, true, true, true, true, true, true, true, true, true, true, true, true, true, true, true, true, true, true, true, true, true, false, false, false, false, false, false, false]) (v := undef) rfl (by kernel_rfl) (by kernel_rfl) (by kernel_rfl) (by kernel_rfl) (by kernel_rfl) (fun _ _ _ h => h) (.inr ⟨by kernel_rfl, rfl⟩) HS0 ?_
                  refine draw_take (i := 28) (l2 := #[true, true, true, true, true, true, true, true, true, true, true, true, true, true, true, true, true, true, true, true, true, true, true, true, true, true, true, true, true, false, false, false, false, false, false]) (v := undef) rfl (by kernel_rfl) (by kernel_rfl) (by kernel_rfl) (by kernel_rfl) (by kernel_rfl) (fun _ _ _ h => h) (.inr ⟨by kernel_rfl, rfl⟩) HS0 ?_
                  refine draw_take (i := 29) (l2 := #[true, true, true, true, true, true, true, true, true, true, true, true, true, true, true, true, true, true, true, true, true, true, true, true, true, true, true, true, true, true, false, false, false, false, false]) (v := undef) rfl (by kernel_rfl) (by kernel_rfl) (by kernel_rfl) (by kernel_rfl) (by kernel_rfl) (fun _ _ _ h => h) (.inr ⟨by kernel_rfl, rfl⟩) HS0 ?_
                  refine draw_take (i := 30) (l2 := #[true, true, true, true, true, true, true, true, true, true, true, true, true, true, true, true, true, true, true, true, true, true, true, true, true, true, true, true, true, true, true, false, false, false, false]) (v := undef) rfl (by kernel_rfl) (by kernel_rfl) (by kernel_rfl) (by kernel_rfl) (by kernel_rfl) (fun _ _ _ h => h) (.inr ⟨by kernel_rfl, rfl⟩) HS0 ?_
                  refine draw_take (i := 31) (l2 := #[true, true, true, true, true, true, true, true, true, true, true, true, true, true, true, true, true, true, true, true, true, true, true, true, true, true, true, true, true, true, true, true, false, false, false]) (v := undef) rfl (by kernel_rfl) (by kernel_rfl) (by kernel_rfl) (by kernel_rfl) (by kernel_rfl) (fun _ _ _ h => h) (.inr ⟨by kernel_rfl, rfl⟩) HS0 ?_
                  refine draw_off (i := 32) (l2 := #[true, true, true, true, true, true, true, true, true, true, true, true, true, true, true, true, true, true, true, true, true, true, true, true, true, true, true, true, true, true, true, true, true, false, false]) (by kernel_rfl) (by kernel_rfl) rfl (by kernel_rfl) HS0 ?_
                  refine draw_take (i := 33) (l2 := #[true, true, true, true, true, true, true, true, true, true, true, true, true, true, true, true, true, true, true, true, true, true, true, true, true, true, true, true, true, true, true, true, true, true, false]) (v := .bool false) rfl (by kernel_rfl) (by kernel_rfl) (by kernel_rfl) (by kernel_rfl) (by kernel_rfl) (fun _ _ _ h => h) (.inl ⟨by kernel_rfl, fun W' hS => ?_⟩) HS0 ?_
                  · kernel_rfl
                  refine draw_call (i := 34) (l2 := #[true, true, true, true, true, true, true, true, true, true, true, true, true, true, true, true, true, true, true, true, true, true, true, true, true, true, true, true, true, true, true, true, true, true, true]) ?h2_r ?h2_l (show _ from rfl) ?h2_w ?h2_run (vmust_bad 40 _) ?h2_k ?h2_p ?h2_o
                  case h2_r => kernel_rfl
                  case h2_l => kernel_rfl
                  case h2_w => kernel_rfl
                  case h2_run => kernel_rfl
                  case h2_o => exact (fun W1 h => by cases h.1)
                  case h2_k => exact (fun v W1 h => by cases h.1)
                  intro c W3 h
                  obtain ⟨h1, rfl⟩ := h
                  injection h1 with h1
                  subst h1
                  exact ⟨rfl, by rw [Hbad.out]; rfl, hBall.trans (hWB.mono hBall.size)⟩
                | true =>
                  cases hv : valOk k k2 with
                  | false =>
                    have Hbad := Lib.hid (hbad (by rw [hsh, hnum, hv]; rfl))
                    clear hbad hsh
                    have Hnum := Lib.hid hnum
                    have Hv := Lib.hid hv
                    clear hnum hv
                    go_wp2_with (first
                      | ((with_reducible refine gate_dst (N := 8) rfl ?_); refine box_event rfl (N := 8) rfl (cs := #[.int .i64 0, .int .i64 0, .slice none 0 0, .int .i64 0]) (t := 95) (by kernel_rfl) ?_; intro g8 hg8 w8 hb8 hbel8; have hge8 : wr.heap.size ≤ g8 := Nat.le_of_eq hg8.symm; clear hg8)
                      | ((with_reducible refine gate_store (t := 95) (p := 8) rfl ?_); refine store_row_event rfl rfl rfl rfl hb8 (by kernel_rfl) rfl (by kernel_rfl) ?_; intro w9 hb9 hg9; have hB9 : Below wr.heap.size wr w9 := hbel8.grown hg9 hbel8.size (by rintro k ⟨⟩; exact hge8)))
                    refine draw_begin (fun W' => Blk W' g2 139 (shapesV bx) ∧ Blk W' g8 95 #[.int .i64 (k : Nat), .int .i64 k1, .slice Ax L cx, .int .i64 d]) (fun _ => false) (by kernel_rfl) (n := 35) rfl rfl ?_
                    intro W _hWh hWg
                    clear _hWh
                    have hWB : Below wr.heap.size wr W := hB9.trans ((below_of_grown0 hWg).mono hB9.size)
                    have HS0 : Blk W g2 139 (shapesV bx) ∧ Blk W g8 95 #[.int .i64 (k : Nat), .int .i64 k1, .slice Ax L cx, .int .i64 d] := ⟨blk_below hb2r2 hWB, blk_grown hb9 hWg (by simp)⟩
                    have hval : Calls Tryd.prog (valFn k) (#[.slice Ax L cx] ++ valCap bx k) W fun r w' => r = .returned (.bool false) ∧ Below W.heap.size W w' := by
                      have h := val_said_ k hk13 bx Ax cx k2 W (by rw [HL.out]; exact HCp.out W hWB) (by rw [HL.out]; exact hlp) (HBx.out W hWB)
                      rw [HL.out, Hv.out] at h
                      exact h
                    have hSb : ∀ X, Below W.heap.size W X → Blk X g2 139 (shapesV bx) ∧ Blk X g8 95 #[.int .i64 (k : Nat), .int .i64 k1, .slice Ax L cx, .int .i64 d] := fun X hX => ⟨blk_below HS0.1 hX, blk_below HS0.2 hX⟩
                    refine draw_take (i := 0) (l2 := #[true, false, false, false, false, false, false, false, false, false, false, false, false, false, false, false, false, false, false, false, false, false, false, false, false, false, false, false, false, false, false, false, false, false, false]) (v := .pointer (some ⟨g8, 0, none⟩)) rfl (by kernel_rfl) (by kernel_rfl) (by kernel_rfl) (by kernel_rfl) (by kernel_rfl) (fun _ _ _ h => h) (.inl ⟨by kernel_rfl, fun W' hS => ?_⟩) HS0 ?_
                    · kernel_rfl
                    refine draw_take (i := 1) (l2 := #[true, true, false, false, false, false, false, false, false, false, false, false, false, false, false, false, false, false, false, false, false, false, false, false, false, false, false, false, false, false, false, false, false, false, false]) (v := .pointer (some ⟨g8, 0, none⟩)) rfl (by kernel_rfl) (by kernel_rfl) (by kernel_rfl) (by kernel_rfl) (by kernel_rfl) (fun _ _ _ h => h) (.inl ⟨by kernel_rfl, fun W' hS => ?_⟩) HS0 ?_
                    · kernel_rfl
                    refine draw_take (i := 2) (l2 := #[true, true, true, false, false, false, false, false, false, false, false, false, false, false, false, false, false, false, false, false, false, false, false, false, false, false, false, false, false, false, false, false, false, false, false]) (v := .int .i64 (k : Nat)) rfl (by kernel_rfl) (by kernel_rfl) (by kernel_rfl) (by kernel_rfl) (by kernel_rfl) (fun _ _ _ h => h) (.inl ⟨by kernel_rfl, fun W' hS => ?_⟩) HS0 ?_
                    · exact run_load_cell rfl (by kernel_rfl) hS.2 (i := 0) rfl Tryd.underlying23 rfl
                    refine draw_take (i := 3) (l2 := #[true, true, true, true, false, false, false, false, false, false, false, false, false, false, false, false, false, false, false, false, false, false, false, false, false, false, false, false, false, false, false, false, false, false, false]) (v := .bool true) rfl (by kernel_rfl) (by kernel_rfl) (by kernel_rfl) (by kernel_rfl) (by kernel_rfl) (fun _ _ _ h => h) (.inl ⟨by kernel_rfl, fun W' hS => ?_⟩) HS0 ?_
                    · exact run_geq rfl Tryd.underlying23 (by kernel_rfl) (by kernel_rfl) (n := (k : Nat)) (m := 0) (decide_eq_true (by omega))
                    refine draw_take (i := 4) (l2 := #[true, true, true, true, true, false, false, false, false, false, false, false, false, false, false, false, false, false, false, false, false, false, false, false, false, false, false, false, false, false, false, false, false, false, false]) (v := .bool true) rfl (by kernel_rfl) (by kernel_rfl) (by kernel_rfl) (by kernel_rfl) (by kernel_rfl) (fun _ _ _ h => h) (.inl ⟨by kernel_rfl, fun W' hS => ?_⟩) HS0 ?_
                    · kernel_rfl
                    refine draw_take (i := 5) (l2 := #[true, true, true, true, true, true, false, false, false, false, false, false, false, false, false, false, false, false, false, false, false, false, false, false, false, false, false, false, false, false, false, false, false, false, false]) (v := .pointer (some ⟨g8, 0, none⟩)) rfl (by kernel_rfl) (by kernel_rfl) (by kernel_rfl) (by kernel_rfl) (by kernel_rfl) (fun _ _ _ h => h) (.inl ⟨by kernel_rfl, fun W' hS => ?_⟩) HS0 ?_
                    · kernel_rfl
                    refine draw_take (i := 6) (l2 := #[true, true, true, true, true, true, true, false, false, false, false, false, false, false, false, false, false, false, false, false, false, false, false, false, false, false, false, false, false, false, false, false, false, false, false]) (v := .pointer (some ⟨g8, 0, none⟩)) rfl (by kernel_rfl) (by kernel_rfl) (by kernel_rfl) (by kernel_rfl) (by kernel_rfl) (fun _ _ _ h => h) (.inl ⟨by kernel_rfl, fun W' hS => ?_⟩) HS0 ?_
                    · kernel_rfl
                    refine draw_take (i := 7) (l2 := #[true, true, true, true, true, true, true, true, false, false, false, false, false, false, false, false, false, false, false, false, false, false, false, false, false, false, false, false, false, false, false, false, false, false, false]) (v := .int .i64 (k : Nat)) rfl (by kernel_rfl) (by kernel_rfl) (by kernel_rfl) (by kernel_rfl) (by kernel_rfl) (fun _ _ _ h => h) (.inl ⟨by kernel_rfl, fun W' hS => ?_⟩) HS0 ?_
                    · exact run_load_cell rfl (by kernel_rfl) hS.2 (i := 0) rfl Tryd.underlying23 rfl
                    refine draw_take (i := 8) (l2 := #[true, true, true, true, true, true, true, true, true, false, false, false, false, false, false, false, false, false, false, false, false, false, false, false, false, false, false, false, false, false, false, false, false, false, false]) (v := .bool true) rfl (by kernel_rfl) (by kernel_rfl) (by kernel_rfl) (by kernel_rfl) (by kernel_rfl) (fun _ _ _ h => h) (.inl ⟨by kernel_rfl, fun W' hS => ?_⟩) HS0 ?_
                    · exact run_lss rfl Tryd.underlying3 (by kernel_rfl) (by kernel_rfl) (n := (k : Nat)) (m := 14) (decide_eq_true (by omega))
                    refine draw_take (i := 9) (l2 := #[true, true, true, true, true, true, true, true, true, true, false, false, false, false, false, false, false, false, false, false, false, false, false, false, false, false, false, false, false, false, false, false, false, false, false]) (v := .bool true) rfl (by kernel_rfl) (by kernel_rfl) (by kernel_rfl) (by kernel_rfl) (by kernel_rfl) (fun _ _ _ h => h) (.inl ⟨by kernel_rfl, fun W' hS => ?_⟩) HS0 ?_
                    · kernel_rfl
                    refine draw_take (i := 10) (l2 := #[true, true, true, true, true, true, true, true, true, true, true, false, false, false, false, false, false, false, false, false, false, false, false, false, false, false, false, false, false, false, false, false, false, false, false]) (v := .bool true) rfl (by kernel_rfl) (by kernel_rfl) (by kernel_rfl) (by kernel_rfl) (by kernel_rfl) (fun _ _ _ h => h) (.inl ⟨by kernel_rfl, fun W' hS => ?_⟩) HS0 ?_
                    · kernel_rfl
                    refine draw_take (i := 11) (l2 := #[true, true, true, true, true, true, true, true, true, true, true, true, false, false, false, false, false, false, false, false, false, false, false, false, false, false, false, false, false, false, false, false, false, false, false]) (v := .pointer (some ⟨g8, 0, none⟩)) rfl (by kernel_rfl) (by kernel_rfl) (by kernel_rfl) (by kernel_rfl) (by kernel_rfl) (fun _ _ _ h => h) (.inl ⟨by kernel_rfl, fun W' hS => ?_⟩) HS0 ?_
                    · kernel_rfl
                    refine draw_take (i := 12) (l2 := #[true, true, true, true, true, true, true, true, true, true, true, true, true, false, false, false, false, false, false, false, false, false, false, false, false, false, false, false, false, false, false, false, false, false, false]) (v := .pointer (some ⟨g8, 0, none⟩)) rfl (by kernel_rfl) (by kernel_rfl) (by kernel_rfl) (by kernel_rfl) (by kernel_rfl) (fun _ _ _ h => h) (.inl ⟨by kernel_rfl, fun W' hS => ?_⟩) HS0 ?_
                    · kernel_rfl
                    refine draw_take (i := 13) (l2 := #[true, true, true, true, true, true, true, true, true, true, true, true, true, true, false, false, false, false, false, false, false, false, false, false, false, false, false, false, false, false, false, false, false, false, false]) (v := .int .i64 (k : Nat)) rfl (by kernel_rfl) (by kernel_rfl) (by kernel_rfl) (by kernel_rfl) (by kernel_rfl) (fun _ _ _ h => h) (.inl ⟨by kernel_rfl, fun W' hS => ?_⟩) HS0 ?_
                    · exact run_load_cell rfl (by kernel_rfl) hS.2 (i := 0) rfl Tryd.underlying23 rfl
                    refine draw_take (i := 14) (l2 := #[true, true, true, true, true, true, true, true, true, true, true, true, true, true, true, false, false, false, false, false, false, false, false, false, false, false, false, false, false, false, false, false, false, false, false]) (v := .pointer (some ⟨g2, k * 2, none⟩)) rfl (by kernel_rfl) (by kernel_rfl) (by kernel_rfl) (by kernel_rfl) (by kernel_rfl) (fun _ _ _ h => h) (.inl ⟨by kernel_rfl, fun W' hS => ?_⟩) HS0 ?_
                    · exact run_shapeAddr rfl (by kernel_rfl) (by kernel_rfl) hk13
                    refine draw_take (i := 15) (l2 := #[true, true, true, true, true, true, true, true, true, true, true, true, true, true, true, true, false, false, false, false, false, false, false, false, false, false, false, false, false, false, false, false, false, false, false]) (v := .pointer (some ⟨g2, k * 2, none⟩)) rfl (by kernel_rfl) (by kernel_rfl) (by kernel_rfl) (by kernel_rfl) (by kernel_rfl) (fun _ _ _ h => h) (.inl ⟨by kernel_rfl, fun W' hS => ?_⟩) HS0 ?_
                    · kernel_rfl
                    refine draw_take (i := 16) (l2 := #[true, true, true, true, true, true, true, true, true, true, true, true, true, true, true, true, true, false, false, false, false, false, false, false, false, false, false, false, false, false, false, false, false, false, false]) (v := .func (.func (numFn k)) #[] #[]) rfl (by kernel_rfl) (by kernel_rfl) (by kernel_rfl) (by kernel_rfl) (by kernel_rfl) (fun _ _ _ h => h) (.inl ⟨by kernel_rfl, fun W' hS => ?_⟩) HS0 ?_
                    · exact run_load_cell rfl (by kernel_rfl) hS.1 hat.1 Tryd.underlying136 rfl
                    refine draw_take (i := 17) (l2 := #[true, true, true, true, true, true, true, true, true, true, true, true, true, true, true, true, true, true, false, false, false, false, false, false, false, false, false, false, false, false, false, false, false, false, false]) (v := .pointer (some ⟨g8, 0, none⟩)) rfl (by kernel_rfl) (by kernel_rfl) (by kernel_rfl) (by kernel_rfl) (by kernel_rfl) (fun _ _ _ h => h) (.inl ⟨by kernel_rfl, fun W' hS => ?_⟩) HS0 ?_
                    · kernel_rfl
                    refine draw_take (i := 18) (l2 := #[true, true, true, true, true, true, true, true, true, true, true, true, true, true, true, true, true, true, true, false, false, false, false, false, false, false, false, false, false, false, false, false, false, false, false]) (v := .pointer (some ⟨g8, 1, none⟩)) rfl (by kernel_rfl) (by kernel_rfl) (by kernel_rfl) (by kernel_rfl) (by kernel_rfl) (fun _ _ _ h => h) (.inl ⟨by kernel_rfl, fun W' hS => ?_⟩) HS0 ?_
                    · kernel_rfl
                    refine draw_take (i := 19) (l2 := #[true, true, true, true, true, true, true, true, true, true, true, true, true, true, true, true, true, true, true, true, false, false, false, false, false, false, false, false, false, false, false, false, false, false, false]) (v := .int .i64 k1) rfl (by kernel_rfl) (by kernel_rfl) (by kernel_rfl) (by kernel_rfl) (by kernel_rfl) (fun _ _ _ h => h) (.inl ⟨by kernel_rfl, fun W' hS => ?_⟩) HS0 ?_
                    · exact run_load_cell rfl (by kernel_rfl) hS.2 (i := 1) rfl Tryd.underlying2 rfl
                    refine draw_call (i := 20) (l2 := #[true, true, true, true, true, true, true, true, true, true, true, true, true, true, true, true, true, true, true, true, true, false, false, false, false, false, false, false, false, false, false, false, false, false, false]) ?h3_r ?h3_l (show _ from rfl) ?h3_w ?h3_run (num_said k k1 _) ?h3_k ?h3_p ?h3_o
                    case h3_r => kernel_rfl
                    case h3_l => kernel_rfl
                    case h3_w => kernel_rfl
                    case h3_run => exact (run_call_plain rfl (by kernel_rfl) (by kernel_rfl) (num_invoke k))
                    case h3_o => exact (fun W1 h => by cases h.1)
                    case h3_p => exact (fun c W1 h => by cases h.1)
                    intro v W1 h
                    obtain ⟨h1, rfl⟩ := h
                    injection h1 with h1
                    rw [Hnum.out] at h1
                    subst h1
                    refine ⟨HS0, ?_⟩
                    refine draw_take (i := 21) (l2 := #[true, true, true, true, true, true, true, true, true, true, true, true, true, true, true, true, true, true, true, true, true, true, false, false, false, false, false, false, false, false, false, false, false, false, false]) (v := .bool true) rfl (by kernel_rfl) (by kernel_rfl) (by kernel_rfl) (by kernel_rfl) (by kernel_rfl) (fun _ _ _ h => h) (.inl ⟨by kernel_rfl, fun W' hS => ?_⟩) HS0 ?_
                    · kernel_rfl
                    refine draw_take (i := 22) (l2 := #[true, true, true, true, true, true, true, true, true, true, true, true, true, true, true, true, true, true, true, true, true, true, true, false, false, false, false, false, false, false, false, false, false, false, false]) (v := .bool true) rfl (by kernel_rfl) (by kernel_rfl) (by kernel_rfl) (by kernel_rfl) (by kernel_rfl) (fun _ _ _ h => h) (.inl ⟨by kernel_rfl, fun W' hS => ?_⟩) HS0 ?_
                    · kernel_rfl
                    refine draw_take (i := 23) (l2 := #[true, true, true, true, true, true, true, true, true, true, true, true, true, true, true, true, true, true, true, true, true, true, true, true, false, false, false, false, false, false, false, false, false, false, false]) (v := .pointer (some ⟨g8, 0, none⟩)) rfl (by kernel_rfl) (by kernel_rfl) (by kernel_rfl) (by kernel_rfl) (by kernel_rfl) (fun _ _ _ h => h) (.inl ⟨by kernel_rfl, fun W' hS => ?_⟩) HS0 ?_
                    · kernel_rfl
                    refine draw_take (i := 24) (l2 := #[true, true, true, true, true, true, true, true, true, true, true, true, true, true, true, true, true, true, true, true, true, true, true, true, true, false, false, false, false, false, false, false, false, false, false]) (v := .pointer (some ⟨g8, 0, none⟩)) rfl (by kernel_rfl) (by kernel_rfl) (by kernel_rfl) (by kernel_rfl) (by kernel_rfl) (fun _ _ _ h => h) (.inl ⟨by kernel_rfl, fun W' hS => ?_⟩) HS0 ?_
                    · kernel_rfl
                    refine draw_take (i := 25) (l2 := #[true, true, true, true, true, true, true, true, true, true, true, true, true, true, true, true, true, true, true, true, true, true, true, true, true, true, false, false, false, false, false, false, false, false, false]) (v := .int .i64 (k : Nat)) rfl (by kernel_rfl) (by kernel_rfl) (by kernel_rfl) (by kernel_rfl) (by kernel_rfl) (fun _ _ _ h => h) (.inl ⟨by kernel_rfl, fun W' hS => ?_⟩) HS0 ?_
                    · exact run_load_cell rfl (by kernel_rfl) hS.2 (i := 0) rfl Tryd.underlying23 rfl
                    refine draw_take (i := 26) (l2 := #[true, true, true, true, true, true, true, true, true, true, true, true, true, true, true, true, true, true, true, true, true, true, true, true, true, true, true, false, false, false, false, false, false, false, false]) (v := .pointer (some ⟨g2, k * 2, none⟩)) rfl (by kernel_rfl) (by kernel_rfl) (by kernel_rfl) (by kernel_rfl) (by kernel_rfl) (fun _ _ _ h => h) (.inl ⟨by kernel_rfl, fun W' hS => ?_⟩) HS0 ?_
                    · exact run_shapeAddr rfl (by kernel_rfl) (by kernel_rfl) hk13
                    refine draw_take (i := 27) (l2 := #[true, true, true, true, true, true, true, true, true, true, true, true, true, true, true, true, true, true, true, true, true, true, true, true, true, true, true, true, false, false, false, false, false, false, false]) (v := .pointer (some ⟨g2, k * 2 + 1, none⟩)) rfl (by kernel_rfl) (by kernel_rfl) (by kernel_rfl) (by kernel_rfl) (by kernel_rfl) (fun _ _ _ h => h) (.inl ⟨by kernel_rfl, fun W' hS => ?_⟩) HS0 ?_
                    · kernel_rfl
                    refine draw_take (i := 28) (l2 := #[true, true, true, true, true, true, true, true, true, true, true, true, true, true, true, true, true, true, true, true, true, true, true, true, true, true, true, true, true, false, false, false, false, false, false]) (v := .func (.func (valFn k)) #[] (valCap bx k)) rfl (by kernel_rfl) (by kernel_rfl) (by kernel_rfl) (by kernel_rfl) (by kernel_rfl) (fun _ _ _ h => h) (.inl ⟨by kernel_rfl, fun W' hS => ?_⟩) HS0 ?_
                    · exact run_load_cell rfl (by kernel_rfl) hS.1 hat.2 Tryd.underlying49 rfl
                    refine draw_take (i := 29) (l2 := #[true, true, true, true, true, true, true, true, true, true, true, true, true, true, true, true, true, true, true, true, true, true, true, true, true, true, true, true, true, true, false, false, false, false, false]) (v := .pointer (some ⟨g8, 0, none⟩)) rfl (by kernel_rfl) (by kernel_rfl) (by kernel_rfl) (by kernel_rfl) (by kernel_rfl) (fun _ _ _ h => h) (.inl ⟨by kernel_rfl, fun W' hS => ?_⟩) HS0 ?_
                    · kernel_rfl
                    refine draw_take (i := 30) (l2 := #[true, true, true, true, true, true, true, true, true, true, true, true, true, true, true, true, true, true, true, true, true, true, true, true, true, true, true, true, true, true, true, false, false, false, false]) (v := .pointer (some ⟨g8, 2, none⟩)) rfl (by kernel_rfl) (by kernel_rfl) (by kernel_rfl) (by kernel_rfl) (by kernel_rfl) (fun _ _ _ h => h) (.inl ⟨by kernel_rfl, fun W' hS => ?_⟩) HS0 ?_
                    · kernel_rfl
                    refine draw_take (i := 31) (l2 := #[true, true, true, true, true, true, true, true, true, true, true, true, true, true, true, true, true, true, true, true, true, true, true, true, true, true, true, true, true, true, true, true, false, false, false]) (v := .slice Ax L cx) rfl (by kernel_rfl) (by kernel_rfl) (by kernel_rfl) (by kernel_rfl) (by kernel_rfl) (fun _ _ _ h => h) (.inl ⟨by kernel_rfl, fun W' hS => ?_⟩) HS0 ?_
                    · exact run_load_cell rfl (by kernel_rfl) hS.2 (i := 2) rfl Tryd.underlying24 rfl
                    refine draw_call (i := 32) (l2 := #[true, true, true, true, true, true, true, true, true, true, true, true, true, true, true, true, true, true, true, true, true, true, true, true, true, true, true, true, true, true, true, true, true, false, false]) ?h4_r ?h4_l (show _ from rfl) ?h4_w ?h4_run hval ?h4_k ?h4_p ?h4_o
                    case h4_r => kernel_rfl
                    case h4_l => kernel_rfl
                    case h4_w => kernel_rfl
                    case h4_run => exact (run_call_value (cap := valCap bx k) (v := .slice Ax L cx) rfl (by kernel_rfl) (by kernel_rfl) (val_invoke k))
                    case h4_o => exact (fun W1 h => by cases h.1)
                    case h4_p => exact (fun c W1 h => by cases h.1)
                    intro v W2 h
                    obtain ⟨h1, hbW2⟩ := h
                    injection h1 with h1
                    subst h1
                    have HS2 := hSb _ hbW2
                    clear HS0
                    have HS0 := HS2
                    clear HS2
                    refine ⟨HS0, ?_⟩
                    refine draw_take (i := 33) (l2 := #[true, true, true, true, true, true, true, true, true, true, true, true, true, true, true, true, true, true, true, true, true, true, true, true, true, true, true, true, true, true, true, true, true, true, false]) (v := .bool false) rfl (by kernel_rfl) (by kernel_rfl) (by kernel_rfl) (by kernel_rfl) (by kernel_rfl) (fun _ _ _ h => h) (.inl ⟨by kernel_rfl, fun W' hS => ?_⟩) HS0 ?_
                    · kernel_rfl
                    refine draw_call (i := 34) (l2 := #[true, true, true, true, true, true, true, true, true, true, true, true, true, true, true, true, true, true, true, true, true, true, true, true, true, true, true, true, true, true, true, true, true, true, true]) ?h5_r ?h5_l (show _ from rfl) ?h5_w ?h5_run (vmust_bad 40 _) ?h5_k ?h5_p ?h5_o
                    case h5_r => kernel_rfl
                    case h5_l => kernel_rfl
                    case h5_w => kernel_rfl
                    case h5_run => kernel_rfl
                    case h5_o => exact (fun W1 h => by cases h.1)
                    case h5_k => exact (fun v W1 h => by cases h.1)
                    intro c W3 h
                    obtain ⟨h1, rfl⟩ := h
                    injection h1 with h1
                    subst h1
                    exact ⟨rfl, by rw [Hbad.out]; rfl, hBall.trans ((hWB.trans (hbW2.mono hWB.size)).mono hBall.size)⟩
                  | true =>
                    have hgood : shapeOk ⟨(k : Int), k1, k2⟩ = true := by rw [hsh, hnum, hv]; rfl
                    have Hgood := Lib.hid hgood
                    clear hbad hsh hgood
                    have Hnum := Lib.hid hnum
                    have Hv := Lib.hid hv
                    clear hnum hv
                    go_wp2_with (first
                      | ((with_reducible refine gate_dst (N := 8) rfl ?_); refine box_event rfl (N := 8) rfl (cs := #[.int .i64 0, .int .i64 0, .slice none 0 0, .int .i64 0]) (t := 95) (by kernel_rfl) ?_; intro g8 hg8 w8 hb8 hbel8; have hge8 : wr.heap.size ≤ g8 := Nat.le_of_eq hg8.symm; clear hg8)
                      | ((with_reducible refine gate_store (t := 95) (p := 8) rfl ?_); refine store_row_event rfl rfl rfl rfl hb8 (by kernel_rfl) rfl (by kernel_rfl) ?_; intro w9 hb9 hg9; have hB9 : Below wr.heap.size wr w9 := hbel8.grown hg9 hbel8.size (by rintro k ⟨⟩; exact hge8)))
                    refine draw_begin (fun W' => Blk W' g2 139 (shapesV bx) ∧ Blk W' g8 95 #[.int .i64 (k : Nat), .int .i64 k1, .slice Ax L cx, .int .i64 d]) (fun _ => false) (by kernel_rfl) (n := 35) rfl rfl ?_
                    intro W _hWh hWg
                    clear _hWh
                    have hWB : Below wr.heap.size wr W := hB9.trans ((below_of_grown0 hWg).mono hB9.size)
                    have HS0 : Blk W g2 139 (shapesV bx) ∧ Blk W g8 95 #[.int .i64 (k : Nat), .int .i64 k1, .slice Ax L cx, .int .i64 d] := ⟨blk_below hb2r2 hWB, blk_grown hb9 hWg (by simp)⟩
                    have hval : Calls Tryd.prog (valFn k) (#[.slice Ax L cx] ++ valCap bx k) W fun r w' => r = .returned (.bool true) ∧ Below W.heap.size W w' := by
                      have h := val_said_ k hk13 bx Ax cx k2 W (by rw [HL.out]; exact HCp.out W hWB) (by rw [HL.out]; exact hlp) (HBx.out W hWB)
                      rw [HL.out, Hv.out] at h
                      exact h
                    have hSb : ∀ X, Below W.heap.size W X → Blk X g2 139 (shapesV bx) ∧ Blk X g8 95 #[.int .i64 (k : Nat), .int .i64 k1, .slice Ax L cx, .int .i64 d] := fun X hX => ⟨blk_below HS0.1 hX, blk_below HS0.2 hX⟩
                    refine draw_take (i := 0) (l2 := #[true, false, false, false, false, false, false, false, false, false, false, false, false, false, false, false, false, false, false, false, false, false, false, false, false, false, false, false, false, false, false, false, false, false, false]) (v := .pointer (some ⟨g8, 0, none⟩)) rfl (by kernel_rfl) (by kernel_rfl) (by kernel_rfl) (by kernel_rfl) (by kernel_rfl) (fun _ _ _ h => h) (.inl ⟨by kernel_rfl, fun W' hS => ?_⟩) HS0 ?_
                    · kernel_rfl
                    refine draw_take (i := 1) (l2 := #[true, true, false, false, false, false, false, false, false, false, false, false, false, false, false, false, false, false, false, false, false, false, false, false, false, false, false, false, false, false, false, false, false, false, false]) (v := .pointer (some ⟨g8, 0, none⟩)) rfl (by kernel_rfl) (by kernel_rfl) (by kernel_rfl) (by kernel_rfl) (by kernel_rfl) (fun _ _ _ h => h) (.inl ⟨by kernel_rfl, fun W' hS => ?_⟩) HS0 ?_
                    · kernel_rfl
                    refine draw_take (i := 2) (l2 := #[true, true, true, false, false, false, false, false, false, false, false, false, false, false, false, false, false, false, false, false, false, false, false, false, false, false, false, false, false, false, false, false, false, false, false]) (v := .int .i64 (k : Nat)) rfl (by kernel_rfl) (by kernel_rfl) (by kernel_rfl) (by kernel_rfl) (by kernel_rfl) (fun _ _ _ h => h) (.inl ⟨by kernel_rfl, fun W' hS => ?_⟩) HS0 ?_
                    · exact run_load_cell rfl (by kernel_rfl) hS.2 (i := 0) rfl Tryd.underlying23 rfl
                    refine draw_take (i := 3) (l2 := #[true, true, true, true, false, false, false, false, false, false, false, false, false, false, false, false, false, false, false, false, false, false, false, false, false, false, false, false, false, false, false, false, false, false, false]) (v := .bool true) rfl (by kernel_rfl) (by kernel_rfl) (by kernel_rfl) (by kernel_rfl) (by kernel_rfl) (fun _ _ _ h => h) (.inl ⟨by kernel_rfl, fun W' hS => ?_⟩) HS0 ?_
                    · exact run_geq rfl Tryd.underlying23 (by kernel_rfl) (by kernel_rfl) (n := (k : Nat)) (m := 0) (decide_eq_true (by omega))
                    refine draw_take (i := 4) (l2 := #[true, true, true, true, true, false, false, false, false, false, false, false, false, false, false, false, false, false, false, false, false, false, false, false, false, false, false, false, false, false, false, false, false, false, false]) (v := .bool true) rfl (by kernel_rfl) (by kernel_rfl) (by kernel_rfl) (by kernel_rfl) (by kernel_rfl) (fun _ _ _ h => h) (.inl ⟨by kernel_rfl, fun W' hS => ?_⟩) HS0 ?_
                    · kernel_rfl
                    refine draw_take (i := 5) (l2 := #[true, true, true, true, true, true, false, false, false, false, false, false, false, false, false, false, false, false, false, false, false, false, false, false, false, false, false, false, false, false, false, false, false, false, false]) (v := .pointer (some ⟨g8, 0, none⟩)) rfl (by kernel_rfl) (by kernel_rfl) (by kernel_rfl) (by kernel_rfl) (by kernel_rfl) (fun _ _ _ h => h) (.inl ⟨by kernel_rfl, fun W' hS => ?_⟩) HS0 ?_
                    · kernel_rfl
                    refine draw_take (i := 6) (l2 := #[true, true, true, true, true, true, true, false, false, false, false, false, false, false, false, false, false, false, false, false, false, false, false, false, false, false, false, false, false, false, false, false, false, false, false]) (v := .pointer (some ⟨g8, 0, none⟩)) rfl (by kernel_rfl) (by kernel_rfl) (by kernel_rfl) (by kernel_rfl) (by kernel_rfl) (fun _ _ _ h => h) (.inl ⟨by kernel_rfl, fun W' hS => ?_⟩) HS0 ?_
                    · kernel_rfl
                    refine draw_take (i := 7) (l2 := #[true, true, true, true, true, true, true, true, false, false, false, false, false, false, false, false, false, false, false, false, false, false, false, false, false, false, false, false, false, false, false, false, false, false, false]) (v := .int .i64 (k : Nat)) rfl (by kernel_rfl) (by kernel_rfl) (by kernel_rfl) (by kernel_rfl) (by kernel_rfl) (fun _ _ _ h => h) (.inl ⟨by kernel_rfl, fun W' hS => ?_⟩) HS0 ?_
                    · exact run_load_cell rfl (by kernel_rfl) hS.2 (i := 0) rfl Tryd.underlying23 rfl
                    refine draw_take (i := 8) (l2 := #[true, true, true, true, true, true, true, true, true, false, false, false, false, false, false, false, false, false, false, false, false, false, false, false, false, false, false, false, false, false, false, false, false, false, false]) (v := .bool true) rfl (by kernel_rfl) (by kernel_rfl) (by kernel_rfl) (by kernel_rfl) (by kernel_rfl) (fun _ _ _ h => h) (.inl ⟨by kernel_rfl, fun W' hS => ?_⟩) HS0 ?_
                    · exact run_lss rfl Tryd.underlying3 (by kernel_rfl) (by kernel_rfl) (n := (k : Nat)) (m := 14) (decide_eq_true (by omega))
                    refine draw_take (i := 9) (l2 := #[true, true, true, true, true, true, true, true, true, true, false, false, false, false, false, false, false, false, false, false, false, false, false, false, false, false, false, false, false, false, false, false, false, false, false]) (v := .bool true) rfl (by kernel_rfl) (by kernel_rfl) (by kernel_rfl) (by kernel_rfl) (by kernel_rfl) (fun _ _ _ h => h) (.inl ⟨by kernel_rfl, fun W' hS => ?_⟩) HS0 ?_
                    · kernel_rfl
                    refine draw_take (i := 10) (l2 := #[true, true, true, true, true, true, true, true, true, true, true, false, false, false, false, false, false, false, false, false, false, false, false, false, false, false, false, false, false, false, false, false, false, false, false]) (v := .bool true) rfl (by kernel_rfl) (by kernel_rfl) (by kernel_rfl) (by kernel_rfl) (by kernel_rfl) (fun _ _ _ h => h) (.inl ⟨by kernel_rfl, fun W' hS => ?_⟩) HS0 ?_
                    · kernel_rfl
                    refine draw_take (i := 11) (l2 := #[true, true, true, true, true, true, true, true, true, true, true, true, false, false, false, false, false, false, false, false, false, false, false, false, false, false, false, false, false, false, false, false, false, false, false]) (v := .pointer (some ⟨g8, 0, none⟩)) rfl (by kernel_rfl) (by kernel_rfl) (by kernel_rfl) (by kernel_rfl) (by kernel_rfl) (fun _ _ _ h => h) (.inl ⟨by kernel_rfl, fun W' hS => ?_⟩) HS0 ?_
                    · kernel_rfl
                    refine draw_take (i := 12) (l2 := #[true, true, true, true, true, true, true, true, true, true, true, true, true, false, false, false, false, false, false, false, false, false, false, false, false, false, false, false, false, false, false, false, false, false, false]) (v := .pointer (some ⟨g8, 0, none⟩)) rfl (by kernel_rfl) (by kernel_rfl) (by kernel_rfl) (by kernel_rfl) (by kernel_rfl) (fun _ _ _ h => h) (.inl ⟨by kernel_rfl, fun W' hS => ?_⟩) HS0 ?_
                    · kernel_rfl
                    refine draw_take (i := 13) (l2 := #[true, true, true, true, true, true, true, true, true, true, true, true, true, true, false, false, false, false, false, false, false, false, false, false, false, false, false, false, false, false, false, false, false, false, false]) (v := .int .i64 (k : Nat)) rfl (by kernel_rfl) (by kernel_rfl) (by kernel_rfl) (by kernel_rfl) (by kernel_rfl) (fun _ _ _ h => h) (.inl ⟨by kernel_rfl, fun W' hS => ?_⟩) HS0 ?_
                    · exact run_load_cell rfl (by kernel_rfl) hS.2 (i := 0) rfl Tryd.underlying23 rfl
                    refine draw_take (i := 14) (l2 := #[true, true, true, true, true, true, true, true, true, true, true, true, true, true, true, false, false, false, false, false, false, false, false, false, false, false, false, false, false, false, false, false, false, false, false]) (v := .pointer (some ⟨g2, k * 2, none⟩)) rfl (by kernel_rfl) (by kernel_rfl) (by kernel_rfl) (by kernel_rfl) (by kernel_rfl) (fun _ _ _ h => h) (.inl ⟨by kernel_rfl, fun W' hS => ?_⟩) HS0 ?_
                    · exact run_shapeAddr rfl (by kernel_rfl) (by kernel_rfl) hk13
                    refine draw_take (i := 15) (l2 := #[true, true, true, true, true, true, true, true, true, true, true, true, true, true, true, true, false, false, false, false, false, false, false, false, false, false, false, false, false, false, false, false, false, false, false]) (v := .pointer (some ⟨g2, k * 2, none⟩)) rfl (by kernel_rfl) (by kernel_rfl) (by kernel_rfl) (by kernel_rfl) (by kernel_rfl) (fun _ _ _ h => h) (.inl ⟨by kernel_rfl, fun W' hS => ?_⟩) HS0 ?_
                    · kernel_rfl
                    refine draw_take (i := 16) (l2 := #[true, true, true, true, true, true, true, true, true, true, true, true, true, true, true, true, true, false, false, false, false, false, false, false, false, false, false, false, false, false, false, false, false, false, false]) (v := .func (.func (numFn k)) #[] #[]) rfl (by kernel_rfl) (by kernel_rfl) (by kernel_rfl) (by kernel_rfl) (by kernel_rfl) (fun _ _ _ h => h) (.inl ⟨by kernel_rfl, fun W' hS => ?_⟩) HS0 ?_
                    · exact run_load_cell rfl (by kernel_rfl) hS.1 hat.1 Tryd.underlying136 rfl
                    refine draw_take (i := 17) (l2 := #[true, true, true, true, true, true, true, true, true, true, true, true, true, true, true, true, true, true, false, false, false, false, false, false, false, false, false, false, false, false, false, false, false, false, false]) (v := .pointer (some ⟨g8, 0, none⟩)) rfl (by kernel_rfl) (by kernel_rfl) (by kernel_rfl) (by kernel_rfl) (by kernel_rfl) (fun _ _ _ h => h) (.inl ⟨by kernel_rfl, fun W' hS => ?_⟩) HS0 ?_
                    · kernel_rfl
                    refine draw_take (i := 18) (l2 := #[true, true, true, true, true, true, true, true, true, true, true, true, true, true, true, true, true, true, true, false, false, false, false, false, false, false, false, false, false, false, false, false, false, false, false]) (v := .pointer (some ⟨g8, 1, none⟩)) rfl (by kernel_rfl) (by kernel_rfl) (by kernel_rfl) (by kernel_rfl) (by kernel_rfl) (fun _ _ _ h => h) (.inl ⟨by kernel_rfl, fun W' hS => ?_⟩) HS0 ?_
                    · kernel_rfl
                    refine draw_take (i := 19) (l2 := #[true, true, true, true, true, true, true, true, true, true, true, true, true, true, true, true, true, true, true, true, false, false, false, false, false, false, false, false, false, false, false, false, false, false, false]) (v := .int .i64 k1) rfl (by kernel_rfl) (by kernel_rfl) (by kernel_rfl) (by kernel_rfl) (by kernel_rfl) (fun _ _ _ h => h) (.inl ⟨by kernel_rfl, fun W' hS => ?_⟩) HS0 ?_
                    · exact run_load_cell rfl (by kernel_rfl) hS.2 (i := 1) rfl Tryd.underlying2 rfl
                    refine draw_call (i := 20) (l2 := #[true, true, true, true, true, true, true, true, true, true, true, true, true, true, true, true, true, true, true, true, true, false, false, false, false, false, false, false, false, false, false, false, false, false, false]) ?h6_r ?h6_l (show _ from rfl) ?h6_w ?h6_run (num_said k k1 _) ?h6_k ?h6_p ?h6_o
                    case h6_r => kernel_rfl
                    case h6_l => kernel_rfl
                    case h6_w => kernel_rfl
                    case h6_run => exact (run_call_plain rfl (by kernel_rfl) (by kernel_rfl) (num_invoke k))
                    case h6_o => exact (fun W1 h => by cases h.1)
                    case h6_p => exact (fun c W1 h => by cases h.1)
                    intro v W1 h
                    obtain ⟨h1, rfl⟩ := h
                    injection h1 with h1
                    rw [Hnum.out] at h1
                    subst h1
                    refine ⟨HS0, ?_⟩
                    refine draw_take (i := 21) (l2 := #[true, true, true, true, true, true, true, true, true, true, true, true, true, true, true, true, true, true, true, true, true, true, false, false, false, false, false, false, false, false, false, false, false, false, false]) (v := .bool true) rfl (by kernel_rfl) (by kernel_rfl) (by kernel_rfl) (by kernel_rfl) (by kernel_rfl) (fun _ _ _ h => h) (.inl ⟨by kernel_rfl, fun W' hS => ?_⟩) HS0 ?_
                    · kernel_rfl
                    refine draw_take (i := 22) (l2 := #[true, true, true, true, true, true, true, true, true, true, true, true, true, true, true, true, true, true, true, true, true, true, true, false, false, false, false, false, false, false, false, false, false, false, false]) (v := .bool true) rfl (by kernel_rfl) (by kernel_rfl) (by kernel_rfl) (by kernel_rfl) (by kernel_rfl) (fun _ _ _ h => h) (.inl ⟨by kernel_rfl, fun W' hS => ?_⟩) HS0 ?_
                    · kernel_rfl
                    refine draw_take (i := 23) (l2 := #[true, true, true, true, true, true, true, true, true, true, true, true, true, true, true, true, true, true, true, true, true, true, true, true, false, false, false, false, false, false, false, false, false, false, false]) (v := .pointer (some ⟨g8, 0, none⟩)) rfl (by kernel_rfl) (by kernel_rfl) (by kernel_rfl) (by kernel_rfl) (by kernel_rfl) (fun _ _ _ h => h) (.inl ⟨by kernel_rfl, fun W' hS => ?_⟩) HS0 ?_
                    · kernel_rfl
                    refine draw_take (i := 24) (l2 := #[true, true, true, true, true, true, true, true, true, true, true, true, true, true, true, true, true, true, true, true, true, true, true, true, true, false, false, false, false, false, false, false, false, false, false]) (v := .pointer (some ⟨g8, 0, none⟩)) rfl (by kernel_rfl) (by kernel_rfl) (by kernel_rfl) (by kernel_rfl) (by kernel_rfl) (fun _ _ _ h => h) (.inl ⟨by kernel_rfl, fun W' hS => ?_⟩) HS0 ?_
                    · kernel_rfl
                    refine draw_take (i := 25) (l2 := #[true, true, true, true, true, true, true, true, true, true, true, true, true, true, true, true, true, true, true, true, true, true, true, true, true, true, false, false, false, false, false, false, false, false, false]) (v := .int .i64 (k : Nat)) rfl (by kernel_rfl) (by kernel_rfl) (by kernel_rfl) (by kernel_rfl) (by kernel_rfl) (fun _ _ _ h => h) (.inl ⟨by kernel_rfl, fun W' hS => ?_⟩) HS0 ?_
                    · exact run_load_cell rfl (by kernel_rfl) hS.2 (i := 0) rfl Tryd.underlying23 rfl
                    refine draw_take (i := 26) (l2 := #[true, true, true, true, true, true, true, true, true, true, true, true, true, true, true, true, true, true, true, true, true, true, true, true, true, true, true, false, false, false, false, false, false, false, false]) (v := .pointer (some ⟨g2, k * 2, none⟩)) rfl (by kernel_rfl) (by kernel_rfl) (by kernel_rfl) (by kernel_rfl) (by kernel_rfl) (fun _ _ _ h => h) (.inl ⟨by kernel_rfl, fun W' hS => ?_⟩) HS0 ?_
                    · exact run_shapeAddr rfl (by kernel_rfl) (by kernel_rfl) hk13
                    refine draw_take (i := 27) (l2 := #[true, true, true, true, true, true, true, true, true, true, true, true, true, true, true, true, true, true, true, true, true, true, true, true, true, true, true, true, false, false, false, false, false, false, false]) (v := .pointer (some ⟨g2, k * 2 + 1, none⟩)) rfl (by kernel_rfl) (by kernel_rfl) (by kernel_rfl) (by kernel_rfl) (by kernel_rfl) (fun _ _ _ h => h) (.inl ⟨by kernel_rfl, fun W' hS => ?_⟩) HS0 ?_
                    · kernel_rfl
                    refine draw_take (i := 28) (l2 := #[true, true, true, true, true, true, true, true, true, true, true, true, true, true, true, true, true, true, true, true, true, true, true, true, true, true, true, true, true, false, false, false, false, false, false]) (v := .func (.func (valFn k)) #[] (valCap bx k)) rfl (by kernel_rfl) (by kernel_rfl) (by kernel_rfl) (by kernel_rfl) (by kernel_rfl) (fun _ _ _ h => h) (.inl ⟨by kernel_rfl, fun W' hS => ?_⟩) HS0 ?_
                    · exact run_load_cell rfl (by kernel_rfl) hS.1 hat.2 Tryd.underlying49 rfl
                    refine draw_take (i := 29) (l2 := #[true, true, true, true, true, true, true, true, true, true, true, true, true, true, true, true, true, true, true, true, true, true, true, true, true, true, true, true, true, true, false, false, false, false, false]) (v := .pointer (some ⟨g8, 0, none⟩)) rfl (by kernel_rfl) (by kernel_rfl) (by kernel_rfl) (by kernel_rfl) (by kernel_rfl) (fun _ _ _ h => h) (.inl ⟨by kernel_rfl, fun W' hS => ?_⟩) HS0 ?_
                    · kernel_rfl
                    refine draw_take (i := 30) (l2 := #[true, true, true, true, true, true, true, true, true, true, true, true, true, true, true, true, true, true, true, true, true, true, true, true, true, true, true, true, true, true, true, false, false, false, false]) (v := .pointer (some ⟨g8, 2, none⟩)) rfl (by kernel_rfl) (by kernel_rfl) (by kernel_rfl) (by kernel_rfl) (by kernel_rfl) (fun _ _ _ h => h) (.inl ⟨by kernel_rfl, fun W' hS => ?_⟩) HS0 ?_
                    · kernel_rfl
                    refine draw_take (i := 31) (l2 := #[true, true, true, true, true, true, true, true, true, true, true, true, true, true, true, true, true, true, true, true, true, true, true, true, true, true, true, true, true, true, true, true, false, false, false]) (v := .slice Ax L cx) rfl (by kernel_rfl) (by kernel_rfl) (by kernel_rfl) (by kernel_rfl) (by kernel_rfl) (fun _ _ _ h => h) (.inl ⟨by kernel_rfl, fun W' hS => ?_⟩) HS0 ?_
                    · exact run_load_cell rfl (by kernel_rfl) hS.2 (i := 2) rfl Tryd.underlying24 rfl
                    refine draw_call (i := 32) (l2 := #[true, true, true, true, true, true, true, true, true, true, true, true, true, true, true, true, true, true, true, true, true, true, true, true, true, true, true, true, true, true, true, true, true, false, false]) ?h7_r ?h7_l (show _ from rfl) ?h7_w ?h7_run hval ?h7_k ?h7_p ?h7_o
                    case h7_r => kernel_rfl
                    case h7_l => kernel_rfl
                    case h7_w => kernel_rfl
                    case h7_run => exact (run_call_value (cap := valCap bx k) (v := .slice Ax L cx) rfl (by kernel_rfl) (by kernel_rfl) (val_invoke k))
                    case h7_o => exact (fun W1 h => by cases h.1)
                    case h7_p => exact (fun c W1 h => by cases h.1)
                    intro v W2 h
                    obtain ⟨h1, hbW2⟩ := h
                    injection h1 with h1
                    subst h1
                    have HS2 := hSb _ hbW2
                    clear HS0
                    have HS0 := HS2
                    clear HS2
                    refine ⟨HS0, ?_⟩
                    refine draw_take (i := 33) (l2 := #[true, true, true, true, true, true, true, true, true, true, true, true, true, true, true, true, true, true, true, true, true, true, true, true, true, true, true, true, true, true, true, true, true, true, false]) (v := .bool true) rfl (by kernel_rfl) (by kernel_rfl) (by kernel_rfl) (by kernel_rfl) (by kernel_rfl) (fun _ _ _ h => h) (.inl ⟨by kernel_rfl, fun W' hS => ?_⟩) HS0 ?_
                    · kernel_rfl
                    refine draw_call (i := 34) (l2 := #[true, true, true, true, true, true, true, true, true, true, true, true, true, true, true, true, true, true, true, true, true, true, true, true, true, true, true, true, true, true, true, true, true, true, true]) ?h8_r ?h8_l (show _ from rfl) ?h8_w ?h8_run (vmust_ok 40 _) ?h8_k ?h8_p ?h8_o
                    case h8_r => kernel_rfl
                    case h8_l => kernel_rfl
                    case h8_w => kernel_rfl
                    case h8_run => kernel_rfl
                    case h8_o => exact (fun W1 h => by cases h.1)
                    case h8_p => exact (fun c W1 h => by cases h.1)
                    intro v W3 h
                    obtain ⟨h1, rfl⟩ := h
                    injection h1 with h1
                    subst h1
                    refine ⟨HS0, ?_⟩
                    refine draw_done (by kernel_rfl) ?_
                    go_wp2
                    have hWB2 : Below wr.heap.size wr W2 := hWB.trans (hbW2.mono hWB.size)
                    go_roundw
                    case rel => exact ⟨j + 1, by go_num, by omega, by rw [all_take_succ Hall2.out Hpj.out]; exact Hgood.out, hBr2.trans (hWB2.mono hBr2.size)⟩
                    case measure => simp [intOf]; omega
              · have Hbad := Lib.hid (hbad (by unfold shapeOk; simp [hk14]))
                clear hbad
                go_wp2_with (first
                  | ((with_reducible refine gate_dst (N := 8) rfl ?_); refine box_event rfl (N := 8) rfl (cs := #[.int .i64 0, .int .i64 0, .slice none 0 0, .int .i64 0]) (t := 95) (by kernel_rfl) ?_; intro g8 hg8 w8 hb8 hbel8; have hge8 : wr.heap.size ≤ g8 := Nat.le_of_eq hg8.symm; clear hg8)
                  | ((with_reducible refine gate_store (t := 95) (p := 8) rfl ?_); refine store_row_event rfl rfl rfl rfl hb8 (by kernel_rfl) rfl (by kernel_rfl) ?_; intro w9 hb9 hg9; have hB9 : Below wr.heap.size wr w9 := hbel8.grown hg9 hbel8.size (by rintro k ⟨⟩; exact hge8)))
                refine draw_begin (fun W' => Blk W' g2 139 (shapesV bx) ∧ Blk W' g8 95 #[.int .i64 k0, .int .i64 k1, .slice Ax L cx, .int .i64 d]) (fun _ => false) (by kernel_rfl) (n := 35) rfl rfl ?_
                intro W _hWh hWg
                clear _hWh
                have hWB : Below wr.heap.size wr W := hB9.trans ((below_of_grown0 hWg).mono hB9.size)
                have HS0 : Blk W g2 139 (shapesV bx) ∧ Blk W g8 95 #[.int .i64 k0, .int .i64 k1, .slice Ax L cx, .int .i64 d] := ⟨blk_below hb2r2 hWB, blk_grown hb9 hWg (by simp)⟩
                refine draw_take (i := 0) (l2 := #[true, false, false, false, false, false, false, false, false, false, false, false, false, false, false, false, false, false, false, false, false, false, false, false, false, false, false, false, false, false, false, false, false, false, false]) (v := .pointer (some ⟨g8, 0, none⟩)) rfl (by kernel_rfl) (by kernel_rfl) (by kernel_rfl) (by kernel_rfl) (by kernel_rfl) (fun _ _ _ h => h) (.inl ⟨by kernel_rfl, fun W' hS => ?_⟩) HS0 ?_
                · kernel_rfl
                refine draw_take (i := 1) (l2 := #[true, true, false, false, false, false, false, false, false, false, false, false, false, false, false, false, false, false, false, false, false, false, false, false, false, false, false, false, false, false, false, false, false, false, false]) (v := .pointer (some ⟨g8, 0, none⟩)) rfl (by kernel_rfl) (by kernel_rfl) (by kernel_rfl) (by kernel_rfl) (by kernel_rfl) (fun _ _ _ h => h) (.inl ⟨by kernel_rfl, fun W' hS => ?_⟩) HS0 ?_
                · kernel_rfl
                refine draw_take (i := 2) (l2 := #[true, true, true, false, false, false, false, false, false, false, false, false, false, false, false, false, false, false, false, false, false, false, false, false, false, false, false, false, false, false, false, false, false, false, false]) (v := .int .i64 k0) rfl (by kernel_rfl) (by kernel_rfl) (by kernel_rfl) (by kernel_rfl) (by kernel_rfl) (fun _ _ _ h => h) (.inl ⟨by kernel_rfl, fun W' hS => ?_⟩) HS0 ?_
                · exact run_load_cell rfl (by kernel_rfl) hS.2 (i := 0) rfl Tryd.underlying23 rfl
                refine draw_take (i := 3) (l2 := #[true, true, true, true, false, false, false, false, false, false, false, false, false, false, false, false, false, false, false, false, false, false, false, false, false, false, false, false, false, false, false, false, false, false, false]) (v := .bool true) rfl (by kernel_rfl) (by kernel_rfl) (by kernel_rfl) (by kernel_rfl) (by kernel_rfl) (fun _ _ _ h => h) (.inl ⟨by kernel_rfl, fun W' hS => ?_⟩) HS0 ?_
                · exact run_geq rfl Tryd.underlying23 (by kernel_rfl) (by kernel_rfl) (n := k0) (m := 0) (decide_eq_true (by omega))
                refine draw_take (i := 4) (l2 := #[true, true, true, true, true, false, false, false, false, false, false, false, false, false, false, false, false, false, false, false, false, false, false, false, false, false, false, false, false, false, false, false, false, false, false]) (v := .bool true) rfl (by kernel_rfl) (by kernel_rfl) (by kernel_rfl) (by kernel_rfl) (by kernel_rfl) (fun _ _ _ h => h) (.inl ⟨by kernel_rfl, fun W' hS => ?_⟩) HS0 ?_
                · kernel_rfl
                refine draw_take (i := 5) (l2 := #[true, true, true, true, true, true, false, false, false, false, false, false, false, false, false, false, false, false, false, false, false, false, false, false, false, false, false, false, false, false, false, false, false, false, false]) (v := .pointer (some ⟨g8, 0, none⟩)) rfl (by kernel_rfl) (by kernel_rfl) (by kernel_rfl) (by kernel_rfl) (by kernel_rfl) (fun _ _ _ h => h) (.inl ⟨by kernel_rfl, fun W' hS => ?_⟩) HS0 ?_
                · kernel_rfl
                refine draw_take (i := 6) (l2 := #[true, true, true, true, true, true, true, false, false, false, false, false, false, false, false, false, false, false, false, false, false, false, false, false, false, false, false, false, false, false, false, false, false, false, false]) (v := .pointer (some ⟨g8, 0, none⟩)) rfl (by kernel_rfl) (by kernel_rfl) (by kernel_rfl) (by kernel_rfl) (by kernel_rfl) (fun _ _ _ h => h) (.inl ⟨by kernel_rfl, fun W' hS => ?_⟩) HS0 ?_
                · kernel_rfl
                refine draw_take (i := 7) (l2 := #[true, true, true, true, true, true, true, true, false, false, false, false, false, false, false, false, false, false, false, false, false, false, false, false, false, false, false, false, false, false, false, false, false, false, false]) (v := .int .i64 k0) rfl (by kernel_rfl) (by kernel_rfl) (by kernel_rfl) (by kernel_rfl) (by kernel_rfl) (fun _ _ _ h => h) (.inl ⟨by kernel_rfl, fun W' hS => ?_⟩) HS0 ?_
                · exact run_load_cell rfl (by kernel_rfl) hS.2 (i := 0) rfl Tryd.underlying23 rfl
                refine draw_take (i := 8) (l2 := #[true, true, true, true, true, true, true, true, true, false, false, false, false, false, false, false, false, false, false, false, false, false, false, false, false, false, false, false, false, false, false, false, false, false, false]) (v := .bool false) rfl (by kernel_rfl) (by kernel_rfl) (by kernel_rfl) (by kernel_rfl) (by kernel_rfl) (fun _ _ _ h => h) (.inl ⟨by kernel_rfl, fun W' hS => ?_⟩) HS0 ?_
                · exact run_lss rfl Tryd.underlying3 (by kernel_rfl) (by kernel_rfl) (n := k0) (m := 14) (decide_eq_false (by omega))
                refine draw_take (i := 9) (l2 := #[true, true, true, true, true, true, true, true, true, true, false, false, false, false, false, false, false, false, false, false, false, false, false, false, false, false, false, false, false, false, false, false, false, false, false]) (v := .bool false) rfl (by kernel_rfl) (by kernel_rfl) (by kernel_rfl) (by kernel_rfl) (by kernel_rfl) (fun _ _ _ h => h) (.inl ⟨by kernel_rfl, fun W' hS => ?_⟩) HS0 ?_
                · kernel_rfl
                refine draw_take (i := 10) (l2 := #[true, true, true, true, true, true, true, true, true, true, true, false, false, false, false, false, false, false, false, false, false, false, false, false, false, false, false, false, false, false, false, false, false, false, false]) (v := .bool false) rfl (by kernel_rfl) (by kernel_rfl) (by kernel_rfl) (by kernel_rfl) (by kernel_rfl) (fun _ _ _ h => h) (.inl ⟨by kernel_rfl, fun W' hS => ?_⟩) HS0 ?_
                · kernel_rfl
                refine draw_take (i := 11) (l2 := #[true, true, true, true, true, true, true, true, true, true, true, true, false, false, false, false, false, false, false, false, false, false, false, false, false, false, false, false, false, false, false, false, false, false, false]) (v := undef) rfl (by kernel_rfl) (by kernel_rfl) (by kernel_rfl) (by kernel_rfl) (by kernel_rfl) (fun _ _ _ h => h) (.inr ⟨by kernel_rfl, rfl⟩) HS0 ?_
                refine draw_take (i := 12) (l2 := #[true, true, true, true, true, true, true, true, true, true, true, true, true, false, false, false, false, false, false, false, false, false, false, false, false, false, false, false, false, false, false, false, false, false, false]) (v := undef) rfl (by kernel_rfl) (by kernel_rfl) (by kernel_rfl) (by kernel_rfl) (by kernel_rfl) (fun _ _ _ h => h) (.inr ⟨by kernel_rfl, rfl⟩) HS0 ?_
                refine draw_take (i := 13) (l2 := #[true, true, true, true, true, true, true, true, true, true, true, true, true, true, false, false, false, false, false, false, false, false, false, false, false, false, false, false, false, false, false, false, false, false, false]) (v := undef) rfl (by kernel_rfl) (by kernel_rfl) (by kernel_rfl) (by kernel_rfl) (by kernel_rfl) (fun _ _ _ h => h) (.inr ⟨by kernel_rfl, rfl⟩) HS0 ?_
                refine draw_take (i := 14) (l2 := #[true, true, true, true, true, true, true, true, true, true, true, true, true, true, true, false, false, false, false, false, false, false, false, false, false, false, false, false, false, false, false, false, false, false, false]) (v := undef) rfl (by kernel_rfl) (by kernel_rfl) (by kernel_rfl) (by kernel_rfl) (by kernel_rfl) (fun _ _ _ h => h) (.inr ⟨by kernel_rfl, rfl⟩) HS0 ?_
                refine draw_take (i := 15) (l2 := #[true, true, true, true, true, true, true, true, true, true, true, true, true, true, true, true, false, false, false, false, false, false, false, false, false, false, false, false, false, false, false, false, false, false, false]) (v := undef) rfl (by kernel_rfl) (by kernel_rfl) (by kernel_rfl) (by kernel_rfl) (by kernel_rfl) (fun _ _ _ h => h) (.inr ⟨by kernel_rfl, rfl⟩) HS0 ?_
                refine draw_take (i := 16) (l2 := #[true, true, true, true, true, true, true, true, true, true, true, true, true, true, true, true, true, false, false, false, false, false, false, false, false, false, false, false, false, false, false, false, false, false, false]) (v := undef) rfl (by kernel_rfl) (by kernel_rfl) (by kernel_rfl) (by kernel_rfl) (by kernel_rfl) (fun _ _ _ h => h) (.inr ⟨by kernel_rfl, rfl⟩) HS0 ?_
                refine draw_take (i := 17) (l2 := #[true, true, true, true, true, true, true, true, true, true, true, true, true, true, true, true, true, true, false, false, false, false, false, false, false, false, false, false, false, false, false, false, false, false, false]) (v := undef) rfl (by kernel_rfl) (by kernel_rfl) (by kernel_rfl) (by kernel_rfl) (by kernel_rfl) (fun _ _ _ h => h) (.inr ⟨by kernel_rfl, rfl⟩) HS0 ?_
                refine draw_take (i := 18) (l2 := #[true, true, true, true, true, true, true, true, true, true, true, true, true, true, true, true, true, true, true, false, false, false, false, false, false, false, false, false, false, false, false, false, false, false, false]) (v := undef) rfl (by kernel_rfl) (by kernel_rfl) (by kernel_rfl) (by kernel_rfl) (by kernel_rfl) (fun _ _ _ h => h) (.inr ⟨by kernel_rfl, rfl⟩) HS0 ?_
                refine draw_take (i := 19) (l2 := #[true, true, true, true, true, true, true, true, true, true, true, true, true, true, true, true, true, true, true, true, false, false, false, false, false, false, false, false, false, false, false, false, false, false, false]) (v := undef) rfl (by kernel_rfl) (by kernel_rfl) (by kernel_rfl) (by kernel_rfl) (by kernel_rfl) (fun _ _ _ h => h) (.inr ⟨by kernel_rfl, rfl⟩) HS0 ?_
                refine draw_off (i := 20) (l2 := #[true, true, true, true, true, true, true, true, true, true, true, true, true, true, true, true, true, true, true, true, true, false, false, false, false, false, false, false, false, false, false, false, false, false, false]) (by kernel_rfl) (by kernel_rfl) rfl (by kernel_rfl) HS0 ?_
                refine draw_take (i := 21) (l2 := #[true, true, true, true, true, true, true, true, true, true, true, true, true, true, true, true, true, true, true, true, true, true, false, false, false, false, false, false, false, false, false, false, false, false, false]) (v := .bool false) rfl (by kernel_rfl) (by kernel_rfl) (by kernel_rfl) (by kernel_rfl) (by kernel_rfl) (fun _ _ _ h => h) (.inl ⟨by kernel_rfl, fun W' hS => ?_⟩) HS0 ?_
                · kernel_rfl
                refine draw_take (i := 22) (l2 := #[true, true, true, true, true, true, true, true, true, true, true, true, true, true, true, true, true, true, true, true, true, true, true, false, false, false, false, false, false, false, false, false, false, false, false]) (v := .bool false) rfl (by kernel_rfl) (by kernel_rfl) (by kernel_rfl) (by kernel_rfl) (by kernel_rfl) (fun _ _ _ h => h) (.inl ⟨by kernel_rfl, fun W' hS => ?_⟩) HS0 ?_
                · kernel_rfl
                refine draw_take (i := 23) (l2 := #[true, true, true, true, true, true, true, true, true, true, true, true, true, true, true, true, true, true, true, true, true, true, true, true, false, false, false, false, false, false, false, false, false, false, false]) (v := undef) rfl (by kernel_rfl) (by kernel_rfl) (by kernel_rfl) (by kernel_rfl) (by kernel_rfl) (fun _ _ _ h => h) (.inr ⟨by kernel_rfl, rfl⟩) HS0 ?_
                refine draw_take (i := 24) (l2 := #[true, true, true, true, true, true, true, true, true, true, true, true, true, true, true, true, true, true, true, true, true, true, true, true, true, false, false, false, false, false, false, false, false, false, false]) (v := undef) rfl (by kernel_rfl) (by kernel_rfl) (by kernel_rfl) (by kernel_rfl) (by kernel_rfl) (fun _ _ _ h => h) (.inr ⟨by kernel_rfl, rfl⟩) HS0 ?_
                refine draw_take (i := 25) (l2 := #[true, true, true, true, true, true, true, true, true, true, true, true, true, true, true, true, true, true, true, true, true, true, true, true, true, true, false, false, false, false, false, false, false, false, false]) (v := undef) rfl (by kernel_rfl) (by kernel_rfl) (by kernel_rfl) (by kernel_rfl) (by kernel_rfl) (fun _ _ _ h => h) (.inr ⟨by kernel_rfl, rfl⟩) HS0 ?_
                refine draw_take (i := 26) (l2 := #[true, true, true, true, true, true, true, true, true, true, true, true, true, true, true, true, true, true, true, true, true, true, true, true, true, true, true, false, false, false, false, false, false, false, false]) (v := undef) rfl (by kernel_rfl) (by kernel_rfl) (by kernel_rfl) (by kernel_rfl) (by kernel_rfl) (fun _ _ _ h => h) (.inr ⟨by kernel_rfl, rfl⟩) HS0 ?_
                refine draw_take (i := 27) (l2 := #[true, true, true, true, true, true, true, true, true, true, true, true, true, true, true, true, true, true, true, true, true, true, true, true, true, true, true, true, false, false, false, false, false, false, false]) (v := undef) rfl (by kernel_rfl) (by kernel_rfl) (by kernel_rfl) (by kernel_rfl) (by kernel_rfl) (fun _ _ _ h => h) (.inr ⟨by kernel_rfl, rfl⟩) HS0 ?_
                refine draw_take (i := 28) (l2 := #[true, true, true, true, true, true, true, true, true, true, true, true, true, true, true, true, true, true, true, true, true, true, true, true, true, true, true, true, true, false, false, false, false, false, false]) (v := undef) rfl (by kernel_rfl) (by kernel_rfl) (by kernel_rfl) (by kernel_rfl) (by kernel_rfl) (fun _ _ _ h => h) (.inr ⟨by kernel_rfl, rfl⟩) HS0 ?_
                refine draw_take (i := 29) (l2 := #[true, true, true, true, true, true, true, true, true, true, true, true, true, true, true, true, true, true, true, true, true, true, true, true, true, true, true, true, true, true, false, false, false, false, false]) (v := undef) rfl (by kernel_rfl) (by kernel_rfl) (by kernel_rfl) (by kernel_rfl) (by kernel_rfl) (fun _ _ _ h => h) (.inr ⟨by kernel_rfl, rfl⟩) HS0 ?_
                refine draw_take (i := 30) (l2 := #[true, true, true, true, true, true, true, true, true, true, true, true, true, true, true, true, true, true, true, true, true, true, true, true, true, true, true, true, true, true, true, false, false, false, false]) (v := undef) rfl (by kernel_rfl) (by kernel_rfl) (by kernel_rfl) (by kernel_rfl) (by kernel_rfl) (fun _ _ _ h => h) (.inr ⟨by kernel_rfl, rfl⟩) HS0 ?_
                refine draw_take (i := 31) (l2 := #[true, true, true, true, true, true, true, true, true, true, true, true, true, true, true, true, true, true, true, true, true, true, true, true, true, true, true, true, true, true, true, true, false, false, false]) (v := undef) rfl (by kernel_rfl) (by kernel_rfl) (by kernel_rfl) (by kernel_rfl) (by kernel_rfl) (fun _ _ _ h => h) (.inr ⟨by kernel_rfl, rfl⟩) HS0 ?_
                refine draw_off (i := 32) (l2 := #[true, true, true, true, true, true, true, true, true, true, true, true, true, true, true, true, true, true, true, true, true, true, true, true, true, true, true, true, true, true, true, true, true, false, false]) (by kernel_rfl) (by kernel_rfl) rfl (by kernel_rfl) HS0 ?_
                refine draw_take (i := 33) (l2 := #[true, true, true, true, true, true, true, true, true, true, true, true, true, true, true, true, true, true, true, true, true, true, true, true, true, true, true, true, true, true, true, true, true, true, false]) (v := .bool false) rfl (by kernel_rfl) (by kernel_rfl) (by kernel_rfl) (by kernel_rfl) (by kernel_rfl) (fun _ _ _ h => h) (.inl ⟨by kernel_rfl, fun W' hS => ?_⟩) HS0 ?_
                · kernel_rfl
                refine draw_call (i := 34) (l2 := #[true, true, true, true, true, true, true, true, true, true, true, true, true, true, true, true, true, true, true, true, true, true, true, true, true, true, true, true, true, true, true, true, true, true, true]) ?h9_r ?h9_l (show _ from rfl) ?h9_w ?h9_run (vmust_bad 40 _) ?h9_k ?h9_p ?h9_o
                case h9_r => kernel_rfl
                case h9_l => kernel_rfl
                case h9_w => kernel_rfl
                case h9_run => kernel_rfl
                case h9_o => exact (fun W1 h => by cases h.1)
                case h9_k => exact (fun v W1 h => by cases h.1)
                intro c W3 h
                obtain ⟨h1, rfl⟩ := h
                injection h1 with h1
                subst h1
                exact ⟨rfl, by rw [Hbad.out]; rfl, hBall.trans (hWB.mono hBall.size)⟩
            · have Hbad := Lib.hid (hbad (by unfold shapeOk; simp [hk0]))
              clear hbad
              go_wp2_with (first
                | ((with_reducible refine gate_dst (N := 8) rfl ?_); refine box_event rfl (N := 8) rfl (cs := #[.int .i64 0, .int .i64 0, .slice none 0 0, .int .i64 0]) (t := 95) (by kernel_rfl) ?_; intro g8 hg8 w8 hb8 hbel8; have hge8 : wr.heap.size ≤ g8 := Nat.le_of_eq hg8.symm; clear hg8)
                | ((with_reducible refine gate_store (t := 95) (p := 8) rfl ?_); refine store_row_event rfl rfl rfl rfl hb8 (by kernel_rfl) rfl (by kernel_rfl) ?_; intro w9 hb9 hg9; have hB9 : Below wr.heap.size wr w9 := hbel8.grown hg9 hbel8.size (by rintro k ⟨⟩; exact hge8)))
              refine draw_begin (fun W' => Blk W' g2 139 (shapesV bx) ∧ Blk W' g8 95 #[.int .i64 k0, .int .i64 k1, .slice Ax L cx, .int .i64 d]) (fun _ => false) (by kernel_rfl) (n := 35) rfl rfl ?_
              intro W _hWh hWg
              clear _hWh
              have hWB : Below wr.heap.size wr W := hB9.trans ((below_of_grown0 hWg).mono hB9.size)
              have HS0 : Blk W g2 139 (shapesV bx) ∧ Blk W g8 95 #[.int .i64 k0, .int .i64 k1, .slice Ax L cx, .int .i64 d] := ⟨blk_below hb2r2 hWB, blk_grown hb9 hWg (by simp)⟩
              refine draw_take (i := 0) (l2 := #[true, false, false, false, false, false, false, false, false, false, false, false, false, false, false, false, false, false, false, false, false, false, false, false, false, false, false, false, false, false, false, false, false, false, false]) (v := .pointer (some ⟨g8, 0, none⟩)) rfl (by kernel_rfl) (by kernel_rfl) (by kernel_rfl) (by kernel_rfl) (by kernel_rfl) (fun _ _ _ h => h) (.inl ⟨by kernel_rfl, fun W' hS => ?_⟩) HS0 ?_
              · kernel_rfl
              refine draw_take (i := 1) (l2 := #[true, true, false, false, false, false, false, false, false, false, false, false, false, false, false, false, false, false, false, false, false, false, false, false, false, false, false, false, false, false, false, false, false, false, false]) (v := .pointer (some ⟨g8, 0, none⟩)) rfl (by kernel_rfl) (by kernel_rfl) (by kernel_rfl) (by kernel_rfl) (by kernel_rfl) (fun _ _ _ h => h) (.inl ⟨by kernel_rfl, fun W' hS => ?_⟩) HS0 ?_
              · kernel_rfl
              refine draw_take (i := 2) (l2 := #[true, true, true, false, false, false, false, false, false, false, false, false, false, false, false, false, false, false, false, false, false, false, false, false, false, false, false, false, false, false, false, false, false, false, false]) (v := .int .i64 k0) rfl (by kernel_rfl) (by kernel_rfl) (by kernel_rfl) (by kernel_rfl) (by kernel_rfl) (fun _ _ _ h => h) (.inl ⟨by kernel_rfl, fun W' hS => ?_⟩) HS0 ?_
              · exact run_load_cell rfl (by kernel_rfl) hS.2 (i := 0) rfl Tryd.underlying23 rfl
              refine draw_take (i := 3) (l2 := #[true, true, true, true, false, false, false, false, false, false, false, false, false, false, false, false, false, false, false, false, false, false, false, false, false, false, false, false, false, false, false, false, false, false, false]) (v := .bool false) rfl (by kernel_rfl) (by kernel_rfl) (by kernel_rfl) (by kernel_rfl) (by kernel_rfl) (fun _ _ _ h => h) (.inl ⟨by kernel_rfl, fun W' hS => ?_⟩) HS0 ?_
              · exact run_geq rfl Tryd.underlying23 (by kernel_rfl) (by kernel_rfl) (n := k0) (m := 0) (decide_eq_false (by omega))
              refine draw_take (i := 4) (l2 := #[true, true, true, true, true, false, false, false, false, false, false, false, false, false, false, false, false, false, false, false, false, false, false, false, false, false, false, false, false, false, false, false, false, false, false]) (v := .bool false) rfl (by kernel_rfl) (by kernel_rfl) (by kernel_rfl) (by kernel_rfl) (by kernel_rfl) (fun _ _ _ h => h) (.inl ⟨by kernel_rfl, fun W' hS => ?_⟩) HS0 ?_
              · kernel_rfl
              refine draw_take (i := 5) (l2 := #[true, true, true, true, true, true, false, false, false, false, false, false, false, false, false, false, false, false, false, false, false, false, false, false, false, false, false, false, false, false, false, false, false, false, false]) (v := undef) rfl (by kernel_rfl) (by kernel_rfl) (by kernel_rfl) (by kernel_rfl) (by kernel_rfl) (fun _ _ _ h => h) (.inr ⟨by kernel_rfl, rfl⟩) HS0 ?_
              refine draw_take (i := 6) (l2 := #[true, true, true, true, true, true, true, false, false, false, false, false, false, false, false, false, false, false, false, false, false, false, false, false, false, false, false, false, false, false, false, false, false, false, false]) (v := undef) rfl (by kernel_rfl) (by kernel_rfl) (by kernel_rfl) (by kernel_rfl) (by kernel_rfl) (fun _ _ _ h => h) (.inr ⟨by kernel_rfl, rfl⟩) HS0 ?_
              refine draw_take (i := 7) (l2 := #[true, true, true, true, true, true, true, true, false, false, false, false, false, false, false, false, false, false, false, false, false, false, false, false, false, false, false, false, false, false, false, false, false, false, false]) (v := undef) rfl (by kernel_rfl) (by kernel_rfl) (by kernel_rfl) (by kernel_rfl) (by kernel_rfl) (fun _ _ _ h => h) (.inr ⟨by kernel_rfl, rfl⟩) HS0 ?_
              refine draw_take (i := 8) (l2 := #[true, true, true, true, true, true, true, true, true, false, false, false, false, false, false, false, false, false, false, false, false, false, false, false, false, false, false, false, false, false, false, false, false, false, false]) (v := undef) rfl (by kernel_rfl) (by kernel_rfl) (by kernel_rfl) (by kernel_rfl) (by kernel_rfl) (fun _ _ _ h => h) (.inr ⟨by kernel_rfl, rfl⟩) HS0 ?_
              refine draw_take (i := 9) (l2 := #[true, true, true, true, true, true, true, true, true, true, false, false, false, false, false, false, false, false, false, false, false, false, false, false, false, false, false, false, false, false, false, false, false, false, false]) (v := .bool false) rfl (by kernel_rfl) (by kernel_rfl) (by kernel_rfl) (by kernel_rfl) (by kernel_rfl) (fun _ _ _ h => h) (.inl ⟨by kernel_rfl, fun W' hS => ?_⟩) HS0 ?_
              · kernel_rfl
              refine draw_take (i := 10) (l2 := #[true, true, true, true, true, true, true, true, true, true, true, false, false, false, false, false, false, false, false, false, false, false, false, false, false, false, false, false, false, false, false, false, false, false, false]) (v := .bool false) rfl (by kernel_rfl) (by kernel_rfl) (by kernel_rfl) (by kernel_rfl) (by kernel_rfl) (fun _ _ _ h => h) (.inl ⟨by kernel_rfl, fun W' hS => ?_⟩) HS0 ?_
              · kernel_rfl
              refine draw_take (i := 11) (l2 := #[true, true, true, true, true, true, true, true, true, true, true, true, false, false, false, false, false, false, false, false, false, false, false, false, false, false, false, false, false, false, false, false, false, false, false]) (v := undef) rfl (by kernel_rfl) (by kernel_rfl) (by kernel_rfl) (by kernel_rfl) (by kernel_rfl) (fun _ _ _ h => h) (.inr ⟨by kernel_rfl, rfl⟩) HS0 ?_
              refine draw_take (i := 12) (l2 := #[true, true, true, true, true, true, true, true, true, true, true, true, true, false, false, false, false, false, false, false, false, false, false, false, false, false, false, false, false, false, false, false, false, false, false]) (v := undef) rfl (by kernel_rfl) (by kernel_rfl) (by kernel_rfl) (by kernel_rfl) (by kernel_rfl) (fun _ _ _ h => h) (.inr ⟨by kernel_rfl, rfl⟩) HS0 ?_
              refine draw_take (i := 13) (l2 := #[true, true, true, true, true, true, true, true, true, true, true, true, true, true, false, false, false, false, false, false, false, false, false, false, false, false, false, false, false, false, false, false, false, false, false]) (v := undef) rfl (by kernel_rfl) (by kernel_rfl) (by kernel_rfl) (by kernel_rfl) (by kernel_rfl) (fun _ _ _ h => h) (.inr ⟨by kernel_rfl, rfl⟩) HS0 ?_
              refine draw_take (i := 14) (l2 := #[true, true, true, true, true, true, true, true, true, true, true, true, true, true, true, false, false, false, false, false, false, false, false, false, false, false, false, false, false, false, false, false, false, false, false]) (v := undef) rfl (by kernel_rfl) (by kernel_rfl) (by kernel_rfl) (by kernel_rfl) (by kernel_rfl) (fun _ _ _ h => h) (.inr ⟨by kernel_rfl, rfl⟩) HS0 ?_
              refine draw_take (i := 15) (l2 := #[true, true, true, true, true, true, true, true, true, true, true, true, true, true, true, true, false, false, false, false, false, false, false, false, false, false, false, false, false, false, false, false, false, false, false]) (v := undef) rfl (by kernel_rfl) (by kernel_rfl) (by kernel_rfl) (by kernel_rfl) (by kernel_rfl) (fun _ _ _ h => h) (.inr ⟨by kernel_rfl, rfl⟩) HS0 ?_
              refine draw_take (i := 16) (l2 := #[true, true, true, true, true, true, true, true, true, true, true, true, true, true, true, true, true, false, false, false, false, false, false, false, false, false, false, false, false, false, false, false, false, false, false]) (v := undef) rfl (by kernel_rfl) (by kernel_rfl) (by kernel_rfl) (by kernel_rfl) (by kernel_rfl) (fun _ _ _ h => h) (.inr ⟨by kernel_rfl, rfl⟩) HS0 ?_
              refine draw_take (i := 17) (l2 := #[true, true, true, true, true, true, true, true, true, true, true, true, true, true, true, true, true, true, false, false, false, false, false, false, false, false, false, false, false, false, false, false, false, false, false]) (v := undef) rfl (by kernel_rfl) (by kernel_rfl) (by kernel_rfl) (by kernel_rfl) (by kernel_rfl) (fun _ _ _ h => h) (.inr ⟨by kernel_rfl, rfl⟩) HS0 ?_
              refine draw_take (i := 18) (l2 := #[true, true, true, true, true, true, true, true, true, true, true, true, true, true, true, true, true, true, true, false, false, false, false, false, false, false, false, false, false, false, false, false, false, false, false]) (v := undef) rfl (by kernel_rfl) (by kernel_rfl) (by kernel_rfl) (by kernel_rfl) (by kernel_rfl) (fun _ _ _ h => h) (.inr ⟨by kernel_rfl, rfl⟩) HS0 ?_
              refine draw_take (i := 19) (l2 := #[true, true, true, true, true, true, true, true, true, true, true, true, true, true, true, true, true, true, true, true, false, false, false, false, false, false, false, false, false, false, false, false, false, false, false]) (v := undef) rfl (by kernel_rfl) (by kernel_rfl) (by kernel_rfl) (by kernel_rfl) (by kernel_rfl) (fun _ _ _ h => h) (.inr ⟨by kernel_rfl, rfl⟩) HS0 ?_
              refine draw_off (i := 20) (l2 := #[true, true, true, true, true, true, true, true, true, true, true, true, true, true, true, true, true, true, true, true, true, false, false, false, false, false, false, false, false, false, false, false, false, false, false]) (by kernel_rfl) (by kernel_rfl) rfl (by kernel_rfl) HS0 ?_
              refine draw_take (i := 21) (l2 := #[true, true, true, true, true, true, true, true, true, true, true, true, true, true, true, true, true, true, true, true, true, true, false, false, false, false, false, false, false, false, false, false, false, false, false]) (v := .bool false) rfl (by kernel_rfl) (by kernel_rfl) (by kernel_rfl) (by kernel_rfl) (by kernel_rfl) (fun _ _ _ h => h) (.inl ⟨by kernel_rfl, fun W' hS => ?_⟩) HS0 ?_
              · kernel_rfl
              refine draw_take (i := 22) (l2 := #[true, true, true, true, true, true, true, true, true, true, true, true, true, true, true, true, true, true, true, true, true, true, true, false, false, false, false, false, false, false, false, false, false, false, false]) (v := .bool false) rfl (by kernel_rfl) (by kernel_rfl) (by kernel_rfl) (by kernel_rfl) (by kernel_rfl) (fun _ _ _ h => h) (.inl ⟨by kernel_rfl, fun W' hS => ?_⟩) HS0 ?_
              · kernel_rfl
              refine draw_take (i := 23) (l2 := #[true, true, true, true, true, true, true, true, true, true, true, true, true, true, true, true, true, true, true, true, true, true, true, true, false, false, false, false, false, false, false, false, false, false, false]) (v := undef) rfl (by kernel_rfl) (by kernel_rfl) (by kernel_rfl) (by kernel_rfl) (by kernel_rfl) (fun _ _ _ h => h) (.inr ⟨by kernel_rfl, rfl⟩) HS0 ?_
              refine draw_take (i := 24) (l2 := #[true, true, true, true, true, true, true, true, true, true, true, true, true, true, true, true, true, true, true, true, true, true, true, true, true, false, false, false, false, false, false, false, false, false, false]) (v := undef) rfl (by kernel_rfl) (by kernel_rfl) (by kernel_rfl) (by kernel_rfl) (by kernel_rfl) (fun _ _ _ h => h) (.inr ⟨by kernel_rfl, rfl⟩) HS0 ?_
              refine draw_take (i := 25) (l2 := #[true, true, true, true, true, true, true, true, true, true, true, true, true, true, true, true, true, true, true, true, true, true, true, true, true, true, false, false, false, false, false, false, false, false, false]) (v := undef) rfl (by kernel_rfl) (by kernel_rfl) (by kernel_rfl) (by kernel_rfl) (by kernel_rfl) (fun _ _ _ h => h) (.inr ⟨by kernel_rfl, rfl⟩) HS0 ?_
              refine draw_take (i := 26) (l2 := #[true, true, true, true, true, true, true, true, true, true, true, true, true, true, true, true, true, true, true, true, true, true, true, true, true, true, true, false, false, false, false, false, false, false, false]) (v := undef) rfl (by kernel_rfl) (by kernel_rfl) (by kernel_rfl) (by kernel_rfl) (by kernel_rfl) (fun _ _ _ h => h) (.inr ⟨by kernel_rfl, rfl⟩) HS0 ?_
              refine draw_take (i := 27) (l2 := #[true, true, true, true, true, true, true, true, true, true, true, true, true, true, true, true, true, true, true, true, true, true, true, true, true, true, true, true, false, false, false, false, false, false, false]) (v := undef) rfl (by kernel_rfl) (by kernel_rfl) (by kernel_rfl) (by kernel_rfl) (by kernel_rfl) (fun _ _ _ h => h) (.inr ⟨by kernel_rfl, rfl⟩) HS0 ?_
              refine draw_take (i := 28) (l2 := #[true, true, true, true, true, true, true, true, true, true, true, true, true, true, true, true, true, true, true, true, true, true, true, true, true, true, true, true, true, false, false, false, false, false, false]) (v := undef) rfl (by kernel_rfl) (by kernel_rfl) (by kernel_rfl) (by kernel_rfl) (by kernel_rfl) (fun _ _ _ h => h) (.inr ⟨by kernel_rfl, rfl⟩) HS0 ?_
              refine draw_take (i := 29) (l2 := #[true, true, true, true, true, true, true, true, true, true, true, true, true, true, true, true, true, true, true, true, true, true, true, true, true, true, true, true, true, true, false, false, false, false, false]) (v := undef) rfl (by kernel_rfl) (by kernel_rfl) (by kernel_rfl) (by kernel_rfl) (by kernel_rfl) (fun _ _ _ h => h) (.inr ⟨by kernel_rfl, rfl⟩) HS0 ?_
              refine draw_take (i := 30) (l2 := #[true, true, true, true, true, true, true, true, true, true, true, true, true, true, true, true, true, true, true, true, true, true, true, true, true, true, true, true, true, true, true, false, false, false, false]) (v := undef) rfl (by kernel_rfl) (by kernel_rfl) (by kernel_rfl) (by kernel_rfl) (by kernel_rfl) (fun _ _ _ h => h) (.inr ⟨by kernel_rfl, rfl⟩) HS0 ?_
              refine draw_take (i := 31) (l2 := #[true, true, true, true, true, true, true, true, true, true, true, true, true, true, true, true, true, true, true, true, true, true, true, true, true, true, true, true, true, true, true, true, false, false, false]) (v := undef) rfl (by kernel_rfl) (by kernel_rfl) (by kernel_rfl) (by kernel_rfl) (by kernel_rfl) (fun _ _ _ h => h) (.inr ⟨by kernel_rfl, rfl⟩) HS0 ?_
              refine draw_off (i := 32) (l2 := #[true, true, true, true, true, true, true, true, true, true, true, true, true, true, true, true, true, true, true, true, true, true, true, true, true, true, true, true, true, true, true, true, true, false, false]) (by kernel_rfl) (by kernel_rfl) rfl (by kernel_rfl) HS0 ?_
              refine draw_take (i := 33) (l2 := #[true, true, true, true, true, true, true, true, true, true, true, true, true, true, true, true, true, true, true, true, true, true, true, true, true, true, true, true, true, true, true, true, true, true, false]) (v := .bool false) rfl (by kernel_rfl) (by kernel_rfl) (by kernel_rfl) (by kernel_rfl) (by kernel_rfl) (fun _ _ _ h => h) (.inl ⟨by kernel_rfl, fun W' hS => ?_⟩) HS0 ?_
              · kernel_rfl
              refine draw_call (i := 34) (l2 := #[true, true, true, true, true, true, true, true, true, true, true, true, true, true, true, true, true, true, true, true, true, true, true, true, true, true, true, true, true, true, true, true, true, true, true]) ?h10_r ?h10_l (show _ from rfl) ?h10_w ?h10_run (vmust_bad 40 _) ?h10_k ?h10_p ?h10_o
              case h10_r => kernel_rfl
              case h10_l => kernel_rfl
              case h10_w => kernel_rfl
              case h10_run => kernel_rfl
              case h10_o => exact (fun W1 h => by cases h.1)
              case h10_k => exact (fun v W1 h => by cases h.1)
              intro c W3 h
              obtain ⟨h1, rfl⟩ := h
              injection h1 with h1
              subst h1
              exact ⟨rfl, by rw [Hbad.out]; rfl, hBall.trans (hWB.mono hBall.size)⟩
          · have hle : ps.take j = ps := List.take_of_length_le (by omega)
            have hok : rightB ⟨f0, f1, f2⟩ = true := by
              unfold rightB
              rw [Hfine.out, ← Hps.out, ← hle, Hall2.out]
              rfl
            have Hok : Hid ((l.take (i + 1)).all rightB = true) := by
              show (l.take (i + 1)).all rightB = true
              rw [all_take_succ Hall.out Hxi.out, hok]
            have hBwr : Below wo.heap.size wo wr := hB6.trans (hBr2.mono (by omega))
            clear hok hle
            go_wp2
            go_roundw
            case rel => exact ⟨i + 1, by go_num, by omega, Hok.out, blk_below hb2r hBwr, fun k hk => blk_below (Hbxr.out k hk) hBwr, hBr.trans (hBwr.mono hBr.size)⟩
            case measure => simp [intOf]; omega
    · have hle : l.take i = l := List.take_of_length_le (by omega)
      have hfin : l.all rightB = true := by rw [← hle]; exact Hall.out
      have Hfin := Lib.hid hfin
      clear hle hfin
      go_wp2
      go_end0
      exact ⟨by rw [Hfin.out]; rfl, hBr⟩
end Go.Proofs.YtfnekpgbfdhnmaaDoor

namespace Go.Proofs.YtfnekpgbfdhnmaaDoor
open Go.RowKit Go.Proofs.YtfnekpgbfdhnmaaDoorW.PrintWords Go.Proofs.YtfnekpgbfdhnmaaDoorW.PrintLast Go.Proofs.YtfnekpgbfdhnmaaDoorW.PrintMore Go.Proofs.YtfnekpgbfdhnmaaDoor.PAll
theorem nothing_calls (w : World) : Calls Tryd.prog 63 #[] w fun e w' => e = .returned (.tuple #[]) ∧ w = w' := by
  go_enter Tryd.func63, Tryd.ntmps63
  go_wp2
  go_end0
  exact ⟨rfl, rfl⟩
set_option maxHeartbeats 1000000 in
theorem vcaught_idle (g0 : Nat) (w : World) :
    CallsD Tryd.prog 62 #[.pointer (some ⟨g0, 0, none⟩), .func (.func 63) #[] #[]] .returning w fun e u' w' => e = .returned (.tuple #[]) ∧ u' = .returning ∧ w' = w := by
  refine callsD_of_wpS Tryd.func62 rfl fun c₀ cs hu => ?_
  apply wpS_seq
  apply wpS_region
  simp [wpOpsS, go_sem, recoverD, hu, Tryd.ntmps62, Exit.thenS]
  have Hu := Lib.hid hu
  clear hu
  refine wpS_of_wp ?_
  generalize hQ : (fun (e : Exit) (a' : Act) (w' : World) => _) = Q
  have HQ := Lib.hid hQ
  clear hQ
  have htm : (#[.pointer (some ⟨g0, 0, none⟩), .func (.func 63) #[] #[]] ++ ((Array.replicate 21 undef).setIfInBounds 5 .nilIface).setIfInBounds 2 .nilIface) = (#[.pointer (some ⟨g0, 0, none⟩), .func (.func 63) #[] #[], undef, undef, .nilIface, undef, undef, .nilIface, undef, undef, undef, undef, undef, undef, undef, undef, undef, undef, undef, undef, undef, undef, undef] : Array Value) := by kernel_rfl
  rw [htm]
  clear htm
  go_wp2_with fail
  rw [← HQ.out]
  have hu := Hu.out
  cases c₀
  simp_all [bodyPostS, results, Tryd.results62]
set_option maxHeartbeats 1000000 in
set_option maxRecDepth 100000 in
theorem vcaught_gave (g0 : Nat) (n : Int) (older : List PanicEntry) (w : World) (c1 : Value) (h0 : Blk w g0 27 #[c1]) :
    CallsD Tryd.prog 62 #[.pointer (some ⟨g0, 0, none⟩), .func (.func 63) #[] #[]] (.panicking ({ v := .iface 27 (.int .i64 n), recovered := false } :: older)) w fun e u' w' => e = .returned (.tuple #[]) ∧ u' = .panicking ({ v := .iface 27 (.int .i64 n), recovered := true } :: older) ∧
      Blk w' g0 27 #[.int .i64 n] ∧ w.grownBy w' (some g0) := by
  refine callsD_of_wpS Tryd.func62 rfl fun c₀ cs hu => ?_
  apply wpS_seq
  apply wpS_region
  simp [wpOpsS, go_sem, recoverD, hu, Tryd.ntmps62, Exit.thenS]
  clear hu
  refine wpS_of_wp ?_
  generalize hQ : (fun (e : Exit) (a' : Act) (w' : World) => _) = Q
  have HQ := Lib.hid hQ
  clear hQ
  have htm : (#[.pointer (some ⟨g0, 0, none⟩), .func (.func 63) #[] #[]] ++ ((Array.replicate 21 undef).setIfInBounds 5 (.iface 27 (.int .i64 n))).setIfInBounds 2 (.iface 27 (.int .i64 n))) = (#[.pointer (some ⟨g0, 0, none⟩), .func (.func 63) #[] #[], undef, undef, .iface 27 (.int .i64 n), undef, undef, .iface 27 (.int .i64 n), undef, undef, undef, undef, undef, undef, undef, undef, undef, undef, undef, undef, undef, undef, undef] : Array Value) := by kernel_rfl
  rw [htm]
  clear htm
  have hta : Sem.run Tryd.prog (Instr.typeAssert (.iface 27 (.int .i64 n)) 20 27 true) w = .ok (.tuple #[.int .i64 n, .bool true]) w := by kernel_rfl
  go_wp2_with (first
    | (go_at_call 63; (with_reducible refine (nothing_calls _).mono ?_); rintro e w1 ⟨rfl, rfl⟩)
    | ((with_reducible refine gate_store (t := 27) (p := 22) rfl ?_); refine store_cell_event rfl rfl rfl rfl h0 rfl (by kernel_rfl) rfl rfl ?_; intro w4 hb42 hg4))
  rw [← HQ.out]
  exact ⟨rfl, _, rfl, _, by simp [results, Tryd.results62], rfl, rfl, hb42, hg4⟩
theorem run_loadVar_cell2 {P : Program} (w : World) (T : TypeId) {g i : Nat} {t : TypeId} {cells : Array Value} {v : Value} {d : TypeDesc} (hb : Blk w g t cells) (hi : cells[i]? = some v) (hu : P.underlying T = some d) (hd : (match d with | .struct _ | .array _ _ => true | _ => false) = false) :
    (loadVar T ⟨g, i, none⟩).run P w = .ok v w := by
  have hagg : (isAgg T).run P w = .ok false w := by
    unfold isAgg
    rw [Sem.run_bind, run_underlying hu w]
    cases d <;> simp_all
  have hc : w.cell? ⟨g, i, none⟩ = some v := (hb.cell i).trans hi
  simp [loadVar, Sem.run_bind, hagg, load, Sem.run, hc]
theorem check_results {W : World} {g : Nat} {tmps : Array Value} {v : Value} (h : Blk W g 27 #[v]) (p : tmps.getD 2 undef = .pointer (some ⟨g, 0, none⟩)) : (results Tryd.f36 tmps).run Tryd.prog W = .ok v W := by
  have e2 := run_loadVar_cell2 (P := Tryd.prog) W 27 h (i := 0) rfl Tryd.underlying27 rfl
  simp only [Array.getD_eq_getD_getElem?] at p
  simp [results, p, asAddr, e2]
/-- One value in a block of its own reads as a row of one. -/
theorem C_one {W : World} {g : Nat} {t : Tree} {A : Option Addr} {c : Nat} (h : Blk W g 26 #[.int .i64 t.f0, .int .i64 t.f1, .slice A t.f2.length c]) (hC : Kd.C k26 W A t.f2.length t.f2) (hc : t.f2.length ≤ c) : Kd.C k26 W (some ⟨g, 0, none⟩) [t].length [t] := by
  refine ⟨rfl, by simp, fun _ => ⟨_, rfl, fun j p hj => ?_⟩⟩
  have hj0 : j = 0 := by
    have := (List.getElem?_eq_some_iff.1 hj).1
    simp at this; omega
  subst hj0
  have hp : t = p := by simpa using hj
  subst hp
  refine ⟨[.int .i64 t.f0, .int .i64 t.f1, .slice A t.f2.length c], rfl, k26_mk W t hc hC, fun i u hu => ?_⟩
  have h1 := h.cell i
  have hadd : (⟨g, 0, none⟩ : Addr).add (0 * k26.sz + i) = ⟨g, i, none⟩ := by unfold Addr.add; split <;> simp_all
  rw [hadd, h1]
  simpa using hu
theorem right1_calls (A : Option Addr) (c : Nat) (t : Tree) (w : World) (hC : Kd.C k26 w A [t].length [t]) : Calls Tryd.prog 64 #[.slice A 1 c] w (RightPost w [t]) := right_calls A c [t] w hC
/-- Check: the error. -/
def checkE (t : Tree) : Int := if rightB t then 0 else 40
set_option maxRecDepth 100000 in
set_option maxHeartbeats 2000000 in
theorem Check_calls (t : Tree) (A : Option Addr) (c : Nat) (w : World) (hC : Kd.C k26 w A t.f2.length t.f2) (hc : t.f2.length ≤ c) :
    Calls Tryd.prog 36 #[.agg #[.int .i64 t.f0, .int .i64 t.f1, .slice A t.f2.length c]] w fun e w' => e = .returned (.int .i64 (checkE t)) ∧ Below w.heap.size w w' := by
  have hall : [t].all rightB = rightB t := by simp
  unfold checkE
  cases hr : rightB t with
  | true =>
    have Hr := Lib.hid (hall.trans hr)
    clear hall hr
    go_enter_defers Tryd.func36, Tryd.ntmps36
    go_wp2_with (first
      | ((with_reducible refine gate_dst (N := 1) rfl ?_); refine box_event rfl (N := 1) rfl (cs := #[.int .i64 t.f0, .int .i64 t.f1, .slice A t.f2.length c]) (t := 26) (by kernel_rfl) ?_; intro g1 hg1 w1 hb1 hbel1; clear hg1)
      | ((with_reducible refine gate_dst (N := 2) rfl ?_); refine box_event rfl (N := 2) rfl (cs := #[.int .i64 0]) (t := 27) (by kernel_rfl) ?_; intro g2 hg2 w2 hb2 hbel2; have hb12 := blk_below hb1 hbel2; have hge2 : w1.heap.size ≤ g2 := Nat.le_of_eq hg2.symm; clear hg2; have hB2 : Below w.heap.size w w2 := below_step hbel1 hbel2)
      | ((with_reducible refine gate_dst (N := 3) rfl ?_); refine wpList_load_row rfl 26 _ rfl g1 rfl 26 _ (0, 0) _ hb12 Tryd.underlying26 rfl (by kernel_rfl) ?_)
      | ((with_reducible refine gate_dst (N := 4) rfl ?_); refine Kd.event_run rfl (v := .slice (some ⟨w2.heap.size, 0, none⟩) 1 1) (w1 := w2.alloc (.cells #[.int .i64 t.f0, .int .i64 t.f1, .slice A t.f2.length c] 26)) (by kernel_rfl) ?_; generalize hw3 : w2.alloc (.cells #[.int .i64 t.f0, .int .i64 t.f1, .slice A t.f2.length c] 26) = w3; have hb3 : Blk w3 w2.heap.size 26 #[.int .i64 t.f0, .int .i64 t.f1, .slice A t.f2.length c] := (by rw [← hw3]; exact blk_new w2 _); have hbel3 : Below w2.heap.size w2 w3 := (by rw [← hw3]; exact below_alloc (Below.refl _ _) _); clear hw3; generalize hg3 : w2.heap.size = g3 at *; have hge3 : w2.heap.size ≤ g3 := Nat.le_of_eq hg3; have hB3 : Below w.heap.size w w3 := hB2.trans ((hbel3.mono hge3).mono hB2.size); have hb23 : Blk w3 g2 27 #[.int .i64 0] := blk_below hb2 (hbel3.mono hge3); clear hg3; have hC3 := C_one hb3 (Kd.C_below hC hB3) hc)
      | (go_at_call 64; (with_reducible refine (right1_calls _ _ t _ hC3).mono ?_); rintro e w4 ⟨he, hbel4⟩; rw [Hr.out] at he; subst he; have hb24 := blk_below hb23 hbel4; have hB4 : Below w.heap.size w w4 := hB3.trans (hbel4.mono hB3.size))
      | ((with_reducible refine gate_store (t := 27) (p := 2) rfl ?_); refine store_cell_event rfl rfl rfl rfl hb24 rfl (by kernel_rfl) rfl rfl ?_; intro w5 hb25 hg5))
    have hs1 := hbel1.size
    refine leaves_cons (f := 62) (args := #[.pointer (some ⟨g2, 0, none⟩), .func (.func 63) #[] #[]]) (by simp) (by simp [go_sem]) ?_
    refine (vcaught_idle g2 w5).mono ?_
    rintro e u' w' ⟨rfl, rfl, rfl⟩
    exact ⟨_, check_results hb25 rfl, rfl, hB4.grown hg5 hB4.size (by rintro k ⟨⟩; omega)⟩
  | false =>
    have Hr := Lib.hid (hall.trans hr)
    clear hall hr
    go_enter_defers Tryd.func36, Tryd.ntmps36
    go_wp2_with (first
      | ((with_reducible refine gate_dst (N := 1) rfl ?_); refine box_event rfl (N := 1) rfl (cs := #[.int .i64 t.f0, .int .i64 t.f1, .slice A t.f2.length c]) (t := 26) (by kernel_rfl) ?_; intro g1 hg1 w1 hb1 hbel1; clear hg1)
      | ((with_reducible refine gate_dst (N := 2) rfl ?_); refine box_event rfl (N := 2) rfl (cs := #[.int .i64 0]) (t := 27) (by kernel_rfl) ?_; intro g2 hg2 w2 hb2 hbel2; have hb12 := blk_below hb1 hbel2; have hge2 : w1.heap.size ≤ g2 := Nat.le_of_eq hg2.symm; clear hg2; have hB2 : Below w.heap.size w w2 := below_step hbel1 hbel2)
      | ((with_reducible refine gate_dst (N := 3) rfl ?_); refine wpList_load_row rfl 26 _ rfl g1 rfl 26 _ (0, 0) _ hb12 Tryd.underlying26 rfl (by kernel_rfl) ?_)
      | ((with_reducible refine gate_dst (N := 4) rfl ?_); refine Kd.event_run rfl (v := .slice (some ⟨w2.heap.size, 0, none⟩) 1 1) (w1 := w2.alloc (.cells #[.int .i64 t.f0, .int .i64 t.f1, .slice A t.f2.length c] 26)) (by kernel_rfl) ?_; generalize hw3 : w2.alloc (.cells #[.int .i64 t.f0, .int .i64 t.f1, .slice A t.f2.length c] 26) = w3; have hb3 : Blk w3 w2.heap.size 26 #[.int .i64 t.f0, .int .i64 t.f1, .slice A t.f2.length c] := (by rw [← hw3]; exact blk_new w2 _); have hbel3 : Below w2.heap.size w2 w3 := (by rw [← hw3]; exact below_alloc (Below.refl _ _) _); clear hw3; generalize hg3 : w2.heap.size = g3 at *; have hge3 : w2.heap.size ≤ g3 := Nat.le_of_eq hg3; have hB3 : Below w.heap.size w w3 := hB2.trans ((hbel3.mono hge3).mono hB2.size); have hb23 : Blk w3 g2 27 #[.int .i64 0] := blk_below hb2 (hbel3.mono hge3); clear hg3; have hC3 := C_one hb3 (Kd.C_below hC hB3) hc)
      | (go_at_call 64; (with_reducible refine (right1_calls _ _ t _ hC3).mono ?_); rintro e w4 ⟨he, hbel4⟩; rw [Hr.out] at he; subst he; have hb24 := blk_below hb23 hbel4; have hB4 : Below w.heap.size w w4 := hB3.trans (hbel4.mono hB3.size)))
    have hs1 := hbel1.size
    refine leaves_cons (f := 62) (args := #[.pointer (some ⟨g2, 0, none⟩), .func (.func 63) #[] #[]]) (by simp) (by simp [go_sem]) ?_
    refine (vcaught_gave g2 40 [] w4 (.int .i64 0) hb24).mono ?_
    rintro e u' w' ⟨rfl, rfl, k0, kg⟩
    exact ⟨_, check_results k0 rfl, rfl, hB4.grown kg hB4.size (by rintro k ⟨⟩; omega)⟩
end Go.Proofs.YtfnekpgbfdhnmaaDoor

namespace Go.Proofs
open Go.Shelf
def Tryd.lays156_ren : Go.Shelf.Ren := ⟨fun | 156 => 81 | 165 => 105 | 166 => 40 | 169 => 41 | 240 => 69 | 241 => 115 | 276 => 83 | 277 => 118 | n => n, fun | 31 => 76 | 9 => 9 | 3 => 3 | 4 => 4 | 0 => 0 | 20 => 20 | 72 => 85 | 76 => 88 | 70 => 82 | 37 => 83 | 75 => 87 | 127 => 131 | 164 => 143 | 5 => 5 | 80 => 69 | n => n, fun | n => n⟩
theorem Tryd.lays156 : Go.Proofs.Lays.n156 Tryd.prog Tryd.lays156_ren := {
  mixed := by kernel_rfl
  f156 := Tryd.func81.trans (congrArg some (by kernel_rfl))
  f165 := Tryd.func105.trans (congrArg some (by kernel_rfl))
  f166 := Tryd.func40.trans (congrArg some (by kernel_rfl))
  f169 := Tryd.func41.trans (congrArg some (by kernel_rfl))
  f240 := Tryd.func69.trans (congrArg some (by kernel_rfl))
  f241 := Tryd.func115.trans (congrArg some (by kernel_rfl))
  f276 := Tryd.func83.trans (congrArg some (by kernel_rfl))
  f277 := Tryd.func118.trans (congrArg some (by kernel_rfl))
  t0 := Tryd.underlying0
  a0 := Tryd.isAgg0
  z0 := Tryd.sizeOf0
  v0 := Tryd.zeroValue0
  t3 := Tryd.underlying3
  a3 := Tryd.isAgg3
  z3 := Tryd.sizeOf3
  v3 := Tryd.zeroValue3
  t4 := Tryd.underlying4
  a4 := Tryd.isAgg4
  z4 := Tryd.sizeOf4
  v4 := Tryd.zeroValue4
  t9 := Tryd.underlying9
  a9 := Tryd.isAgg9
  z9 := Tryd.sizeOf9
  v9 := Tryd.zeroValue9
  t20 := Tryd.underlying20
  a20 := Tryd.isAgg20
  z20 := Tryd.sizeOf20
  v20 := Tryd.zeroValue20
  t31 := Tryd.underlying76
  a31 := Tryd.isAgg76
  z31 := Tryd.sizeOf76
  v31 := Tryd.zeroValue76
  t37 := Tryd.underlying83
  a37 := Tryd.isAgg83
  z37 := Tryd.sizeOf83
  v37 := Tryd.zeroValue83
  t70 := Tryd.underlying82
  a70 := Tryd.isAgg82
  z70 := Tryd.sizeOf82
  v70 := Tryd.zeroValue82
  t72 := Tryd.underlying85
  a72 := Tryd.isAgg85
  z72 := Tryd.sizeOf85
  v72 := Tryd.zeroValue85
  t75 := Tryd.underlying87
  a75 := Tryd.isAgg87
  z75 := Tryd.sizeOf87
  v75 := Tryd.zeroValue87
  t76 := Tryd.underlying88
  a76 := Tryd.isAgg88
  z76 := Tryd.sizeOf88
  v76 := Tryd.zeroValue88
  t127 := Tryd.underlying131
  a127 := Tryd.isAgg131
  z127 := Tryd.sizeOf131
  v127 := Tryd.zeroValue131
  t164 := Tryd.underlying143
  a164 := Tryd.isAgg143
  z164 := Tryd.sizeOf143
  v164 := Tryd.zeroValue143 }
theorem Tryd.Builder_Extra_156 : Builder.Extra Tryd.prog Tryd.lays156_ren := {
  sizeBuilder := by kernel_rfl
  liesBuilder := by kernel_rfl
  t5 := Tryd.underlying5
  a5 := Tryd.isAgg5
  z5 := Tryd.sizeOf5
  v5 := Tryd.zeroValue5
  infoByte := by kernel_rfl
  cellsByte := by kernel_rfl
  sizeByte := by kernel_rfl
  neB5 := by decide }
open Go.RowKit in
/-- No element: the empty string; the world is as it was. (Whatever the slice's address and capacity: a nil slice too.) (LAID: no walk: one application.) -/
theorem Tryd.strings_Join_none (a : Option Addr) (c : Nat) (sep : ByteArray) (w : World) :
    Calls Tryd.prog 81 #[.slice a 0 c, .string sep] w fun e w' => e = .returned (.string ⟨#[]⟩) ∧ w' = w := Any.strings_Join_none Tryd.lays156 Tryd.Builder_Extra_156 a c sep w
open Go.RowKit in
/-- strings.Join: "Join concatenates the elements of its first argument to create a single string. The separator string sep is placed between elements in the resulting string.": HOWEVER MANY ELEMENTS. Below the heap's end the world is as it was. (LAID: no walk: one application.) -/
theorem Tryd.strings_Join (bk o c : Nat) (xs : List ByteArray) (sep : ByteArray) (w : World) (hcells : ∀ (j : Nat) x, xs[j]? = some x → w.cell? ⟨bk, o + j, none⟩ = some (.string x)) (hbk : bk < w.heap.size) (hN : xs.length ≤ 140737488355328) (hcap : xs.length ≤ c) (hlen : (Lib.join (xs.map (·.data.toList)) sep.data.toList).length ≤ 140737488355328) :
    Calls Tryd.prog 81 #[.slice (some ⟨bk, o, none⟩) xs.length c, .string sep] w fun e w' => e = .returned (.string ⟨(Lib.join (xs.map (·.data.toList)) sep.data.toList).toArray⟩) ∧ Below w.heap.size w w' := Any.strings_Join Tryd.lays156 Tryd.Builder_Extra_156 bk o c xs sep w hcells hbk hN hcap hlen
def Tryd.lays137_ren : Go.Shelf.Ren := ⟨fun | 137 => 72 | 217 => 85 | 266 => 107 | n => n, fun | 9 => 9 | 5 => 5 | 3 => 3 | n => n, fun | n => n⟩
theorem Tryd.lays137 : Go.Proofs.Lays.n137 Tryd.prog Tryd.lays137_ren := {
  mixed := by kernel_rfl
  f137 := Tryd.func72.trans (congrArg some (by kernel_rfl))
  f217 := Tryd.func85.trans (congrArg some (by kernel_rfl))
  f266 := Tryd.func107.trans (congrArg some (by kernel_rfl))
  t3 := Tryd.underlying3
  a3 := Tryd.isAgg3
  z3 := Tryd.sizeOf3
  v3 := Tryd.zeroValue3
  t5 := Tryd.underlying5
  a5 := Tryd.isAgg5
  z5 := Tryd.sizeOf5
  v5 := Tryd.zeroValue5
  t9 := Tryd.underlying9
  a9 := Tryd.isAgg9
  z9 := Tryd.sizeOf9
  v9 := Tryd.zeroValue9 }
open Go.RowKit in
/-- strings.IndexByte: "IndexByte returns the index of the first instance of c in s, or -1 if c is not present in s.": IT RETURNS 'Lib.indexByte s c'; the world is as it was. (LAID: no walk: one application.) -/
theorem Tryd.strings_IndexByte (s : ByteArray) (c : Int) (w : World) :
    Calls Tryd.prog 72 #[.string s, .int .u8 c] w fun e w' => e = .returned (.int .i64 (Lib.indexByte s.data.toList c.toNat.toUInt8)) ∧ w' = w := Any.strings_IndexByte Tryd.lays137 s c w
def Tryd.laysM173_ren : Go.Shelf.Ren := ⟨fun | 173 => 65 | 246 => 80 | 283 => 101 | 284 => 102 | 285 => 103 | 286 => 104 | 129 => 111 | 317 => 110 | 318 => 112 | 319 => 113 | 320 => 114 | 337 => 116 | 338 => 117 | n => n, fun | 2 => 2 | 3 => 3 | 9 => 9 | 4 => 4 | 171 => 148 | 0 => 0 | 53 => 105 | 37 => 83 | 5 => 5 | 173 => 151 | 212 => 157 | 51 => 158 | 20 => 20 | 213 => 159 | 46 => 160 | 232 => 164 | 233 => 165 | n => n, fun | 17 => 0 | 18 => 2 | 19 => 3 | n => n⟩
theorem Tryd.laysM173 : Go.Proofs.LaysM.n173 Tryd.prog Tryd.laysM173_ren := {
  mixed := by kernel_rfl
  f129 := Tryd.func111.trans (congrArg some (by kernel_rfl))
  f173 := Tryd.func65.trans (congrArg some (by kernel_rfl))
  f246 := Tryd.func80.trans (congrArg some (by kernel_rfl))
  f283 := Tryd.func101.trans (congrArg some (by kernel_rfl))
  f284 := Tryd.func102.trans (congrArg some (by kernel_rfl))
  f285 := Tryd.func103.trans (congrArg some (by kernel_rfl))
  f286 := Tryd.func104.trans (congrArg some (by kernel_rfl))
  f317 := Tryd.func110.trans (congrArg some (by kernel_rfl))
  f318 := Tryd.func112.trans (congrArg some (by kernel_rfl))
  f319 := Tryd.func113.trans (congrArg some (by kernel_rfl))
  f320 := Tryd.func114.trans (congrArg some (by kernel_rfl))
  f337 := Tryd.func116.trans (congrArg some (by kernel_rfl))
  f338 := Tryd.func117.trans (congrArg some (by kernel_rfl))
  t0 := Tryd.underlying0
  a0 := Tryd.isAgg0
  z0 := Tryd.sizeOf0
  v0 := Tryd.zeroValue0
  t2 := Tryd.underlying2
  a2 := Tryd.isAgg2
  z2 := Tryd.sizeOf2
  v2 := Tryd.zeroValue2
  t3 := Tryd.underlying3
  a3 := Tryd.isAgg3
  z3 := Tryd.sizeOf3
  v3 := Tryd.zeroValue3
  t4 := Tryd.underlying4
  a4 := Tryd.isAgg4
  z4 := Tryd.sizeOf4
  v4 := Tryd.zeroValue4
  t5 := Tryd.underlying5
  a5 := Tryd.isAgg5
  z5 := Tryd.sizeOf5
  v5 := Tryd.zeroValue5
  t9 := Tryd.underlying9
  a9 := Tryd.isAgg9
  z9 := Tryd.sizeOf9
  v9 := Tryd.zeroValue9
  t20 := Tryd.underlying20
  a20 := Tryd.isAgg20
  z20 := Tryd.sizeOf20
  v20 := Tryd.zeroValue20
  t37 := Tryd.underlying83
  a37 := Tryd.isAgg83
  z37 := Tryd.sizeOf83
  v37 := Tryd.zeroValue83
  t46 := Tryd.underlying160
  a46 := Tryd.isAgg160
  z46 := Tryd.sizeOf160
  v46 := Tryd.zeroValue160
  t51 := Tryd.underlying158
  a51 := Tryd.isAgg158
  z51 := Tryd.sizeOf158
  v51 := Tryd.zeroValue158
  t53 := Tryd.underlying105
  a53 := Tryd.isAgg105
  z53 := Tryd.sizeOf105
  v53 := Tryd.zeroValue105
  t171 := Tryd.underlying148
  a171 := Tryd.isAgg148
  z171 := Tryd.sizeOf148
  v171 := Tryd.zeroValue148
  t173 := Tryd.underlying151
  a173 := Tryd.isAgg151
  z173 := Tryd.sizeOf151
  v173 := Tryd.zeroValue151
  t212 := Tryd.underlying157
  a212 := Tryd.isAgg157
  z212 := Tryd.sizeOf157
  v212 := Tryd.zeroValue157
  t213 := Tryd.underlying159
  a213 := Tryd.isAgg159
  z213 := Tryd.sizeOf159
  t232 := Tryd.underlying164
  a232 := Tryd.isAgg164
  z232 := Tryd.sizeOf164
  v232 := Tryd.zeroValue164
  t233 := Tryd.underlying165
  a233 := Tryd.isAgg165
  z233 := Tryd.sizeOf165
  v233 := Tryd.zeroValue165
  g17 := by kernel_rfl
  g18 := by kernel_rfl
  g19 := by kernel_rfl
  i0 := by kernel_rfl
  i2 := by kernel_rfl
  i3 := by kernel_rfl
  i4 := by kernel_rfl
  i5 := by kernel_rfl
  i9 := by kernel_rfl
  i20 := by kernel_rfl
  i37 := by kernel_rfl
  i46 := by kernel_rfl
  i51 := by kernel_rfl
  i53 := by kernel_rfl
  i171 := by kernel_rfl
  i173 := by kernel_rfl
  i212 := by kernel_rfl
  i232 := by kernel_rfl
  i233 := by kernel_rfl
  m17 := by kernel_rfl
  m18 := by kernel_rfl
  m19 := by kernel_rfl }
open Go.RowKit Go.Sort Go.Lib in
/-- strconv.FormatInt: "FormatInt returns the string representation of i in the given base": AT BASE 10: i's decimal numeral, for every int64. (LAID: no walk: one application.) -/
theorem Tryd.strconv_FormatInt_10 (n : Int) (h0 : -9223372036854775808 ≤ n) (h1 : n ≤ 9223372036854775807) (w : World) (htab : Lib.TabIs Tryd.prog w "internal/strconv.uint64pow10" .u64 Lib.pow10Tab) :
    Calls Tryd.prog 65 #[.int .i64 n, .int .i64 10] w fun e w' => e = .returned (.string ⟨(Lib.itoa n).toArray⟩) ∧ ∃ k os, w' = grow (w.drewN k) os := Any.strconv_FormatInt_10 Tryd.laysM173 n h0 h1 w htab
def Tryd.lays102_ren : Go.Shelf.Ren := ⟨fun | 102 => 47 | 209 => 73 | 207 => 86 | n => n, fun | 9 => 9 | 4 => 4 | 3 => 3 | n => n, fun | n => n⟩
theorem Tryd.lays102 : Go.Proofs.Lays.n102 Tryd.prog Tryd.lays102_ren := {
  mixed := by kernel_rfl
  f102 := Tryd.func47.trans (congrArg some (by kernel_rfl))
  f207 := Tryd.func86.trans (congrArg some (by kernel_rfl))
  f209 := Tryd.func73.trans (congrArg some (by kernel_rfl))
  t3 := Tryd.underlying3
  a3 := Tryd.isAgg3
  z3 := Tryd.sizeOf3
  v3 := Tryd.zeroValue3
  t4 := Tryd.underlying4
  a4 := Tryd.isAgg4
  z4 := Tryd.sizeOf4
  v4 := Tryd.zeroValue4
  t9 := Tryd.underlying9
  a9 := Tryd.isAgg9
  z9 := Tryd.sizeOf9
  v9 := Tryd.zeroValue9 }
open Go.RowKit Go.Lib in
/-- strings.TrimSuffix: "TrimSuffix returns s without the provided trailing suffix string. If s doesn't end with suffix, s is returned unchanged.": IT RETURNS 'Lib.trimSuffix s suffix'; the world is as it was. (LAID: no walk: one application.) -/
theorem Tryd.strings_TrimSuffix (s p : ByteArray) (w : World) (hs : s.size ≤ 9223372036854775807) :
    Calls Tryd.prog 47 #[.string s, .string p] w fun e w' => e = .returned (.string ⟨(Lib.trimSuffix s.data.toList p.data.toList).toArray⟩) ∧ w' = w := Any.strings_TrimSuffix Tryd.lays102 s p w hs
end Go.Proofs

namespace Go.Proofs.YtfnekpgbfdhnmaaDoor
open Go.RowKit Go.Proofs.YtfnekpgbfdhnmaaDoorW.PrintWords Go.Proofs.YtfnekpgbfdhnmaaDoorW.PrintLast Go.Proofs.YtfnekpgbfdhnmaaDoorW.PrintMore Go.Proofs.YtfnekpgbfdhnmaaDoor.PAll
/-- Has a Kind a number, beside ValInt. -/
def countedZ (k : Int) : Bool := k == 4 || decide (10 ≤ k)
mutual
def toldF : Tree → List UInt8
  | ⟨k, n, l⟩ => if k = 2 then Lib.itoa n else if k = 1 ∨ k = 8 then bl (wordOf k) else bl (wordOf k) ++ [40] ++ Lib.join ((if countedZ k then [Lib.itoa n] else []) ++ toldL l) [44] ++ [41]
def toldL : List Tree → List (List UInt8)
  | [] => []
  | t :: ts => toldF t :: toldL ts
end
mutual
def treeOk : Tree → Prop
  | ⟨k, n, l⟩ => (0 ≤ k ∧ k ≤ 13) ∧ (-9223372036854775808 ≤ n ∧ n ≤ 9223372036854775807) ∧ l.length ≤ 256 ∧ listOk l
def listOk : List Tree → Prop
  | [] => True
  | t :: ts => treeOk t ∧ listOk ts
end
theorem toldL_map (l : List Tree) : toldL l = l.map toldF := by
  induction l with
  | nil => simp [toldL]
  | cons t ts ih => simp [toldL, ih]
theorem listOk_iff (l : List Tree) : listOk l ↔ ∀ t, t ∈ l → treeOk t := by
  induction l with
  | nil => simp [listOk]
  | cons t ts ih => simp [listOk, ih]
theorem joinTail_len (sep : List UInt8) : ∀ (r : List (List UInt8)) (x : List UInt8), x ∈ r → x.length ≤ (Lib.joinTail sep r).length
  | y :: r, x, h => by
    rcases List.mem_cons.1 h with rfl | h
    · simp [Lib.joinTail]; omega
    · have := joinTail_len sep r x h
      simp [Lib.joinTail] at this ⊢; omega
theorem join_len {xs : List (List UInt8)} {sep x : List UInt8} (h : x ∈ xs) : x.length ≤ (Lib.join xs sep).length := by
  cases xs with
  | nil => cases h
  | cons y r =>
    rw [Lib.join_cons]
    rcases List.mem_cons.1 h with rfl | h
    · simp
    · have := joinTail_len sep r x h
      simp; omega
/-- The table of powers of ten lies in the world. -/
def Tab (w : World) : Prop := Lib.TabIs Tryd.prog w "internal/strconv.uint64pow10" .u64 Lib.pow10Tab ∧ 0 < w.heap.size
theorem Tab.below {w W : World} (h : Tab w) (hb : Below w.heap.size w W) : Tab W := ⟨var?_below hb (by kernel_rfl) h.2 h.1, Nat.lt_of_lt_of_le h.2 hb.size⟩
end Go.Proofs.YtfnekpgbfdhnmaaDoor

namespace Go.Proofs.YtfnekpgbfdhnmaaDoor
open Go.RowKit Go.Proofs.YtfnekpgbfdhnmaaDoorW.PrintWords Go.Proofs.YtfnekpgbfdhnmaaDoorW.PrintLast Go.Proofs.YtfnekpgbfdhnmaaDoorW.PrintMore Go.Proofs.YtfnekpgbfdhnmaaDoor.PAll
def strOf (l : List UInt8) : ByteArray := ⟨l.toArray⟩
theorem bl_strOf (l : List UInt8) : bl (strOf l) = l := by simp [bl, strOf]
/-- What a call of told comes to. -/
def ToldSaid (t : Tree) : Prop := ∀ (A : Option Addr) (c : Nat) (w : World), Tab w → Kd.C k26 w A t.f2.length t.f2 → t.f2.length ≤ c → treeOk t → (toldF t).length ≤ 140737488355328 →
  Calls Tryd.prog 37 #[.agg #[.int .i64 t.f0, .int .i64 t.f1, .slice A t.f2.length c]] w fun e w' => e = .returned (.string (strOf (toldF t))) ∧ Below w.heap.size w w'
theorem info_str : (Tryd.prog.info? 9).map (fun i => (i.zero, i.size, i.bytes)) = some (some (.string ⟨#[]⟩), 1, 16) := by kernel_rfl
theorem join_calls (v : Value) (xs : List ByteArray) (base : Nat) (w : World) (hR : Kd.R Kd.string 9 w base (fun _ => True) v xs) (hN : xs.length ≤ 1000000) (hlen : (Lib.join (xs.map bl) [44]).length ≤ 140737488355328) :
    Calls Tryd.prog 81 #[v, .string ⟨#[44]⟩] w fun e w' => e = .returned (.string (strOf (Lib.join (xs.map bl) [44]))) ∧ Below w.heap.size w w' := by
  rcases Nat.eq_zero_or_pos xs.length with h0 | h0
  · have hx : xs = [] := List.length_eq_zero_iff.1 h0
    subst hx
    obtain ⟨A, c, rfl⟩ := Kd.R_slice hR
    exact (Tryd.strings_Join_none A c ⟨#[44]⟩ w).mono (by rintro e w' ⟨rfl, rfl⟩; exact ⟨rfl, Below.refl _ _⟩)
  · obtain ⟨g, cap, rfl, _, hlt, _⟩ := Kd.R_form hR h0
    have hcap := (Kd.R_reads' hR).2.1
    refine (Tryd.strings_Join g 0 cap xs ⟨#[44]⟩ w (fun j x hj => ?_) hlt (by omega) hcap hlen).mono (fun e w' h => h)
    have hjl := (List.getElem?_eq_some_iff.1 hj).1
    obtain ⟨_, _, hC⟩ := Kd.R_reads' hR
    obtain ⟨ad, he, hcell⟩ := hC.2.2 h0
    injection he with he
    subst he
    obtain ⟨c, hcl, hK, hcc⟩ := hcell j x hj
    obtain rfl : c = [.string x] := hK
    have := hcc 0 _ rfl
    have hadd : (⟨g, 0, none⟩ : Addr).add (j * Kd.string.sz + 0) = ⟨g, 0 + j, none⟩ := by
      have h1 : j * Kd.string.sz + 0 = j := by show j * 1 + 0 = j; omega
      rw [h1]
      unfold Addr.add; split <;> simp_all
    rw [hadd] at this
    exact this
set_option maxRecDepth 100000 in
set_option maxHeartbeats 2000000 in
theorem joined_calls (A : Option Addr) (c : Nat) (l : List Tree) (v : Value) (pre : List ByteArray) (w0 w : World) (hT : Tab w0) (hC : Kd.C k26 w0 A l.length l) (hR : Kd.R Kd.string 9 w w0.heap.size (fun _ => True) v pre) (hB0 : Below w0.heap.size w0 w)
    (hok : ∀ t, t ∈ l → treeOk t) (hih : ∀ t, t ∈ l → ToldSaid t) (hN : pre.length + l.length ≤ 1000000) (hlen : (Lib.join (pre.map bl ++ l.map toldF) [44]).length ≤ 140737488355328) :
    Calls Tryd.prog 66 #[.func (.func 37) #[] #[], .slice A l.length c, v] w fun e w' => e = .returned (.string (strOf (Lib.join (pre.map bl ++ l.map toldF) [44]))) ∧ Below w0.heap.size w0 w' ∧ Chg (fun k => v.ownBlock = some k) w w' := by
  have hmax := Kd.C_max hC
  have Hok := Lib.hid hok
  have Hih := Lib.hid hih
  have Hlen := Lib.hid hlen
  clear hok hih hlen
  obtain ⟨A0, c0, rfl⟩ := Kd.R_slice hR
  go_enter Tryd.func66, Tryd.ntmps66
  go_wp2
  go_loopw [2, 11] (fun s t wr => ∃ (i : Nat) (got : List ByteArray), t = .int .i64 i ∧ i ≤ l.length ∧ Kd.R Kd.string 9 wr w0.heap.size (fun _ => True) s got ∧ got.map bl = pre.map bl ++ (l.take i).map toldF ∧ Below w0.heap.size w0 wr ∧ (∀ k, s.ownBlock = some k → (Value.slice A0 pre.length c0).ownBlock = some k ∨ w.heap.size ≤ k) ∧ Chg (fun k => (Value.slice A0 pre.length c0).ownBlock = some k) w wr) (fun _ t _ => l.length - (intOf t).toNat)
  case atStart => exact ⟨0, pre, rfl, by omega, hR, by simp, hB0, fun k hk => .inl hk, Chg.refl _ _⟩
  case round =>
    obtain ⟨i, got, rfl, hi, hRr, hgot, hB, hown, hchg⟩ := hrel
    have Hown := Lib.hid hown
    clear hown
    have Hgot := Lib.hid hgot
    have hgl : got.length ≤ pre.length + i := by have := congrArg List.length hgot; simp at this; omega
    clear hgot
    have HC := Lib.hid hC
    obtain ⟨Ar, cr, rfl⟩ := Kd.R_slice hRr
    have hws : w0.heap.size ≤ wr.heap.size := hB.size
    by_cases hlt : i < l.length
    · have hCr := Kd.C_below HC.out hB
      obtain ⟨ad, A2, cx, rfl, h0, h1, h2, hlx, hCx⟩ := at_T26 hCr i (by omega) (by omega)
      rw [show ((i : Nat) : Int).toNat * 3 = i * 3 from by simp] at h0 h1 h2
      have hxi := rd_at hlt
      clear hCr hC
      generalize hx : rd_T26 l i = x at *
      have hmem : x ∈ l := List.mem_of_getElem? hxi
      have hlenx : (toldF x).length ≤ 140737488355328 := Nat.le_trans (join_len (xs := pre.map bl ++ l.map toldF) (List.mem_append_right _ (List.mem_map_of_mem hmem))) Hlen.out
      have htold := fun W (hW : Below wr.heap.size wr W) => Hih.out x hmem A2 cx W ((hT.below hB).below hW) (Kd.C_below hCx hW) hlx (Hok.out x hmem) hlenx
      have hnext : (got ++ [strOf (toldF x)]).map bl = pre.map bl ++ (l.take (i + 1)).map toldF := by
        rw [List.map_append, Hgot.out, List.take_add_one, hxi]
        simp [bl_strOf]
      have Hnext := Lib.hid hnext
      have Htold := Lib.hid htold
      clear hx hxi htold hnext hmem hlenx
      obtain ⟨f0, f1, f2⟩ := x
      dsimp only at h0 h1 h2 hlx hCx
      generalize hSL : strOf (toldF ⟨f0, f1, f2⟩) = S at *
      clear hSL
      have hgb : (got.length + 1) * 16 ≤ 140737488355328 := by omega
      go_wp2_with (first
        | ((with_reducible refine gate_dst (N := 8) rfl ?_); refine box_event rfl (N := 8) rfl (cs := #[.int .i64 0, .int .i64 0, .slice none 0 0]) (t := 26) (by kernel_rfl) ?_; intro g8 hg8 w1 hb1 hbel1; have hge8 : wr.heap.size ≤ g8 := Nat.le_of_eq hg8.symm; clear hg8)
        | ((with_reducible refine gate_store (t := 26) (p := 8) rfl ?_); refine store_row_event rfl rfl rfl rfl hb1 (by kernel_rfl) rfl (by kernel_rfl) ?_; intro w2 hb2 hg2; have hB2 : Below wr.heap.size wr w2 := hbel1.grown hg2 hbel1.size (by rintro k ⟨⟩; exact hge8))
        | ((with_reducible refine gate_dst (N := 17) rfl ?_); refine wpList_load_row rfl 26 _ rfl g8 rfl 26 _ (0, 0) _ hb2 Tryd.underlying26 rfl (by kernel_rfl) ?_)
        | (go_at_call 37; (with_reducible refine (Htold.out _ hB2).mono ?_); rintro e w3 ⟨rfl, hbel3⟩; have hB3 : Below wr.heap.size wr w3 := hB2.trans (hbel3.mono hB2.size); have hR3 := Kd.R_below hRr hB3; have hb03 : Below w0.heap.size w0 w3 := hB.trans (hB3.mono hB.size); have hs3 := hB3.size)
        | ((with_reducible refine gate_dst (N := 20) rfl ?_); refine Kd.R_append Kd.string (w0 := w0) (W := w3) w0.heap.size rfl (.tmp 15) (.tmp 19) 76 9 (.string ⟨#[]⟩) 16 rfl Tryd.underlying76 info_str rfl (by show 0 < 1; omega) (by omega) (.slice Ar got.length cr) got S [.string S] (fun _ => True) (fun _ => False) rfl rfl rfl (fun _ h => h.elim) (fun _ _ => trivial) hR3 hb03 (by omega) hgb ?_; intro v4 w4 hR4 hB4 hg4 hat4))
      go_roundw
      case rel =>
        have hc3 : Chg (fun k => (Value.slice A0 pre.length c0).ownBlock = some k) w w3 := hchg.trans (Chg.of_below hB3 _)
        have hws3 := hc3.size
        refine ⟨i + 1, got ++ [S], by go_num, by omega, hR4, Hnext.out, hB4, fun k hk => ?_, hc3.andThen (Chg.of_grown (S := fun k => (Value.slice Ar got.length cr).ownBlock = some k) hg4 (fun k hk => hk)) Hown.out⟩
        rcases hat4 with h | ⟨b, h, hb⟩
        · exact Hown.out k (by rw [← h]; exact hk)
        · rw [h] at hk; injection hk with hk; exact .inr (by omega)
      case measure => simp [intOf]; omega
    · have hle : l.take i = l := List.take_of_length_le (by omega)
      have hfin : got.map bl = pre.map bl ++ l.map toldF := by have := Hgot.out; rw [hle] at this; exact this
      have hj := join_calls (.slice Ar got.length cr) got w0.heap.size wr hRr (by omega) (by rw [hfin]; exact Hlen.out)
      rw [hfin] at hj
      have Hj := Lib.hid hj
      clear hj hfin hle
      go_wp2_with (go_at_call 81; (with_reducible refine (Hj.out).mono ?_); rintro e w2 ⟨rfl, hb2⟩)
      go_ret
      exact ⟨rfl, hB.trans (hb2.mono hws), hchg.trans (Chg.of_below hb2 _)⟩
end Go.Proofs.YtfnekpgbfdhnmaaDoor

namespace Go.Proofs.YtfnekpgbfdhnmaaDoor
open Go.RowKit Go.Proofs.YtfnekpgbfdhnmaaDoorW.PrintWords Go.Proofs.YtfnekpgbfdhnmaaDoorW.PrintLast Go.Proofs.YtfnekpgbfdhnmaaDoorW.PrintMore Go.Proofs.YtfnekpgbfdhnmaaDoor.PAll
attribute [local go_sem] Oper.semAt_some
/-- The lines of a text, each with its end. -/
def linesOf : List UInt8 → List (List UInt8)
  | [] => []
  | b :: r => if b = 10 then [10] :: linesOf r else match linesOf r with
    | [] => [[b]]
    | x :: xs => (b :: x) :: xs
theorem linesOf_cut : ∀ {l : List UInt8} {n : Nat}, Lib.indexByte l 10 = n → linesOf l = l.take (n + 1) :: linesOf (l.drop (n + 1))
  | [], n, h => by simp [Lib.indexByte] at h
  | b :: r, n, h => by
    rw [Lib.indexByte] at h
    split at h
    · rename_i hb
      have : b = 10 := by simpa using hb
      subst this
      have : n = 0 := by omega
      subst this
      simp [linesOf]
    · rename_i hb
      have hb' : b ≠ 10 := by simpa using hb
      split at h
      · omega
      · have h0 := Lib.indexByte_ge r 10
        rename_i hn
        have hn' : Lib.indexByte r 10 ≠ -1 := by simpa using hn
        obtain ⟨m, rfl⟩ : ∃ m, n = m + 1 := ⟨n - 1, by omega⟩
        have := linesOf_cut (l := r) (n := m) (by omega)
        rw [linesOf, if_neg hb', this]
        simp
theorem linesOf_rest : ∀ {l : List UInt8}, Lib.indexByte l 10 = -1 → l ≠ [] → linesOf l = [l]
  | [], _, h => absurd rfl h
  | b :: r, h, _ => by
    rw [Lib.indexByte] at h
    split at h
    · omega
    · rename_i hb
      have hb' : b ≠ 10 := by simpa using hb
      split at h
      · rename_i hn
        have hn' : Lib.indexByte r 10 = -1 := by simpa using hn
        rw [linesOf, if_neg hb']
        cases r with
        | nil => rfl
        | cons c q => rw [linesOf_rest hn' (by simp)]
      · have h0 := Lib.indexByte_ge r 10; omega
def strSize : Option Value → Nat
  | some (.string s) => s.size
  | _ => 0
theorem chg_setCell (W : World) (g i : Nat) (v : Value) : Chg (fun k => k = g) W (W.setCell ⟨g, i, none⟩ v) := by
  have hB := (Below.refl 0 W).setCell (p := ⟨g, i, none⟩) (Nat.zero_le _) v
  refine ⟨hB.os, hB.tape, hB.output, by simp, fun k _ hn => ?_⟩
  exact Below.heap_setCell W ⟨g, i, none⟩ v k hn
theorem run_addI {o : Oper} {a : Act} {W : World} {T : TypeId} {x y : Operand} {n m k : Int} (ho : o.op = .binOp .add T x y T) (hT : Tryd.prog.underlying T = some (.int .i64)) (hx : a.eval x = .int .i64 n) (hy : a.eval y = .int .i64 m) (hk : n + m = k) (h0 : -9223372036854775808 ≤ k) (h1 : k ≤ 9223372036854775807) : (execOp a.eval o).run Tryd.prog W = .ok (.value (.int .i64 k)) W := by
  generalize a.eval = ρ at *
  unfold execOp
  subst hk
  simp [ho, hx, hy, binOp, run_underlying hT, go_sem]
  exact IntWalk.i64_in _ (by omega)
theorem strOf_take (r : List UInt8) (n : Nat) : (strOf r).extract 0 n = strOf (r.take n) := by
  apply ByteArray.ext; simp [strOf]
theorem strOf_drop (r : List UInt8) (n : Nat) (h : (strOf r).size = r.length) : (strOf r).extract n (strOf r).size = strOf (r.drop n) := by
  rw [h]; apply ByteArray.ext; simp [strOf, List.take_of_length_le]
theorem run_sliceTo {o : Oper} {a : Act} {W : World} {x y : Operand} {r : List UInt8} {n : Nat} (ho : o.op = .slice 9 x none (some y) none) (hx : a.eval x = .string (strOf r)) (hy : a.eval y = .int .i64 ((n : Int) + 1)) (hn : n < r.length) : (execOp a.eval o).run Tryd.prog W = .ok (.value (.string (strOf (r.take (n + 1))))) W := by
  have hsr : (strOf r).size = r.length := by simp [strOf, ByteArray.size]
  have h := run_slice_string_h (P := Tryd.prog) (w := W) (t := 9) (s := strOf r) Tryd.underlying9 .i64 ((n : Int) + 1) (by omega) (by omega)
  rw [show ((n : Int) + 1).toNat = n + 1 from by omega, strOf_take] at h
  generalize a.eval = ρ at *
  unfold execOp
  simp [ho, hx, hy, Sem.run_bind, Instr.sliceAt, h]
theorem run_sliceFrom {o : Oper} {a : Act} {W : World} {x y : Operand} {r : List UInt8} {n : Nat} (ho : o.op = .slice 9 x (some y) none none) (hx : a.eval x = .string (strOf r)) (hy : a.eval y = .int .i64 ((n : Int) + 1)) (hn : n < r.length) : (execOp a.eval o).run Tryd.prog W = .ok (.value (.string (strOf (r.drop (n + 1))))) W := by
  have hsr : (strOf r).size = r.length := by simp [strOf, ByteArray.size]
  have h := run_slice_string_l (P := Tryd.prog) (w := W) (t := 9) (s := strOf r) Tryd.underlying9 .i64 ((n : Int) + 1) (by omega) (by omega)
  rw [show ((n : Int) + 1).toNat = n + 1 from by omega, strOf_drop r _ hsr] at h
  generalize a.eval = ρ at *
  unfold execOp
  simp [ho, hx, hy, Sem.run_bind, Instr.sliceAt, h]
set_option maxRecDepth 100000 in
set_option maxHeartbeats 2000000 in
theorem lines_said (sb : Nat) (K : Nat → Prop) (s : List UInt8) (hs : s.length ≤ 9223372036854775807) :
    IterSaid Tryd.prog 71 #[.pointer (some ⟨sb, 0, none⟩)] (fun x => #[.string (strOf x)]) (linesOf s) (fun k => k = sb) K 0 (fun W => Blk W sb 9 #[.string (strOf s)]) := by
  intro l J Jx W hW hJ hJx hY h0
  refine callsIn_of_wp Tryd.func71 rfl trivial ?_ rfl
  simp only [Tryd.ntmps71, List.size_toArray, List.length_cons, List.length_nil, Nat.reduceAdd, Nat.reduceSub, Array.replicate_succ, Array.replicate_zero, List.push_toArray, List.append_toArray, List.nil_append, List.cons_append]
  gi_wp2
  gi_loopw [4] (fun _ wr => ∃ (pre : List (List UInt8)) (r : List UInt8), linesOf s = pre ++ linesOf r ∧ r.length ≤ s.length ∧ J pre wr ∧ Blk wr sb 9 #[.string (strOf r)] ∧ W.heap.size ≤ wr.heap.size)
    (fun _ wr => strSize (wr.cell? ⟨sb, 0, none⟩))
  case atStart => exact ⟨[], s, rfl, Nat.le_refl _, h0, hW, Nat.le_refl _⟩
  case round =>
    obtain ⟨pre, r, hgo, hr, hJp, hb, hsz⟩ := hrel
    have hcb : wr.cell? ⟨sb, 0, none⟩ = some (.string (strOf r)) := hb.cell 0
    have hsr : (strOf r).size = r.length := by simp [strOf, ByteArray.size]
    have hfz := hb.frozen 0
    have Hgo := Lib.hid hgo
    clear hgo
    by_cases hnil : r = []
    · subst hnil
      have hJe : J (linesOf s) wr := by rw [Hgo.out, linesOf, List.append_nil]; exact hJp
      have hz : ¬ (0 : Int) < ((strOf []).size : Nat) := by rw [hsr]; simp
      gi_wp2
      go_end0
      exact ⟨⟨_, rfl⟩, .inl hJe⟩
    · have hz : (0 : Int) < ((strOf r).size : Nat) := by rw [hsr]; have := List.length_pos_iff.2 hnil; omega
      have hidx : ∀ W1 : World, CallsIn Fence.wide 0 Tryd.prog 72 #[.string (strOf r), .int .u8 10] W1 fun e w' => e = .returned (.int .i64 (Lib.indexByte r 10)) ∧ w' = W1 := fun W1 => callsIn_wide.2 (Tryd.strings_IndexByte (strOf r) 10 W1)
      by_cases hneg : Lib.indexByte r 10 = -1
      · rw [hneg] at hidx
        have hlr := linesOf_rest hneg hnil
        have hpre : (pre ++ [r]) <+: linesOf s := by rw [Hgo.out, hlr]; exact List.prefix_refl _
        have hB1 : Blk (wr.setCell ⟨sb, 0, none⟩ (.string ⟨#[]⟩)) sb 9 #[.string ⟨#[]⟩] := blk_put hb 0 _ rfl
        have hC1 := chg_setCell wr sb 0 (.string ⟨#[]⟩)
        have hJ1 := hJ _ _ _ hJp hsz (hC1.mono fun k hk => .inl hk)
        obtain ⟨fn, tmps, assign, body, hy, hR⟩ := hY pre r _ hJ1 hpre (by have := hC1.size; omega)
        gi_wp2
        refine ⟨trivial, rfl, (hidx _).mono ?_⟩
        rintro e w2 ⟨rfl, rfl⟩
        gi_wp2
        refine ⟨rfl, hR.mono ?_⟩
        rintro e W3 ⟨hc, (⟨rfl, hJ3⟩ | ⟨rfl, hJx3⟩)⟩
        · have hb3 : Blk W3 sb 9 #[.string ⟨#[]⟩] := hc.blk hB1 (fun h => h (.inr (.inl rfl)))
          have hs3 := hc.size
          have hs1 := hC1.size
          gi_wp2
          go_roundw
          case rel => exact ⟨pre ++ [r], [], by rw [Hgo.out, hlr]; simp [linesOf], by simp, hJ3, hb3, by omega⟩
          case measure => rw [hb3.cell 0, hcb]; show (0 : Nat) < (strOf r).size; omega
        · gi_wp2
          refine bodyPost_ret (results_none rfl _ _ _) rfl ?_
          exact ⟨⟨_, rfl⟩, .inr ⟨pre, r, hpre, hJx3⟩⟩
      · obtain ⟨n, hn⟩ : ∃ n : Nat, Lib.indexByte r 10 = n := ⟨(Lib.indexByte r 10).toNat, by have := Lib.indexByte_ge r 10; omega⟩
        have hnl : n < r.length := by have := (Lib.indexByte_some hn).1; exact (List.getElem?_eq_some_iff.1 this).1
        rw [hn] at hidx
        have hlr := linesOf_cut hn
        have hpre : (pre ++ [r.take (n + 1)]) <+: linesOf s := by rw [Hgo.out, hlr]; simp
        have hB1 : ∀ W1, Blk W1 sb 9 #[.string (strOf r)] → Blk (W1.setCell ⟨sb, 0, none⟩ (.string (strOf (r.drop (n + 1))))) sb 9 #[.string (strOf (r.drop (n + 1)))] := fun W1 h => blk_put h 0 _ rfl
        gi_wp2
        refine ⟨trivial, rfl, (hidx _).mono ?_⟩
        rintro e w2 ⟨rfl, rfl⟩
        have hn0 : (0 : Int) ≤ (n : Int) := by omega
        gi_wp2
        refine wpIn_wide.2 ?_
        refine draw_begin (fun W' => Blk W' sb 9 #[.string (strOf r)]) (fun i => i == 9) (by kernel_rfl) (n := 10) rfl rfl ?_
        intro W1 _hWh hWg
        clear _hWh
        have HS0 : Blk W1 sb 9 #[.string (strOf r)] := blk_grown hb hWg (by simp)
        refine draw_take (i := 0) (l2 := #[true, false, false, false, false, false, false, false, false, false]) (v := .string (strOf r)) rfl (by kernel_rfl) (by kernel_rfl) (by kernel_rfl) (by kernel_rfl) (by kernel_rfl) (fun _ _ _ h => h) (.inl ⟨by kernel_rfl, fun W' hS => ?_⟩) HS0 ?_
        · exact run_load_cell rfl (by kernel_rfl) hS (i := 0) rfl Tryd.underlying9 rfl
        refine draw_take (i := 1) (l2 := #[true, true, false, false, false, false, false, false, false, false]) (v := .int .i64 n) rfl (by kernel_rfl) (by kernel_rfl) (by kernel_rfl) (by kernel_rfl) (by kernel_rfl) (fun _ _ _ h => h) (.inl ⟨by kernel_rfl, fun W' hS => ?_⟩) HS0 ?_
        · kernel_rfl
        refine draw_take (i := 2) (l2 := #[true, true, true, false, false, false, false, false, false, false]) (v := .int .i64 ((n : Int) + 1)) rfl (by kernel_rfl) (by kernel_rfl) (by kernel_rfl) (by kernel_rfl) (by kernel_rfl) (fun _ _ _ h => h) (.inl ⟨by kernel_rfl, fun W' hS => ?_⟩) HS0 ?_
        · exact run_addI (n := n) (m := 1) rfl Tryd.underlying3 (by kernel_rfl) (by kernel_rfl) rfl (by omega) (by omega)
        refine draw_take (i := 3) (l2 := #[true, true, true, true, false, false, false, false, false, false]) (v := .string (strOf (r.take (n + 1)))) rfl (by kernel_rfl) (by kernel_rfl) (by kernel_rfl) (by kernel_rfl) (by kernel_rfl) (fun _ _ _ h => h) (.inl ⟨by kernel_rfl, fun W' hS => ?_⟩) HS0 ?_
        · exact run_sliceTo rfl (by kernel_rfl) (by kernel_rfl) hnl
        refine draw_take (i := 4) (l2 := #[true, true, true, true, true, false, false, false, false, false]) (v := .string (strOf r)) rfl (by kernel_rfl) (by kernel_rfl) (by kernel_rfl) (by kernel_rfl) (by kernel_rfl) (fun _ _ _ h => h) (.inl ⟨by kernel_rfl, fun W' hS => ?_⟩) HS0 ?_
        · exact run_load_cell rfl (by kernel_rfl) hS (i := 0) rfl Tryd.underlying9 rfl
        refine draw_take (i := 5) (l2 := #[true, true, true, true, true, true, false, false, false, false]) (v := .int .i64 n) rfl (by kernel_rfl) (by kernel_rfl) (by kernel_rfl) (by kernel_rfl) (by kernel_rfl) (fun _ _ _ h => h) (.inl ⟨by kernel_rfl, fun W' hS => ?_⟩) HS0 ?_
        · kernel_rfl
        refine draw_take (i := 6) (l2 := #[true, true, true, true, true, true, true, false, false, false]) (v := .int .i64 ((n : Int) + 1)) rfl (by kernel_rfl) (by kernel_rfl) (by kernel_rfl) (by kernel_rfl) (by kernel_rfl) (fun _ _ _ h => h) (.inl ⟨by kernel_rfl, fun W' hS => ?_⟩) HS0 ?_
        · exact run_addI (n := n) (m := 1) rfl Tryd.underlying3 (by kernel_rfl) (by kernel_rfl) rfl (by omega) (by omega)
        refine draw_take (i := 7) (l2 := #[true, true, true, true, true, true, true, true, false, false]) (v := .string (strOf (r.drop (n + 1)))) rfl (by kernel_rfl) (by kernel_rfl) (by kernel_rfl) (by kernel_rfl) (by kernel_rfl) (fun _ _ _ h => h) (.inl ⟨by kernel_rfl, fun W' hS => ?_⟩) HS0 ?_
        · exact run_sliceFrom rfl (by kernel_rfl) (by kernel_rfl) hnl
        refine draw_one (i := 8) (l2 := #[true, true, true, true, true, true, true, true, true, false]) (by kernel_rfl) (by kernel_rfl) (op_value (v := .string (strOf (r.take (n + 1)))) (w1 := W1) rfl (by kernel_rfl) (by kernel_rfl) ⟨fun _ => HS0, ?_⟩)
        refine draw_one (i := 9) (l2 := #[true, true, true, true, true, true, true, true, true, true]) (by kernel_rfl) (by kernel_rfl) (op_skip rfl (by kernel_rfl) (run_store_cell (v := .string (strOf (r.drop (n + 1)))) rfl ?hx HS0 (i := 0) rfl (by kernel_rfl) rfl) ⟨fun h => by simp at h, ?_⟩)
        case hx => kernel_rfl
        refine draw_done (by kernel_rfl) ?_
        have hCg : Chg (fun k => k = sb) w2 W1 := Chg.of_grown hWg (by simp)
        have hC1 := hCg.trans (chg_setCell W1 sb 0 (.string (strOf (r.drop (n + 1)))))
        have hB2 := hB1 W1 HS0
        obtain ⟨W2, hW2⟩ : ∃ W2, W1.setCell ⟨sb, 0, none⟩ (.string (strOf (r.drop (n + 1)))) = W2 := ⟨_, rfl⟩
        rw [hW2] at hC1 hB2 ⊢
        clear hW2 HS0 hWg hCg
        have hs1 := hC1.size
        have hJ1 := hJ _ _ _ hJp hsz (hC1.mono fun k hk => .inl hk)
        obtain ⟨fn, tmps, assign, body, hy, hR⟩ := hY pre (r.take (n + 1)) _ hJ1 hpre (by omega)
        simp only [Act.put]
        simp only [List.setIfInBounds_toArray, List.set_cons_succ, List.set_cons_zero]
        gi_wp2
        refine ⟨rfl, hR.mono ?_⟩
        rintro e W3 ⟨hc, (⟨rfl, hJ3⟩ | ⟨rfl, hJx3⟩)⟩
        · have hb3 : Blk W3 sb 9 #[.string (strOf (r.drop (n + 1)))] := hc.blk hB2 (fun h => h (.inr (.inl rfl)))
          have hs3 := hc.size
          gi_wp2
          go_roundw
          case rel => exact ⟨pre ++ [r.take (n + 1)], r.drop (n + 1), by rw [Hgo.out, hlr]; simp, by rw [List.length_drop]; omega, hJ3, hb3, by omega⟩
          case measure => rw [hb3.cell 0, hcb]; show (strOf (r.drop (n + 1))).size < (strOf r).size; simp [strOf, ByteArray.size]; omega
        · gi_wp2
          refine bodyPost_ret (results_none rfl _ _ _) rfl ?_
          exact ⟨⟨_, rfl⟩, .inr ⟨pre, _, hpre, hJx3⟩⟩
end Go.Proofs.YtfnekpgbfdhnmaaDoor

namespace Go.Proofs.YtfnekpgbfdhnmaaDoor
open Go.RowKit Go.Proofs.YtfnekpgbfdhnmaaDoorW.PrintWords Go.Proofs.YtfnekpgbfdhnmaaDoorW.PrintLast Go.Proofs.YtfnekpgbfdhnmaaDoorW.PrintMore Go.Proofs.YtfnekpgbfdhnmaaDoor.PAll
def ValSaid (fuel : Nat) : Prop := ∀ (m : Nat) (r : Nat) (s : ByteArray) (n p : Nat) (w : World), m ≤ 2 → RD w r s n p → n ≤ s.size → s.size ≤ maxLen → p ≤ 256 → 257 ≤ fuel + p →
  Calls Tryd.prog 26 #[.pointer (some ⟨r, 0, none⟩), mayV m] w (ValPost w r s (valueF fuel (bl s) m n p))
/-- By cases. -/
def _root_.Except.elim_ {α β γ : Type} (x : Except α β) (f : α → γ) (g : β → γ) : γ := match x with | .error e => f e | .ok a => g a
/-- A value of three cells, none of them set. -/
abbrev val0 : Array Value := #[.int .i64 0, .int .i64 0, .slice none 0 0]
set_option maxHeartbeats 1000000 in
theorem int_calls (a : Int) (w : World) :
    Calls Tryd.prog 48 #[.int .i64 a] w fun e w' => e = .returned (.agg #[.int .i64 2, .int .i64 a, .slice none 0 0]) ∧ Below w.heap.size w w' := by
  go_enter Tryd.func48, Tryd.ntmps48
  go_wp2_with (first
    | ((with_reducible refine gate_dst (N := 2) rfl ?_); refine box_event rfl (N := 2) rfl (cs := val0) (t := 26) (by kernel_rfl) ?_; intro g hg w1 hb hbel; have hge : w.heap.size ≤ g := Nat.le_of_eq hg.symm; clear hg)
    | ((with_reducible refine gate_store rfl ?_); refine store_row_event rfl rfl rfl rfl hb (by kernel_rfl) rfl (by kernel_rfl) ?_; intro w2 hb2 hg2; clear hb))
  go_outline
  refine bodyPost_ret (results_cell_row rfl _ _ g 26 #[.int .i64 2, .int .i64 a, .slice none 0 0] (0, 0) _ rfl hb2 Tryd.underlying26 rfl (by kernel_rfl)) rfl ⟨rfl, hbel.grown hg2 hbel.size (by rintro k ⟨⟩; exact hge)⟩
set_option maxRecDepth 100000 in
set_option maxHeartbeats 2000000 in
theorem val_end (fuel : Nat) (m r : Nat) (s : ByteArray) (n p : Nat) (w : World) (hR : RD w r s n p) (hn : n ≤ s.size) (_hs : s.size ≤ maxLen) (hp : p ≤ 256)
    (h : (bl s).length ≤ n ∨ 256 ≤ p) : Calls Tryd.prog 26 #[.pointer (some ⟨r, 0, none⟩), mayV m] w (ValPost w r s (valueF (fuel + 1) (bl s) m n p)) := by
  have hq : ∀ W, RD W r s n p → w.grownBy W (some r) → ValPost w r s (valueF (fuel + 1) (bl s) m n p) (.panicked (wrongAt n)) W := fun W h1 h2 => by
    rw [valueF, if_pos h]; exact ⟨rfl, ⟨_, h1⟩, h2⟩
  rw [bl_length] at h
  unfold mayV
  generalize mayF m = fm
  by_cases h1 : s.size ≤ n
  · obtain rfl : n = s.size := by omega
    clear h h1
    have hb : (bl (s.extract s.size s.size)) = [] := by rw [bl_extract, List.drop_of_length_le]; rw [bl_length]; exact Nat.le_refl _
    have hb2 : (s.extract s.size s.size).toList.isEmpty = true := by rw [ByteArray.toList_eq]; simp
    clear hb
    go_enter Tryd.func26, Tryd.ntmps26
    go_wp2_with (first
      | ((with_reducible refine gate_dst (N := 4) rfl ?_); refine box_event rfl (N := 4) rfl (cs := val0) (t := 26) (by kernel_rfl) ?_; intro g hg w1 hb hbel; clear hg; have hR1 : RD w1 r s _ _ := blk_below hR hbel; have hc1 : w1.cell? ⟨r, 2, none⟩ = some (.int .i64 _) := hR1.cell 2)
      | (go_at_call 29; refine (here_calls hR1 hn).mono ?_; rintro e w' ⟨rfl, q, rfl⟩)
      | (go_at_call 28; refine (must_bad (hR1.dr _)).mono ?_; rintro e w' ⟨rfl, rfl⟩))
    exact ⟨rfl, hq _ (hR1.dr _) (grownBy_drewN (only_of_below hbel _) _)⟩
  · obtain rfl : p = 256 := by omega
    have hb2 : (s.extract n s.size).toList.isEmpty = false := here_some hR.lt (by omega)
    clear h
    go_enter Tryd.func26, Tryd.ntmps26
    go_wp2_with (first
      | ((with_reducible refine gate_dst (N := 4) rfl ?_); refine box_event rfl (N := 4) rfl (cs := val0) (t := 26) (by kernel_rfl) ?_; intro g hg w1 hb hbel; clear hg; have hR1 : RD w1 r s _ _ := blk_below hR hbel; have hc1 : w1.cell? ⟨r, 2, none⟩ = some (.int .i64 _) := hR1.cell 2)
      | (go_at_call 29; refine (here_calls hR1 hn).mono ?_; rintro e w' ⟨rfl, q, rfl⟩)
      | (go_at_call 28; refine (must_bad (hR1.dr _)).mono ?_; rintro e w' ⟨rfl, rfl⟩))
    exact ⟨rfl, hq _ (hR1.dr _) (grownBy_drewN (only_of_below hbel _) _)⟩
set_option maxRecDepth 100000 in
set_option maxHeartbeats 2000000 in
theorem val_digit (fuel : Nat) (r : Nat) (s : ByteArray) (n p : Nat) (w : World) (hR : RD w r s n p) (hn : n < s.size) (hs : s.size ≤ maxLen) (hp : p < 256) (c : UInt8) (hc : (bl s)[n]? = some c)
    (hd : 48 ≤ c.toNat ∧ c.toNat ≤ 57) : Calls Tryd.prog 26 #[.pointer (some ⟨r, 0, none⟩), mayV 0] w (ValPost w r s (valueF (fuel + 1) (bl s) 0 n p)) := by
  have hv : valueF (fuel + 1) (bl s) 0 n p = (numF 9223372036854775807 (bl s) n).elim_ (fun e => .error e) (fun x => .ok (⟨2, x.1, []⟩, x.2, p + 1)) := by
    rw [valueF, if_neg (by rw [bl_length]; omega), if_pos (by rw [List.getD_eq_getElem?_getD, hc]; exact ⟨rfl, hd⟩)]
    cases numF 9223372036854775807 (bl s) n <;> rfl
  have hb2 : (s.extract n s.size).toList.isEmpty = false := here_some hR.lt hn
  have hix := fun W => index_str0 (P := Tryd.prog) (T := 9) Tryd.underlying9 (s := s.extract n s.size) (c := c) (by rw [bl_extract_at]; exact hc) W
  obtain ⟨C, hC⟩ : ∃ C : Nat, c.toNat = C := ⟨_, rfl⟩
  rw [hC] at hix hd
  obtain ⟨hd1, hd2⟩ := hd
  have hm0 : mayV 0 = .func (.func 27) #[] #[] := rfl
  rw [hm0]
  clear hm0 hC hc
  have hs' := hs
  unfold maxLen at hs'
  have hpb : decide ((p : Int) < 256) = true := by simp; omega
  cases hN : numF 9223372036854775807 (bl s) n with
  | error e =>
    rw [hN] at hv
    have hq : ∀ W, RD W r s e (p + 1 : Nat) → w.grownBy W (some r) → ValPost w r s (valueF (fuel + 1) (bl s) 0 n p) (.panicked (wrongAt e)) W := fun W h1 h2 => by
      rw [hv]; exact ⟨rfl, ⟨_, h1⟩, h2⟩
    clear hv
    have HN := Lib.hid hN
    clear hN
    go_enter Tryd.func26, Tryd.ntmps26
    go_wp2_with (first
      | ((with_reducible refine gate_dst (N := 4) rfl ?_); refine box_event rfl (N := 4) rfl (cs := val0) (t := 26) (by kernel_rfl) ?_; intro g hg w1 hb hbel; have hge : w.heap.size ≤ g := Nat.le_of_eq hg.symm; clear hg; have hR1 : RD w1 r s _ _ := blk_below hR hbel; have hc1 : w1.cell? ⟨r, 2, none⟩ = some (.int .i64 _) := hR1.cell 2)
      | ((with_reducible refine gate_store (t := 3) (p := 28) rfl ?_); refine store_cell_event rfl rfl rfl rfl (hR1.dr _) rfl (by kernel_rfl) rfl rfl ?_; intro w2 hR2' hg2; have hR2 : RD w2 r s n ((p : Int) + 1) := hR2'; clear hR2')
      | (go_at_call 29; first | ((with_reducible refine (here_calls hR1 (Nat.le_of_lt hn)).mono ?_); rintro e w' ⟨rfl, q, rfl⟩) | ((with_reducible refine (here_calls hR2 (Nat.le_of_lt hn)).mono ?_); rintro e w' ⟨rfl, q2, rfl⟩))
      | (go_at_call 28; (with_reducible refine (must_ok _ _).mono ?_); rintro e w' ⟨rfl, rfl⟩)
      | (go_at_call 49; (with_reducible refine (number_err 9223372036854775807 9223372036854775807 rfl (by decide) (hR2.dr _) (Nat.le_of_lt hn) hs HN.out).mono ?_); rintro e w3 ⟨rfl, hR3, hg3⟩)
      | (go_at_call 27; (with_reducible refine (any_calls _ _).mono ?_); rintro e w' ⟨rfl, rfl⟩))
    exact ⟨rfl, hq _ hR3 (((only_of_below hbel _).andThen (grownBy_drewN' hg2) (fun j hj => .inr hj)).andThen (grownBy_drewN' hg3) (fun j hj => .inr hj))⟩
  | ok x =>
    obtain ⟨k, at1⟩ := x
    rw [hN] at hv
    have hle := numF_le hN
    have hq : ∀ W v2, RD W r s at1 (p + 1 : Nat) → w.grownBy W (some r) → v2 = .slice none 0 0 → ValPost w r s (valueF (fuel + 1) (bl s) 0 n p) (.returned (.agg #[.int .i64 2, .int .i64 k, v2])) W := fun W v2 h1 h2 h3 => by
      rw [hv]; subst h3; exact ⟨⟨_, rfl, Kd.R_nil _ _ _ _ _⟩, h1, h2, by rw [bl_length] at hle; omega, by omega⟩
    have hk63 := numF_most hN
    clear hv hle
    have HN := Lib.hid hN
    clear hN
    go_enter Tryd.func26, Tryd.ntmps26
    go_wp2_with (first
      | ((with_reducible refine gate_dst (N := 4) rfl ?_); refine box_event rfl (N := 4) rfl (cs := val0) (t := 26) (by kernel_rfl) ?_; intro g hg w1 hb hbel; have hge : w.heap.size ≤ g := Nat.le_of_eq hg.symm; clear hg; have hR1 : RD w1 r s _ _ := blk_below hR hbel; have hgr : g ≠ r := (by have := hR.lt; omega); have hc1 : w1.cell? ⟨r, 2, none⟩ = some (.int .i64 _) := hR1.cell 2)
      | ((with_reducible refine gate_store (t := 3) (p := 28) rfl ?_); refine store_cell_event rfl rfl rfl rfl (hR1.dr _) rfl (by kernel_rfl) rfl rfl ?_; intro w2 hR2' hg2; have hR2 : RD w2 r s n ((p : Int) + 1) := hR2'; clear hR2')
      | (go_at_call 29; first | ((with_reducible refine (here_calls hR1 (Nat.le_of_lt hn)).mono ?_); rintro e w' ⟨rfl, q, rfl⟩) | ((with_reducible refine (here_calls hR2 (Nat.le_of_lt hn)).mono ?_); rintro e w' ⟨rfl, q2, rfl⟩))
      | (go_at_call 28; (with_reducible refine (must_ok _ _).mono ?_); rintro e w' ⟨rfl, rfl⟩)
      | (go_at_call 49; (with_reducible refine (number_ok 9223372036854775807 9223372036854775807 rfl (by decide) (hR2.dr _) (Nat.le_of_lt hn) hs HN.out).mono ?_); rintro e w3 ⟨rfl, hR3, hg3⟩)
      | (go_at_call 27; (with_reducible refine (any_calls _ _).mono ?_); rintro e w' ⟨rfl, rfl⟩)
      | (go_at_call 48; (with_reducible refine (int_calls _ _).mono ?_); rintro e w4 ⟨rfl, hb4⟩)
      | ((with_reducible refine gate_store (t := 26) (p := 4) rfl ?_); refine store_row_event rfl rfl rfl rfl (blk_below (blk_grown (blk_drewN (blk_grown (blk_drewN hb _) hg2 (by simpa using hgr)) _) hg3 (by simpa using hgr)) hb4) (by kernel_rfl) rfl (by kernel_rfl) ?_; intro w5 hb5 hg5))
    exact bodyPost_ret (results_cell_row rfl _ _ g 26 #[.int .i64 2, .int .i64 k, .slice none 0 0] (0, 0) _ rfl hb5 Tryd.underlying26 rfl (by kernel_rfl)) rfl
      (hq _ _ (blk_grown (blk_below hR3 hb4) hg5 (by simpa using fun e : r = g => hgr e.symm))
        (((((only_of_below hbel _).andThen (grownBy_drewN' hg2) (fun j hj => .inr hj)).andThen (grownBy_drewN' hg3) (fun j hj => .inr hj)).andThen (only_of_below hb4 none) (fun j hj => by cases hj)).andThen hg5 (fun j hj => .inl (by cases hj; exact hge))) rfl)
end Go.Proofs.YtfnekpgbfdhnmaaDoor

namespace Go.Proofs.YtfnekpgbfdhnmaaDoor
open Go.RowKit Go.Proofs.YtfnekpgbfdhnmaaDoorW.PrintWords Go.Proofs.YtfnekpgbfdhnmaaDoorW.PrintLast Go.Proofs.YtfnekpgbfdhnmaaDoorW.PrintMore Go.Proofs.YtfnekpgbfdhnmaaDoor.PAll
theorem neg_wrap (k : Nat) (h : k ≤ 9223372036854775808) : wrap64 (-(wrap64 (k : Int))) = -(k : Int) := by
  unfold wrap64
  omega
/-- starts at one sign. -/
theorem starts_one {r : Nat} {s : ByteArray} {n : Nat} {p : Int} {w : World} (c : UInt8) (hR : RD w r s n p) (hn : n ≤ s.size) (hs : s.size ≤ maxLen) (h : (bl s)[n]? = some c) :
    Calls Tryd.prog 50 #[.pointer (some ⟨r, 0, none⟩), .string ⟨#[c]⟩] w fun e w' => e = .returned (.bool true) ∧ RD w' r s (n + 1 : Nat) p ∧ w.grownBy w' (some r) := by
  have hl : n < s.size := by have := (List.getElem?_eq_some_iff.1 h).1; rwa [bl_length] at this
  exact starts_yes hR hn hs (by rw [prefix_one, h]; simp) (by show n + 1 ≤ s.size; omega)
theorem starts_none {r : Nat} {s : ByteArray} {n : Nat} {p : Int} {w : World} (c : UInt8) (hR : RD w r s n p) (hn : n ≤ s.size) (h : ¬ (bl s)[n]? = some c) :
    Calls Tryd.prog 50 #[.pointer (some ⟨r, 0, none⟩), .string ⟨#[c]⟩] w fun e w' => e = .returned (.bool false) ∧ ∃ k, w' = w.drewN k :=
  starts_no hR hn (by rw [prefix_one]; simpa using h)
theorem prefix_calls (s : ByteArray) (n : Nat) (c : UInt8) (w : World) :
    Calls Tryd.prog 51 #[.string (s.extract n s.size), .string ⟨#[c]⟩] w fun e w' => e = .returned (.bool (decide ((bl s)[n]? = some c))) ∧ ∃ k, w' = w.drewN k :=
  prefix_one s n c ▸ hasPrefix_calls _ _ w
set_option maxRecDepth 100000 in
set_option maxHeartbeats 2000000 in
theorem val_minus (fuel : Nat) (r : Nat) (s : ByteArray) (n p : Nat) (w : World) (hR : RD w r s n p) (hn : n < s.size) (hs : s.size ≤ maxLen) (hp : p < 256) (hc : (bl s)[n]? = some 45) : Calls Tryd.prog 26 #[.pointer (some ⟨r, 0, none⟩), mayV 0] w (ValPost w r s (valueF (fuel + 1) (bl s) 0 n p)) := by
  have hd0 : (bl s).getD n 0 = 45 := by rw [List.getD_eq_getElem?_getD, hc]; rfl
  have hv : valueF (fuel + 1) (bl s) 0 n p = if (bl s)[n + 1]? = some 48 then .error (n + 1) else (numF 9223372036854775808 (bl s) (n + 1)).elim_ (fun e => .error e) (fun x => .ok (⟨2, -(x.1 : Int), []⟩, x.2, p + 1)) := by
    rw [valueF, if_neg (by rw [bl_length]; omega), if_neg (by rw [hd0]; simp), if_pos ⟨rfl, hd0⟩]
    split
    · rfl
    · cases numF 9223372036854775808 (bl s) (n + 1) <;> rfl
  have hb0 : (s.extract n s.size).toList.isEmpty = false := here_some hR.lt hn
  have hn1 : n + 1 ≤ s.size := hn
  have hs' := hs
  unfold maxLen at hs'
  have hpb : decide ((p : Int) < 256) = true := by simp; omega
  have hix := fun W => index_str0 (P := Tryd.prog) (T := 9) Tryd.underlying9 (s := s.extract n s.size) (c := 45) (by rw [bl_extract_at]; exact hc) W
  have hix : ∀ W, (Instr.index 9 (.string (s.extract n s.size)) (.int .i64 0)).run Tryd.prog W = .ok (.int .u8 45) W := hix
  have Hc := Lib.hid hc
  have hm0 : mayV 0 = .func (.func 27) #[] #[] := rfl
  rw [hm0]
  clear hm0 hc hd0
  by_cases hz : (bl s)[n + 1]? = some 48
  · rw [if_pos hz] at hv
    have hq : ∀ W, RD W r s (n + 1 : Nat) (p + 1 : Nat) → w.grownBy W (some r) → ValPost w r s (valueF (fuel + 1) (bl s) 0 n p) (.panicked (wrongAt (n + 1 : Nat))) W := fun W h1 h2 => by
      rw [hv]; exact ⟨rfl, ⟨_, h1⟩, h2⟩
    have Hz := Lib.hid hz
    clear hv hz
    go_enter Tryd.func26, Tryd.ntmps26
    go_wp2_with (first
      | ((with_reducible refine gate_dst (N := 4) rfl ?_); refine box_event rfl (N := 4) rfl (cs := val0) (t := 26) (by kernel_rfl) ?_; intro g hg w1 hb hbel; have hge : w.heap.size ≤ g := Nat.le_of_eq hg.symm; clear hg; have hR1 : RD w1 r s _ _ := blk_below hR hbel; have hgr : g ≠ r := (by have := hR.lt; omega); have hc1 : w1.cell? ⟨r, 2, none⟩ = some (.int .i64 _) := hR1.cell 2)
      | ((with_reducible refine gate_store (t := 3) (p := 28) rfl ?_); refine store_cell_event rfl rfl rfl rfl (hR1.dr _) rfl (by kernel_rfl) rfl rfl ?_; intro w2 hR2' hg2; have hR2 : RD w2 r s n ((p : Int) + 1) := hR2'; clear hR2'; have hb2 : Blk w2 g 26 val0 := blk_grown (blk_drewN hb _) hg2 (by simpa using hgr); have hG2 : w.grownBy w2 (some r) := (only_of_below hbel _).andThen (grownBy_drewN' hg2) (fun j hj => .inr hj))
      | (go_at_call 29; first | ((with_reducible refine (here_calls hR1 (Nat.le_of_lt hn)).mono ?_); rintro e w' ⟨rfl, q0, rfl⟩) | ((with_reducible refine (here_calls hR2 (Nat.le_of_lt hn)).mono ?_); rintro e w' ⟨rfl, q1, rfl⟩) | ((with_reducible refine (here_calls hR3 hn1).mono ?_); rintro e w' ⟨rfl, q2, rfl⟩))
      | (go_at_call 28; (with_reducible refine (must_ok _ _).mono ?_); rintro e w' ⟨rfl, rfl⟩)
      | (go_at_call 28; (with_reducible refine (must_bad ((hR3.dr _))).mono ?_); rintro e w' ⟨rfl, rfl⟩)
      | (go_at_call 27; (with_reducible refine (any_calls _ _).mono ?_); rintro e w' ⟨rfl, rfl⟩)
      | (go_at_call 50; (with_reducible refine (starts_one 45 (hR2.dr _) (Nat.le_of_lt hn) hs Hc.out).mono ?_); rintro e w3 ⟨rfl, hR3, hg3⟩; have hb3 : Blk w3 g 26 val0 := blk_grown (blk_drewN hb2 _) hg3 (by simpa using hgr); have hG3 : w.grownBy w3 (some r) := hG2.andThen (grownBy_drewN' hg3) (fun j hj => .inr hj))
      | (go_at_call 51; (with_reducible refine (prefix_calls s (n + 1) 48 _).mono ?_); rintro e w' ⟨rfl, q9, rfl⟩; rw [decide_eq_true Hz.out]))
    exact ⟨rfl, hq _ (hR3.dr _) (grownBy_drewN hG3 _)⟩
  · rw [if_neg hz] at hv
    have Hz := Lib.hid hz
    clear hz
    cases hN : numF 9223372036854775808 (bl s) (n + 1) with
    | error e0 =>
      rw [hN] at hv
      have hq : ∀ W, RD W r s e0 (p + 1 : Nat) → w.grownBy W (some r) → ValPost w r s (valueF (fuel + 1) (bl s) 0 n p) (.panicked (wrongAt e0)) W := fun W h1 h2 => by
        rw [hv]; exact ⟨rfl, ⟨_, h1⟩, h2⟩
      have HN := Lib.hid hN
      clear hv hN
      go_enter Tryd.func26, Tryd.ntmps26
      go_wp2_with (first
        | ((with_reducible refine gate_dst (N := 4) rfl ?_); refine box_event rfl (N := 4) rfl (cs := val0) (t := 26) (by kernel_rfl) ?_; intro g hg w1 hb hbel; have hge : w.heap.size ≤ g := Nat.le_of_eq hg.symm; clear hg; have hR1 : RD w1 r s _ _ := blk_below hR hbel; have hgr : g ≠ r := (by have := hR.lt; omega); have hc1 : w1.cell? ⟨r, 2, none⟩ = some (.int .i64 _) := hR1.cell 2)
        | ((with_reducible refine gate_store (t := 3) (p := 28) rfl ?_); refine store_cell_event rfl rfl rfl rfl (hR1.dr _) rfl (by kernel_rfl) rfl rfl ?_; intro w2 hR2' hg2; have hR2 : RD w2 r s n ((p : Int) + 1) := hR2'; clear hR2'; have hb2 : Blk w2 g 26 val0 := blk_grown (blk_drewN hb _) hg2 (by simpa using hgr); have hG2 : w.grownBy w2 (some r) := (only_of_below hbel _).andThen (grownBy_drewN' hg2) (fun j hj => .inr hj))
        | (go_at_call 29; first | ((with_reducible refine (here_calls hR1 (Nat.le_of_lt hn)).mono ?_); rintro e w' ⟨rfl, q0, rfl⟩) | ((with_reducible refine (here_calls hR2 (Nat.le_of_lt hn)).mono ?_); rintro e w' ⟨rfl, q1, rfl⟩) | ((with_reducible refine (here_calls hR3 hn1).mono ?_); rintro e w' ⟨rfl, q2, rfl⟩))
        | (go_at_call 28; (with_reducible refine (must_ok _ _).mono ?_); rintro e w' ⟨rfl, rfl⟩)
        | (go_at_call 27; (with_reducible refine (any_calls _ _).mono ?_); rintro e w' ⟨rfl, rfl⟩)
        | (go_at_call 50; (with_reducible refine (starts_one 45 (hR2.dr _) (Nat.le_of_lt hn) hs Hc.out).mono ?_); rintro e w3 ⟨rfl, hR3, hg3⟩; have hb3 : Blk w3 g 26 val0 := blk_grown (blk_drewN hb2 _) hg3 (by simpa using hgr); have hG3 : w.grownBy w3 (some r) := hG2.andThen (grownBy_drewN' hg3) (fun j hj => .inr hj))
        | (go_at_call 51; (with_reducible refine (prefix_calls s (n + 1) 48 _).mono ?_); rintro e w' ⟨rfl, q9, rfl⟩; rw [decide_eq_false Hz.out])
        | (go_at_call 49; (with_reducible refine (number_err 9223372036854775808 9223372036854775808 rfl (by decide) (hR3.dr _) hn1 hs HN.out).mono ?_); rintro e w4 ⟨rfl, hR4, hg4⟩))
      exact ⟨rfl, hq _ hR4 (hG3.andThen (grownBy_drewN' hg4) (fun j hj => .inr hj))⟩
    | ok x =>
      obtain ⟨k, at1⟩ := x
      rw [hN] at hv
      have hle := numF_le hN
      have hk63 := numF_most hN
      have hq : ∀ W, RD W r s at1 (p + 1 : Nat) → w.grownBy W (some r) → ValPost w r s (valueF (fuel + 1) (bl s) 0 n p) (.returned (.agg #[.int .i64 2, .int .i64 (wrap64 (-(wrap64 (k : Int)))), .slice none 0 0])) W := fun W h1 h2 => by
        rw [hv, neg_wrap k hk63]; exact ⟨⟨_, rfl, Kd.R_nil _ _ _ _ _⟩, h1, h2, by rw [bl_length] at hle; omega, by omega⟩
      have HN := Lib.hid hN
      clear hv hN hle hk63
      go_enter Tryd.func26, Tryd.ntmps26
      go_wp2_with (first
        | ((with_reducible refine gate_dst (N := 4) rfl ?_); refine box_event rfl (N := 4) rfl (cs := val0) (t := 26) (by kernel_rfl) ?_; intro g hg w1 hb hbel; have hge : w.heap.size ≤ g := Nat.le_of_eq hg.symm; clear hg; have hR1 : RD w1 r s _ _ := blk_below hR hbel; have hgr : g ≠ r := (by have := hR.lt; omega); have hc1 : w1.cell? ⟨r, 2, none⟩ = some (.int .i64 _) := hR1.cell 2)
        | ((with_reducible refine gate_store (t := 3) (p := 28) rfl ?_); refine store_cell_event rfl rfl rfl rfl (hR1.dr _) rfl (by kernel_rfl) rfl rfl ?_; intro w2 hR2' hg2; have hR2 : RD w2 r s n ((p : Int) + 1) := hR2'; clear hR2'; have hb2 : Blk w2 g 26 val0 := blk_grown (blk_drewN hb _) hg2 (by simpa using hgr); have hG2 : w.grownBy w2 (some r) := (only_of_below hbel _).andThen (grownBy_drewN' hg2) (fun j hj => .inr hj))
        | (go_at_call 29; first | ((with_reducible refine (here_calls hR1 (Nat.le_of_lt hn)).mono ?_); rintro e w' ⟨rfl, q0, rfl⟩) | ((with_reducible refine (here_calls hR2 (Nat.le_of_lt hn)).mono ?_); rintro e w' ⟨rfl, q1, rfl⟩) | ((with_reducible refine (here_calls hR3 hn1).mono ?_); rintro e w' ⟨rfl, q2, rfl⟩))
        | (go_at_call 28; (with_reducible refine (must_ok _ _).mono ?_); rintro e w' ⟨rfl, rfl⟩)
        | (go_at_call 27; (with_reducible refine (any_calls _ _).mono ?_); rintro e w' ⟨rfl, rfl⟩)
        | (go_at_call 50; (with_reducible refine (starts_one 45 (hR2.dr _) (Nat.le_of_lt hn) hs Hc.out).mono ?_); rintro e w3 ⟨rfl, hR3, hg3⟩; have hb3 : Blk w3 g 26 val0 := blk_grown (blk_drewN hb2 _) hg3 (by simpa using hgr); have hG3 : w.grownBy w3 (some r) := hG2.andThen (grownBy_drewN' hg3) (fun j hj => .inr hj))
        | (go_at_call 51; (with_reducible refine (prefix_calls s (n + 1) 48 _).mono ?_); rintro e w' ⟨rfl, q9, rfl⟩; rw [decide_eq_false Hz.out])
        | (go_at_call 49; (with_reducible refine (number_ok 9223372036854775808 9223372036854775808 rfl (by decide) (hR3.dr _) hn1 hs HN.out).mono ?_); rintro e w4 ⟨rfl, hR4, hg4⟩; have hb4 : Blk w4 g 26 val0 := blk_grown (blk_drewN hb3 _) hg4 (by simpa using hgr))
        | (go_at_call 48; (with_reducible refine (int_calls _ _).mono ?_); rintro e w5 ⟨rfl, hb5⟩)
        | ((with_reducible refine gate_store (t := 26) (p := 4) rfl ?_); refine store_row_event rfl rfl rfl rfl (blk_below hb4 hb5) (by kernel_rfl) rfl (by kernel_rfl) ?_; intro w6 hb6 hg6))
      exact bodyPost_ret (results_cell_row rfl _ _ g 26 #[.int .i64 2, .int .i64 (wrap64 (-(wrap64 (k : Int)))), .slice none 0 0] (0, 0) _ rfl hb6 Tryd.underlying26 rfl (by kernel_rfl)) rfl
        (hq _ (blk_grown (blk_below hR4 hb5) hg6 (by simpa using fun e : r = g => hgr e.symm))
          (((hG3.andThen (grownBy_drewN' hg4) (fun j hj => .inr hj)).andThen (only_of_below hb5 none) (fun j hj => by cases hj)).andThen hg6 (fun j hj => .inl (by cases hj; exact hge))))
end Go.Proofs.YtfnekpgbfdhnmaaDoor

namespace Go.Proofs.YtfnekpgbfdhnmaaDoor
open Go.RowKit Go.Proofs.YtfnekpgbfdhnmaaDoorW.PrintWords Go.Proofs.YtfnekpgbfdhnmaaDoorW.PrintLast Go.Proofs.YtfnekpgbfdhnmaaDoorW.PrintMore Go.Proofs.YtfnekpgbfdhnmaaDoor.PAll
/-- What stands behind a Kind's number. -/
def itemsBody (fuel : Nat) (l : List UInt8) (k n at1 p : Nat) : Except Nat (Tree × Nat × Nat) :=
  match itemsGo (valueF fuel l) l (countedB k) (needF k).1 (needF k).2.2.1 (needF k).2.2.2 (needF k).2.1 [] at1 (p + 1) with
  | .error e => .error e
  | .ok (got, at2, parts2) => if l[at2]? = some 41 then .ok (⟨k, n, got⟩, at2 + 1, parts2) else .error at2
/-- What a Kind needs, as it lies in memory. -/
def needV (k : Nat) : Array Value := #[.int .i64 ((needF k).1 : Nat), .int .i64 ((needF k).2.1 : Nat), if (needF k).2.1 = 0 then .nilFunc else mayV (needF k).2.2.1, if (needF k).2.1 = 0 then .nilFunc else mayV (needF k).2.2.2]
theorem need_index (k : Nat) (h1 : 1 ≤ k) (h13 : k ≤ 13) (h18 : ¬ (k = 1 ∨ k = 8)) (h2 : k ≠ 2) : ∀ W, (Instr.index 112 (.agg needsV) (.int .i64 k)).run Tryd.prog W = .ok (.agg (needV k)) W := by
  have hcases : k = 3 ∨ k = 4 ∨ k = 5 ∨ k = 6 ∨ k = 7 ∨ k = 9 ∨ k = 10 ∨ k = 11 ∨ k = 12 ∨ k = 13 := by omega
  clear h1 h13 h18 h2
  intro W
  rcases hcases with rfl | rfl | rfl | rfl | rfl | rfl | rfl | rfl | rfl | rfl
  all_goals (show _ = _; kernel_rfl)
theorem blk_below2 {w w1 : World} {g t : Nat} {cs : Array Value} (hb : Below w.heap.size w w1) (h : Blk w g t cs) : Blk w1 g t cs := blk_below h hb
theorem needV_one (k : Nat) : (needV k).all (·.oneCell') = true := by
  unfold needV
  split <;> simp [Value.oneCell', mayV]
/-- The length of the slice that lies in a block's third cell. -/
def lenAt (w : World) (g : Nat) : Nat := match w.cell? ⟨g, 2, none⟩ with | some (.slice _ n _) => n | _ => 0
theorem lenAt_of {w : World} {g t n c : Nat} {x y : Value} {A : Option Addr} (h : Blk w g t #[x, y, .slice A n c]) : lenAt w g = n := by
  have : w.cell? ⟨g, 2, none⟩ = some (.slice A n c) := h.cell 2
  rw [lenAt, this]
def nneed0 : Array Value := #[.int .i64 0, .int .i64 0, .nilFunc, .nilFunc]
/-- The code behind so many statements. -/
def rightN : Nat → Code → Code
  | 0, c => c
  | n + 1, .seq _ b => rightN n b
  | _ + 1, c => c
/-- The loop over a value's own values, and what follows. -/
noncomputable def valTail : Code := rightN 10 (Tryd.f26.body.getD .skip)
set_option maxHeartbeats 400000 in
theorem counted_calls (k : Nat) (w : World) : Calls Tryd.prog 53 #[.int .i64 k] w fun e w' => e = .returned (.bool (countedB k)) ∧ w = w' := by
  unfold countedB
  by_cases h : k = 4
  · subst h
    go_enter Tryd.func53, Tryd.ntmps53
    go_wp2
    go_ret
    exact ⟨rfl, rfl⟩
  · have h4 : ((k : Int) == 4) = false := by rw [beq_eq_false_iff_ne]; omega
    have h4' : (k == 4) = false := by rw [beq_eq_false_iff_ne]; omega
    rw [h4']
    go_enter Tryd.func53, Tryd.ntmps53
    go_wp2
    go_ret
    exact ⟨by simp; omega, rfl⟩
theorem itemsGo_parts {val : Nat → Nat → Nat → Except Nat (Tree × Nat × Nat)} (hval : ∀ m a p t a' p', val m a p = .ok (t, a', p') → p ≤ p') {l : List UInt8} {cnt : Bool} {least m0 m1 : Nat} : ∀ {left : Nat} {got : List Tree} {at2 parts : Nat} {x : List Tree × Nat × Nat},
    itemsGo val l cnt least m0 m1 left got at2 parts = .ok x → parts ≤ x.2.2
  | 0, got, at2, parts, x, h => by rw [itemsGo] at h; injection h with h; subst h; exact Nat.le_refl _
  | left + 1, got, at2, parts, x, h => by
    rw [itemsGo] at h
    split at h
    · injection h with h; subst h; exact Nat.le_refl _
    · split at h
      · cases h
      · split at h
        · cases h
        · rename_i hv
          have h1 := hval _ _ _ _ _ _ hv
          have h2 := itemsGo_parts hval h
          omega
theorem valueF_parts : ∀ {fuel : Nat} {l : List UInt8} {m a p : Nat} {t : Tree} {a' p' : Nat}, valueF fuel l m a p = .ok (t, a', p') → p ≤ p'
  | 0, _, _, _, _, _, _, _, h => by rw [valueF] at h; cases h
  | fuel + 1, l, m, a, p, t, a', p', h => by
    rw [valueF] at h
    repeat' split at h
    all_goals first
      | (cases h; done)
      | (simp only [Except.ok.injEq, Prod.mk.injEq] at h; omega)
      | skip
    all_goals
      rename_i hi _
      have := itemsGo_parts (fun _ _ _ _ _ _ hv => valueF_parts hv) hi
      simp only [Except.ok.injEq, Prod.mk.injEq] at h
      simp only at this
      omega
/-- What stands while a value's own values are read. -/
def TI (w : World) (r k N g g6 g7 : Nat) (got : List Tree) (A : Option Addr) (c : Nat) (W : World) : Prop :=
  Blk W g 26 val0 ∧ Blk W g6 26 #[.int .i64 k, .int .i64 N, .slice A got.length c] ∧
  Kd.R k26 26 W w.heap.size (fun q => q ≠ g ∧ q ≠ g6) (.slice A got.length c) got ∧ Blk W g7 111 (needV k) ∧ w.grownBy W (some r)
theorem val_ne (t : Nat) (ht : 26 ≠ t) : ∀ q, q ∈ 26 :: k26.E → q ≠ t := by
  intro q hq
  rw [show k26.E = [26] from rfl] at hq
  simp at hq; omega
theorem TI.grown {w : World} {r k N g g6 g7 : Nat} {got : List Tree} {A : Option Addr} {c : Nat} {W W1 : World} (h : TI w r k N g g6 g7 got A c W) {s : ByteArray} {n p : Int} (hR : RD W r s n p) (hg : W.grownBy W1 (some r)) (hgr : g ≠ r) (hgr6 : g6 ≠ r) (hgr7 : g7 ≠ r) : TI w r k N g g6 g7 got A c W1 :=
  ⟨blk_grown h.1 hg (by simpa using hgr), blk_grown h.2.1 hg (by simpa using hgr6), kd_keep h.2.2.1 hg hR (val_ne _ (by decide)), blk_grown h.2.2.2.1 hg (by simpa using hgr7), h.2.2.2.2.andThen hg (fun j hj => .inr hj)⟩
theorem TI.dr {w : World} {r k N g g6 g7 : Nat} {got : List Tree} {A : Option Addr} {c : Nat} {W : World} (h : TI w r k N g g6 g7 got A c W) (n : Nat) : TI w r k N g g6 g7 got A c (W.drewN n) :=
  ⟨h.1, h.2.1, Kd.R_drewN h.2.2.1 n, h.2.2.2.1, grownBy_drewN h.2.2.2.2 n⟩
/-- The value's own place for the next value: what may stand there. -/
def nextM (k l : Nat) : Nat := if l = 0 then (needF k).2.2.1 else (needF k).2.2.2
theorem nextM_le (k l : Nat) : nextM k l ≤ 2 := by
  unfold nextM needF
  repeat' split
  all_goals simp
theorem needF_most (k : Nat) : (needF k).2.1 ≤ 16 := by
  unfold needF
  repeat' split
  all_goals simp
theorem nextM_cell {W : World} {g7 k l : Nat} (h : Blk W g7 111 (needV k)) (hl : l < (needF k).2.1) : W.cell? ⟨g7, if l = 0 then 2 else 3, none⟩ = some (mayV (nextM k l)) := by
  have h0 : (needF k).2.1 ≠ 0 := by omega
  unfold nextM
  split
  · rw [h.cell 2]; simp [needV, h0]
  · rw [h.cell 3]; simp [needV, h0]
/-- One turn of the loop, on lists. -/
theorem items_step {val : Nat → Nat → Nat → Except Nat (Tree × Nat × Nat)} {l : List UInt8} {cnt : Bool} {least m0 m1 left : Nat} {got : List Tree} {at2 parts at1 : Nat} {t : Tree} {at3 parts3 : Nat}
    (h1 : ¬ (¬ got.length < least ∧ l[at2]? = some 41)) (h2 : (if got.length = 0 ∧ cnt = false then .ok at2 else if l[at2]? = some 44 then .ok (at2 + 1) else .error at2 : Except Nat Nat) = .ok at1)
    (h3 : val (if got.length = 0 then m0 else m1) at1 parts = .ok (t, at3, parts3)) : itemsGo val l cnt least m0 m1 (left + 1) got at2 parts = itemsGo val l cnt least m0 m1 left (got ++ [t]) at3 parts3 := by
  rw [itemsGo, if_neg h1, h2]
  simp only [h3]
theorem items_bad {val : Nat → Nat → Nat → Except Nat (Tree × Nat × Nat)} {l : List UInt8} {cnt : Bool} {least m0 m1 left : Nat} {got : List Tree} {at2 parts at1 e : Nat}
    (h1 : ¬ (¬ got.length < least ∧ l[at2]? = some 41)) (h2 : (if got.length = 0 ∧ cnt = false then .ok at2 else if l[at2]? = some 44 then .ok (at2 + 1) else .error at2 : Except Nat Nat) = .ok at1)
    (h3 : val (if got.length = 0 then m0 else m1) at1 parts = .error e) : itemsGo val l cnt least m0 m1 (left + 1) got at2 parts = .error e := by
  rw [itemsGo, if_neg h1, h2]
  simp only [h3]
end Go.Proofs.YtfnekpgbfdhnmaaDoor
