/- ValtextWords is true for every number and every string: the words of Kinds and the Kinds of words are the reference's (the listed tables are tied to the program's text). -/
import Derived.Test.YtfnekpgbfdhnmaaDoorRows
import Derived.Test.YtfnekpgbfdhnmaaDoorTie
import Derived.Test.YtfnekpgbfdhnmaaDoorCards
import Derived.ProofKit
import Derived.LaidMore
import Derived.OpenShut
import Derived.Stop.Joined
import Derived.ShutString
import Derived.SevenTiedAt
import Derived.MakeChecks
import Derived.Stop.LaidErr
import Derived.Lib.AtoiErrMem
import Derived.Test.YtfnekpgbfdhnmaaDoorVw3
set_option linter.unusedVariables false
set_option linter.unusedSimpArgs false
namespace Go.Proofs.YtfnekpgbfdhnmaaDoor
open Go.ChangeShapes Go.WideShapes Go.ChangeAt Go.RowKit Go.Proofs.YtfnekpgbfdhnmaaDoorW.PrintWords Go.Proofs.YtfnekpgbfdhnmaaDoorW.PrintLast Go.Proofs.YtfnekpgbfdhnmaaDoorW.PrintMore Go.Proofs.YtfnekpgbfdhnmaaDoor.PAll
theorem own : ownKnob Tryd.prog.godebug = none := by kernel_rfl
def laid3 : List (String × DataW Unit) := [("math/bits.deBruijn32tab", Rows.laid_math_bits_deBruijn32tab), ("math/bits.deBruijn64tab", Rows.laid_math_bits_deBruijn64tab), ("internal/strconv.uint64pow10", Rows.laid_internal_strconv_uint64pow10)]
theorem door_met (os : Os) (args : Array Value) : laidMetH Tryd.prog laid3 ((World.doorLaid Tryd.prog 24 os).forCall (fun _ _ => 0) ⟨#[], args, []⟩).memory :=
  laidMetH_of_parts3 (fuel := 8) (laidMet_of_run' 8 (by kernel_rfl) (by kernel_rfl)) (by kernel_rfl) (by kernel_rfl)
theorem tab_of_laid {W : World} (h : laidMetH Tryd.prog laid3 W) : Tab W := by
  rw [MakeChecks.laidMetH_plain _ _ _ (by kernel_rfl)] at h
  have h1 : Lib.TabIs Tryd.prog W "internal/strconv.uint64pow10" .u64 Lib.pow10Tab :=
    Lib.tabIs_of_head (g := 0) (by kernel_rfl) (t := 157) (by kernel_rfl) Tryd.underlying157 Tryd.underlying105 (by kernel_rfl) (by kernel_rfl) (laidMet.tail (laidMet.tail h))
  refine ⟨h1, ?_⟩
  have hc := h1.cell (g := 0) (by kernel_rfl) 0 (by decide)
  exact Lib.lt_of_cell hc
end Go.Proofs.YtfnekpgbfdhnmaaDoor

namespace Go.Proofs.YtfnekpgbfdhnmaaDoor
open Go.RowKit Go.Proofs.YtfnekpgbfdhnmaaDoorW.PrintWords Go.Proofs.YtfnekpgbfdhnmaaDoorW.PrintLast Go.Proofs.YtfnekpgbfdhnmaaDoorW.PrintMore Go.Proofs.YtfnekpgbfdhnmaaDoor.PAll
theorem refWord_eq (k : Int) : betrothalref05_Word.f k = some (wordOf k, !(bl (wordOf k)).isEmpty) := by
  by_cases h0 : k < 1
  · have : k.toNat = 0 := by omega
    unfold betrothalref05_Word.f wordOf
    rw [if_pos h0, this]
    rfl
  · by_cases h1 : k > 13
    · unfold betrothalref05_Word.f wordOf
      rw [if_neg h0, if_pos h1, List.getD_eq_getElem?_getD, List.getElem?_eq_none (show wordsL.length ≤ k.toNat from by have : wordsL.length = 14 := rfl; omega)]
      rfl
    · have : k = 1 ∨ k = 2 ∨ k = 3 ∨ k = 4 ∨ k = 5 ∨ k = 6 ∨ k = 7 ∨ k = 8 ∨ k = 9 ∨ k = 10 ∨ k = 11 ∨ k = 12 ∨ k = 13 := by omega
      rcases this with rfl | rfl | rfl | rfl | rfl | rfl | rfl | rfl | rfl | rfl | rfl | rfl | rfl <;> (show _ = _; kernel_rfl)
theorem kind_pass {k : Nat} {s : ByteArray} {x z : Int} {y : ByteArray} (hz : wrap64 (x + 1) = z) (hx : x ≤ 13) (hW : betrothalref05_Word.f x = some (y, true)) (hne : ¬ y.toList = s.toList) : betrothalref05_Kind.l0 (k + 1) s x = betrothalref05_Kind.l0 k s z := by
  rw [betrothalref05_Kind.l0, if_pos hx, hW, Option.bind_some, if_pos rfl, if_neg hne, hz]
theorem kind_skip {k : Nat} {s : ByteArray} {x z : Int} {y : ByteArray} (hz : wrap64 (x + 1) = z) (hx : x ≤ 13) (hW : betrothalref05_Word.f x = some (y, false)) : betrothalref05_Kind.l0 (k + 1) s x = betrothalref05_Kind.l0 k s z := by
  rw [betrothalref05_Kind.l0, if_pos hx, hW, Option.bind_some, if_neg (by simp), hz]
theorem bytes_of_toList {a b : ByteArray} (h : a.toList = b.toList) : b = a := by
  rw [ByteArray.toList_eq, ByteArray.toList_eq] at h
  apply ByteArray.ext
  exact (Array.toList_inj.1 h).symm
theorem refKind_eq (s : ByteArray) : betrothalref05_Kind.f 14 s = some (kindOf s) := by
  by_cases hany : ∃ i : Nat, i ∈ [1, 3, 4, 5, 6, 7, 8, 9, 10, 11, 12, 13] ∧ (wordOf i).toList = s.toList
  · obtain ⟨i, hi, he⟩ := hany
    have hs := bytes_of_toList he
    subst hs
    simp only [List.mem_cons, List.not_mem_nil, or_false] at hi
    rcases hi with rfl | rfl | rfl | rfl | rfl | rfl | rfl | rfl | rfl | rfl | rfl | rfl <;> (show _ = _; kernel_rfl)
  · have hn : ∀ i : Nat, i ∈ [1, 3, 4, 5, 6, 7, 8, 9, 10, 11, 12, 13] → ¬ (wordOf i).toList = s.toList := fun i hi he => hany ⟨i, hi, he⟩
    have e1 : betrothalref05_Kind.f 14 s = some (0, false) := by
      show betrothalref05_Kind.l0 14 s 1 = _
      rw [kind_pass (z := 2) (by simp [wrap64]) (k := 13) (y := wordOf 1) (by decide) (by kernel_rfl) (hn 1 (by simp))]
      rw [kind_skip (z := 3) (by simp [wrap64]) (k := 12) (y := wordOf 2) (by decide) (by kernel_rfl)]
      rw [kind_pass (z := 4) (by simp [wrap64]) (k := 11) (y := wordOf 3) (by decide) (by kernel_rfl) (hn 3 (by simp))]
      rw [kind_pass (z := 5) (by simp [wrap64]) (k := 10) (y := wordOf 4) (by decide) (by kernel_rfl) (hn 4 (by simp))]
      rw [kind_pass (z := 6) (by simp [wrap64]) (k := 9) (y := wordOf 5) (by decide) (by kernel_rfl) (hn 5 (by simp))]
      rw [kind_pass (z := 7) (by simp [wrap64]) (k := 8) (y := wordOf 6) (by decide) (by kernel_rfl) (hn 6 (by simp))]
      rw [kind_pass (z := 8) (by simp [wrap64]) (k := 7) (y := wordOf 7) (by decide) (by kernel_rfl) (hn 7 (by simp))]
      rw [kind_pass (z := 9) (by simp [wrap64]) (k := 6) (y := wordOf 8) (by decide) (by kernel_rfl) (hn 8 (by simp))]
      rw [kind_pass (z := 10) (by simp [wrap64]) (k := 5) (y := wordOf 9) (by decide) (by kernel_rfl) (hn 9 (by simp))]
      rw [kind_pass (z := 11) (by simp [wrap64]) (k := 4) (y := wordOf 10) (by decide) (by kernel_rfl) (hn 10 (by simp))]
      rw [kind_pass (z := 12) (by simp [wrap64]) (k := 3) (y := wordOf 11) (by decide) (by kernel_rfl) (hn 11 (by simp))]
      rw [kind_pass (z := 13) (by simp [wrap64]) (k := 2) (y := wordOf 12) (by decide) (by kernel_rfl) (hn 12 (by simp))]
      rw [kind_pass (z := 14) (by simp [wrap64]) (k := 1) (y := wordOf 13) (by decide) (by kernel_rfl) (hn 13 (by simp))]
      rw [betrothalref05_Kind.l0, if_neg (by decide)]
    rw [e1]
    congr 1
    unfold kindOf
    by_cases hs : bl s = []
    · rw [if_pos (.inr hs)]
    · have hf : wordsL.findIdx? (fun x => s.toList == x.toList) = none := by
        rw [List.findIdx?_eq_none_iff]
        intro x hx
        obtain ⟨i, hi⟩ := List.mem_iff_getElem?.1 hx
        have hlt : i < 14 := by have := (List.getElem?_eq_some_iff.1 hi).1; exact this
        have hw : wordOf i = x := by unfold wordOf; simp [List.getD_eq_getElem?_getD, hi]
        by_cases h02 : i = 0 ∨ i = 2
        · have hx0 : x = ⟨#[]⟩ := by rcases h02 with rfl | rfl <;> (rw [← hw]; rfl)
          subst hx0
          rw [ByteArray.toList_eq, ByteArray.toList_eq]
          simpa [bl] using hs
        · have := hn i (by simp; omega)
          rw [hw] at this
          simpa using fun e => this e.symm
      have : idxOf wordsL s < 0 := by unfold idxOf; rw [hf]; decide
      rw [if_pos (.inl this)]
end Go.Proofs.YtfnekpgbfdhnmaaDoor

namespace Go.Proofs.YtfnekpgbfdhnmaaDoor
open Go.RowKit Go.Proofs.YtfnekpgbfdhnmaaDoorW.PrintWords Go.Proofs.YtfnekpgbfdhnmaaDoorW.PrintLast Go.Proofs.YtfnekpgbfdhnmaaDoorW.PrintMore Go.Proofs.YtfnekpgbfdhnmaaDoor.PAll
theorem refWord_calls (k : Int) (w : World) : Calls Tryd.prog 13 #[.int .i64 k] w fun e w' => e = .returned (.tuple #[.string (wordOf k), .bool (!(bl (wordOf k)).isEmpty)]) ∧ Below w.heap.size w w' :=
  betrothalref05_Word.calls k _ _ w (refWord_eq k)
theorem refKind_calls (s : ByteArray) (w : World) : Calls Tryd.prog 15 #[.string s] w fun e w' => e = .returned (.tuple #[.int .i64 (kindOf s).1, .bool (kindOf s).2]) ∧ Below w.heap.size w w' :=
  betrothalref05_Kind.calls 14 s _ _ w (refKind_eq s)
set_option maxRecDepth 100000 in
set_option maxHeartbeats 2000000 in
theorem words_walk (k : Int) (s : ByteArray) (w : World) (hT : Tab w) : Calls Tryd.prog 4 #[.int .i64 k, .string s] w fun e w' => e = .returned (.bool true) ∧ Below w.heap.size w w' := by
  have HT := Lib.hid fun W (hW : Below w.heap.size w W) => hT.below hW
  clear hT
  have Hw := Lib.hid (refWord_calls k)
  have Hk := Lib.hid (refKind_calls s)
  have Hw2 := Lib.hid (Word_calls k)
  have Hk2 := Lib.hid (Kind_calls s)
  generalize wordOf k = x at Hw Hw2
  generalize kindOf s = y at Hk Hk2
  obtain ⟨y1, y2⟩ := y
  generalize (!(bl x).isEmpty) = b at Hw Hw2
  dsimp only at Hk Hk2
  go_enter Tryd.func4, Tryd.ntmps4
  by_cases hs : (100 : Int) < s.size
  · go_wp2_with (first
      | (go_at_call 7; (with_reducible refine (works_calls _ (HT.out _ (Below.refl _ _))).mono ?_); rintro e w1 ⟨rfl, hbel1⟩))
    go_ret
    exact ⟨rfl, hbel1⟩
  · go_wp2_with (first
      | (go_at_call 12; (with_reducible refine (Hw2.out _).mono ?_); rintro e w1 ⟨rfl, hbel1⟩)
      | (go_at_call 13; (with_reducible refine (Hw.out _).mono ?_); rintro e w2 ⟨rfl, hbel2⟩)
      | (go_at_call 14; (with_reducible refine (Hk2.out _).mono ?_); rintro e w3 ⟨rfl, hbel3⟩)
      | (go_at_call 15; (with_reducible refine (Hk.out _).mono ?_); rintro e w4 ⟨rfl, hbel4⟩; have hB4 : Below w.heap.size w w4 := below_step (below_step (below_step hbel1 hbel2) hbel3) hbel4)
      | (go_at_call 7; (with_reducible refine (works_calls _ (HT.out _ hB4)).mono ?_); rintro e w5 ⟨rfl, hbel5⟩))
    go_ret
    exact ⟨rfl, hB4.trans (hbel5.mono hB4.size)⟩
end Go.Proofs.YtfnekpgbfdhnmaaDoor

namespace Go.Proofs.YtfnekpgbfdhnmaaDoor
open Go.ChangeShapes Go.WideShapes Go.ChangeAt Go.RowKit Go.Proofs.YtfnekpgbfdhnmaaDoorW.PrintWords Go.Proofs.YtfnekpgbfdhnmaaDoorW.PrintLast Go.Proofs.YtfnekpgbfdhnmaaDoorW.PrintMore Go.Proofs.YtfnekpgbfdhnmaaDoor.PAll
open Go.ChangeMaps (open_string shut_string)
set_option maxRecDepth 100000 in
theorem words_lifted (os : Os) (started : os.Started) (H : Type) (enc : TypeId × Value → H) :
    ReturnsInHanded {} Tryd.checked os 4 .any (fun w args => (Rows.valtextWordsSpec.pre enc Tryd.prog Tryd.f4 [] false w args ∧ laidMetH Tryd.prog laid3 w) ∧ sizedMet enc Tryd.prog Tryd.f4 (OpenSpec.ofChange Rows.valtextWordsSpec) false w args)
      (Rows.valtextWordsSpec.post enc Tryd.prog Tryd.f4 false true false false) := by
  refine returnsInHanded_of_change_and (C := Tryd.checked) (X := fun w _ => laidMetH Tryd.prog laid3 w) (fun _ _ _ hh h => h.of_heap hh) own started (by kernel_rfl) Tryd.func4
    (ChangeSpec.witness_shaped (enc := enc) (C := Tryd.checked) (os := os) (X := fun w _ => laidMetH Tryd.prog laid3 w) false (World.doorLaid Tryd.prog 24 os) #[.int .i64 0, .string ByteArray.empty] 8 rfl (World.shaped_of_RefB (by kernel_rfl) (by kernel_rfl)) (by kernel_rfl) (by kernel_rfl) (by kernel_rfl) (door_met os _)) ?_
  intro W base args ds gs before hval0 hW _ _ hL _
  have hval : ∀ (j : Nat) t v, Tryd.f4.params[j]? = some t → args[j]? = some v → Value.okWide Tryd.prog W .any base t v := hval0
  have hW' := hW
  obtain ⟨p, q, hA0, hV, rfl, hfz, hnd⟩ := hW
  have hA : DataW.TrodAll enc Tryd.prog W 0 (fun _ => true) true Tryd.f4.params.toList args.toList ds p := hA0
  rw [Tryd.params4] at hA hval
  obtain ⟨v0, v1, d0, d1, p0, p1, rfl, rfl, rfl, h0, h1⟩ := trodAll_two hA
  obtain ⟨rfl, rfl⟩ := trodVars_none hV
  obtain ⟨a0, rfl, rfl, rfl, w0⟩ := open_int Tryd.underlying3 (hval 0 3 v0 rfl rfl) h0
  obtain ⟨a1, rfl, rfl, rfl, y1⟩ := open_string Tryd.underlying9 (hval 1 9 v1 rfl rfl) h1
  clear hA0 hval0
  refine (words_walk a0 a1 W (tab_of_laid hL)).mono fun e W' ⟨he, bel⟩ => ?_
  subst he
  exact ⟨_, rfl, _, _, _, [], _, [], hW', trodAll_mk1 (shut_bool Tryd.underlying4 _), (trodAll_cons_mk (shut_int Tryd.underlying3 w0) (trodAll_cons_mk (shut_string Tryd.underlying9 y1) trodAll_mk0)), rfl, bel.frame _, fun h => by cases h⟩
theorem words_said : Rows.ValtextWordsSaid :=
  OpenClaim.holds_of_wide 4 Tryd.f4 rfl rfl rfl rfl rfl rfl rfl ⟨rfl, rfl, rfl, rfl, rfl⟩ rfl rfl rfl rfl rfl (by kernel_rfl) Tryd.func4 (by kernel_rfl)
    (of_decide_eq_true (by kernel_rfl)) (by unfold Func.isWrapper; first | (rw [if_pos (by decide +kernel)]; kernel_rfl) | (rw [if_neg (by decide +kernel)]; exact ⟨rfl, rfl⟩))
    (fun os started H enc _ => words_lifted os started H enc)
theorem ValtextWords_holds : Rows.ValtextWordsCardSaid :=
  Claim7.holds_tied_plain_at .later [] [.data, .data, .data] true (true, "6798a678d2991a77924bcd93963b12916f6b0937cf6ff59dcec2d0122b443322") true
    words_said (fun _ h => by cases h) (by kernel_rfl) (fun _ h => by cases h) valtextWords_row_tie rfl ⟨rfl, rfl⟩ (by kernel_rfl) rfl
    (fun f fn hf hfn => by
      obtain rfl : f = 4 := Option.some.inj ((show Tryd.prog.funcNamed "betrothal/betrothallaw05.ValtextWords" = some 4 by kernel_rfl).symm.trans hf) |>.symm
      obtain rfl : fn = Tryd.f4 := (Option.some.inj (Tryd.func4.symm.trans hfn)).symm
      exact ⟨by kernel_rfl, fun j t ht => by
        rw [Tryd.params4] at ht
        have hm : t ∈ [3, 9] := by simpa using Array.mem_of_getElem? ht
        have hall : ([3, 9].all fun u => !Tryd.prog.wantsStandIn u) = true := by kernel_rfl
        exact (show Tryd.prog.wantsStandIn t = false by simpa using List.all_eq_true.1 hall t hm)⟩)
    (by kernel_rfl)
#print axioms ValtextWords_holds
end Go.Proofs.YtfnekpgbfdhnmaaDoor
