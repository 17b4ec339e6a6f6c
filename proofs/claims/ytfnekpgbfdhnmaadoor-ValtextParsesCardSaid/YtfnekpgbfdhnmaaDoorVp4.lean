/- Part 5 of the proof: what is used of the words, contracts and walks (ValT to Works). -/
import Derived.Deep.DeepCutAuto
import Derived.Defers
import Derived.Recover
import Derived.Tactics
import Derived.Tactics2
import Derived.WalkMore
import Derived.Laws.Concat
import Derived.Lib.AppendIntMem
import Derived.OrdersIn
import Derived.Test.YtfnekpgbfdhnmaaDoorVp3
set_option linter.unusedVariables false
set_option linter.unusedSimpArgs false
namespace Go.Proofs.YtfnekpgbfdhnmaaDoor
open Go.RowKit Go.Proofs.YtfnekpgbfdhnmaaDoorW.PrintWords Go.Proofs.YtfnekpgbfdhnmaaDoorW.PrintLast Go.Proofs.YtfnekpgbfdhnmaaDoorW.PrintMore Go.Proofs.YtfnekpgbfdhnmaaDoor.PAll
set_option maxRecDepth 100000 in
set_option maxHeartbeats 4000000 in
theorem val_tail (fuel : Nat) (ih : ValSaid fuel) (r : Nat) (s : ByteArray) (at1 p k N g g6 g7 : Nat) (w wd : World) (X : Except Nat (Tree × Nat × Nat)) (hX : X = itemsBody fuel (bl s) k N at1 p) (hs : s.size ≤ maxLen) (hp : p < 256) (hf : 256 ≤ fuel + p) (hk13 : k ≤ 13)
    (hgr : g ≠ r) (hgr6 : g6 ≠ r) (hgg : g6 ≠ g) (hgr7 : g7 ≠ r) (hg7g : g7 ≠ g) (hg76 : g7 ≠ g6) (hge : w.heap.size ≤ g) (hge6 : w.heap.size ≤ g6) (hge7 : w.heap.size ≤ g7)
    (hR10 : RD wd r s at1 ((p : Int) + 1)) (hb10 : Blk wd g 26 val0) (hb106 : Blk wd g6 26 #[.int .i64 k, .int .i64 N, .slice none 0 0]) (hb7' : Blk wd g7 111 (needV k)) (hG10 : w.grownBy wd (some r)) (hle : at1 ≤ s.size)
    (u1 u2 u3 u5 u8 u9 u10 u11 u12 u13 u14 u15 u16 u17 u18 u19 u20 u21 u22 u23 u24 u25 u26 u27 u28 u29 u30 u31 u32 u33 u34 u35 u36 u37 u38 u39 u40 u41 u42 u43 u44 u45 u46 u47 u48 u49 u50 u51 u52 u53 u54 u55 u56 u57 u58 u59 u60 u61 u62 u63 u64 u65 u66 u67 u68 u69 u70 u71 u72 u73 u74 u75 u76 u77 u78 u79 u80 u81 u82 u83 u84 u85 u86 u87 u88 u89 u90 u91 u92 u93 u94 u95 u96 u97 u98 u99 u100 u101 u102 u103 u104 u105 u106 u107 u108 u109 u110 u111 u112 u113 u114 u115 u116 u117 u118 u119 u120 u121 u122 u123 u124 u125 u126 u127 u128 u129 u130 u131 u132 u133 u134 u135 u136 u137 u138 u139 u140 u141 u142 u143 u144 u145 u146 u147 u148 u149 u150 u151 u152 u153 u154 u155 u156 u157 u158 u159 u160 u161 u162 u163 u164 u165 u166 u167 u168 u169 u170 u171 u172 u173 : Value) :
    valTail.wp Tryd.prog (bodyPost Tryd.prog Tryd.f26 (ValPost w r s X)) { tmps := #[.pointer (some ⟨r, 0, none⟩), u1, u2, u3, .pointer (some ⟨g, 0, none⟩), u5, .pointer (some ⟨g6, 0, none⟩), .pointer (some ⟨g7, 0, none⟩), u8, u9, u10, u11, u12, u13, u14, u15, u16, u17, u18, u19, u20, u21, u22, u23, u24, u25, u26, u27, u28, u29, u30, u31, u32, u33, u34, u35, u36, u37, u38, u39, u40, u41, u42, u43, u44, u45, u46, u47, u48, u49, u50, u51, u52, u53, u54, u55, u56, u57, u58, u59, u60, u61, u62, u63, u64, u65, u66, u67, u68, u69, u70, u71, u72, u73, u74, u75, u76, u77, u78, u79, u80, u81, u82, u83, u84, u85, u86, u87, u88, u89, u90, u91, u92, u93, u94, u95, u96, u97, u98, u99, u100, u101, u102, u103, u104, u105, u106, u107, u108, u109, u110, u111, u112, u113, u114, u115, u116, u117, u118, u119, u120, u121, u122, u123, u124, u125, u126, u127, u128, u129, u130, u131, u132, u133, u134, u135, u136, u137, u138, u139, u140, u141, u142, u143, u144, u145, u146, u147, u148, u149, u150, u151, u152, u153, u154, u155, u156, u157, u158, u159, u160, u161, u162, u163, u164, u165, u166, u167, u168, u169, u170, u171, u172, u173], defers := [] } wd := by
  have HX := Lib.hid hX
  clear hX
  conv in valTail => unfold valTail; simp only [Tryd.f26, Option.getD, rightN]
  go_wp2_with fail
  go_loopw [113] (fun _ wr => ∃ (got : List Tree) (at2 parts : Nat) (A : Option Addr) (c : Nat), RD wr r s at2 parts ∧ TI w r k N g g6 g7 got A c wr ∧ got.length ≤ (needF k).2.1 ∧ at2 ≤ s.size ∧ parts ≤ 256 ∧ p + 1 ≤ parts ∧
      itemsGo (valueF fuel (bl s)) (bl s) (countedB k) (needF k).1 (needF k).2.2.1 (needF k).2.2.2 (needF k).2.1 [] at1 (p + 1) = itemsGo (valueF fuel (bl s)) (bl s) (countedB k) (needF k).1 (needF k).2.2.1 (needF k).2.2.2 ((needF k).2.1 - got.length) got at2 parts)
    (fun _ wr => (needF k).2.1 - lenAt wr g6)
  case atStart => exact ⟨[], at1, p + 1, none, 0, hR10, ⟨hb10, hb106, Kd.R_nil _ _ _ _ _, hb7', hG10⟩, by simp, by omega, by omega, by omega, rfl⟩
  case round =>
    obtain ⟨got, at2, parts, A, cap, hRr, hTr, hgl, hat2, hparts, hparts1, hitems⟩ := hrel
    have hb6r := hTr.2.1
    obtain ⟨go, hgo⟩ : ∃ b, (decide (got.length < (needF k).2.1) && (decide (got.length < (needF k).1) || !decide ((bl s)[at2]? = some 41))) = b := ⟨_, rfl⟩
    have Hit := Lib.hid hitems
    have Hgo := Lib.hid hgo
    clear hitems hgo
    go_upto_region 18 with (fail)
    go_cut [134] (fun s134 wc => s134 = .bool go ∧ RD wc r s at2 parts ∧ TI w r k N g g6 g7 got A cap wc)
    case first =>
      --DEV{
      have l0 : wr.cell? ⟨g7, 0, none⟩ = some (.int .i64 ((needF k).1 : Nat)) := hTr.2.2.2.1.cell 0
      have l1 : wr.cell? ⟨g7, 1, none⟩ = some (.int .i64 ((needF k).2.1 : Nat)) := hTr.2.2.2.1.cell 1
      have x2 : wr.cell? ⟨g6, 2, none⟩ = some (.slice A got.length cap) := hTr.2.1.cell 2
      have hgo := Hgo.out
      by_cases hlt : got.length < (needF k).2.1
      · have hm1 : decide (got.length < (needF k).2.1) = true := by simpa using hlt
        rw [hm1, Bool.true_and] at hgo
        by_cases hle : got.length < (needF k).1
        · have hm0 : decide (got.length < (needF k).1) = true := by simpa using hle
          rw [hm0, Bool.true_or] at hgo
          subst hgo
          clear Hgo Hit hle hlt hgl
          generalize (needF k).2.1 = most at l1 hm1
          generalize (needF k).1 = least at l0 hm0
          go_wp2_with fail
          go_meet
          exact ⟨rfl, hRr, hTr⟩
        · have hm0 : decide (got.length < (needF k).1) = false := by simpa using hle
          rw [hm0, Bool.false_or] at hgo
          obtain ⟨b41, hb41⟩ : ∃ b, decide ((bl s)[at2]? = some 41) = b := ⟨_, rfl⟩
          rw [hb41] at hgo
          subst hgo
          have Hb41 := Lib.hid hb41
          clear Hgo Hit hle hlt hgl hb41
          generalize (needF k).2.1 = most at l1 hm1
          generalize (needF k).1 = least at l0 hm0
          cases b41
          all_goals
            go_wp2_with (first
              | (go_at_call 29; (with_reducible refine (here_calls hRr hat2).mono ?_); rintro e w' ⟨rfl, q8, rfl⟩)
              | (go_at_call 51; (with_reducible refine (prefix_calls s at2 41 _).mono ?_); rintro e w' ⟨rfl, q9, rfl⟩; rw [Hb41.out]))
            go_meet
            exact ⟨rfl, hRr.dr _, hTr.dr _⟩
      · have hm1 : decide (got.length < (needF k).2.1) = false := by simpa using hlt
        rw [hm1, Bool.false_and] at hgo
        subst hgo
        clear Hgo Hit l0 hlt hgl
        generalize (needF k).2.1 = most at l1 hm1
        go_wp2_with fail
        go_meet
        exact ⟨rfl, hRr, hTr⟩
      --DEV}
    case rest =>
      obtain ⟨rfl, hRc, hTc⟩ := hcut
      clear hRr hTr
      cases go with
      | false =>
        have hI : itemsGo (valueF fuel (bl s)) (bl s) (countedB k) (needF k).1 (needF k).2.2.1 (needF k).2.2.2 (needF k).2.1 [] at1 (p + 1) = .ok (got, at2, parts) := by
          rw [Hit.out]
          have hgo := Hgo.out
          by_cases hlt : got.length < (needF k).2.1
          · obtain ⟨left, hleft⟩ : ∃ left, (needF k).2.1 - got.length = left + 1 := ⟨(needF k).2.1 - got.length - 1, by omega⟩
            rw [hleft, itemsGo, if_pos]
            simp [hlt] at hgo
            exact ⟨by omega, hgo.2⟩
          · rw [show (needF k).2.1 - got.length = 0 by omega, itemsGo]
        have HI := Lib.hid hI
        clear hI Hit Hgo
        by_cases h41 : (bl s)[at2]? = some 41
        ·
          --DEV{
          have hle41 : at2 + 1 ≤ s.size := by have := (List.getElem?_eq_some_iff.1 h41).1; rw [bl_length] at this; exact this
          have hq : ∀ W, Kd.R k26 26 W w.heap.size (fun _ => True) (.slice A got.length cap) got → RD W r s (at2 + 1 : Nat) parts → w.grownBy W (some r) → ValPost w r s X (.returned (.agg #[.int .i64 k, .int .i64 N, .slice A got.length cap])) W := fun W h0 h1 h2 => by
            rw [HX.out]; simp only [itemsBody, HI.out, h41, if_true]
            exact ⟨⟨_, rfl, h0⟩, h1, h2, hle41, hparts⟩
          have H41 := Lib.hid h41
          clear h41 HI
          go_wp2_with (first
            | (go_at_call 50; (with_reducible refine (starts_one 41 (hRc.dr _) hat2 hs H41.out).mono ?_); rintro e w7 ⟨rfl, hR7, hg7'⟩; have hT7 := TI.grown (hTc.dr _) (hRc.dr _) hg7' hgr hgr6 hgr7; have y0 : w7.cell? ⟨g6, 0, none⟩ = some (.int .i64 k) := Blk.cell hT7.2.1 0; have y1 : w7.cell? ⟨g6, 1, none⟩ = some (.int .i64 N) := Blk.cell hT7.2.1 1; have y2 : w7.cell? ⟨g6, 2, none⟩ = some (.slice A got.length cap) := Blk.cell hT7.2.1 2)
            | (go_at_call 50; (with_reducible refine (starts_one 41 hRc hat2 hs H41.out).mono ?_); rintro e w7 ⟨rfl, hR7, hg7'⟩; have hT7 := TI.grown hTc hRc hg7' hgr hgr6 hgr7; have y0 : w7.cell? ⟨g6, 0, none⟩ = some (.int .i64 k) := Blk.cell hT7.2.1 0; have y1 : w7.cell? ⟨g6, 1, none⟩ = some (.int .i64 N) := Blk.cell hT7.2.1 1; have y2 : w7.cell? ⟨g6, 2, none⟩ = some (.slice A got.length cap) := Blk.cell hT7.2.1 2)
            | (go_at_call 28; (with_reducible refine (must_ok _ _).mono ?_); rintro e w' ⟨rfl, rfl⟩)
            | ((with_reducible refine gate_store (t := 26) (p := 4) rfl ?_); refine store_row_event rfl rfl rfl rfl hT7.1 (by kernel_rfl) rfl (by kernel_rfl) ?_; intro w8 hb8 hg8))
          have hRv := Kd.R_grown hT7.2.2.1 hg8 (fun q hq => by simpa using hq.1)
          refine bodyPost_ret (results_cell_row rfl _ _ g 26 #[.int .i64 k, .int .i64 N, .slice A got.length cap] (0, 0) _ rfl hb8 Tryd.underlying26 rfl (by kernel_rfl)) rfl (hq _ (Kd.R_mono hRv (fun _ _ => trivial)) (blk_grown hR7 hg8 (by simpa using hgr.symm)) (hT7.2.2.2.2.andThen hg8 (fun j hj => .inl (by cases hj; exact hge))))
          --DEV}
        ·
          --DEV{
          have hq : ∀ W, RD W r s at2 parts → w.grownBy W (some r) → ValPost w r s X (.panicked (wrongAt at2)) W := fun W h1 h2 => by
            rw [HX.out]; simp only [itemsBody, HI.out, h41, if_false]
            exact ⟨rfl, ⟨_, h1⟩, h2⟩
          have H41 := Lib.hid h41
          clear h41 HI
          go_wp2_with (first
            | (go_at_call 50; (with_reducible refine (starts_none 41 hRc hat2 H41.out).mono ?_); rintro e w7 ⟨rfl, q7, rfl⟩)
            | (go_at_call 28; (with_reducible refine (must_bad (hRc.dr _)).mono ?_); rintro e w' ⟨rfl, rfl⟩))
          exact ⟨rfl, hq _ (hRc.dr _) (grownBy_drewN hTc.2.2.2.2 _)⟩
          --DEV}
      | true =>
        have hgo := Hgo.out
        simp at hgo
        obtain ⟨hlt, hgo⟩ := hgo
        have h1 : ¬ (¬ got.length < (needF k).1 ∧ (bl s)[at2]? = some 41) := by
          rintro ⟨ha, hb⟩
          rcases hgo with hgo | hgo
          · exact ha hgo
          · exact hgo hb
        have H1 := Lib.hid h1
        have x2 : wc.cell? ⟨g6, 2, none⟩ = some (.slice A got.length cap) := hTc.2.1.cell 2
        have x0 : wc.cell? ⟨g6, 0, none⟩ = some (.int .i64 k) := hTc.2.1.cell 0
        obtain ⟨left, hleft⟩ : ∃ left, (needF k).2.1 - got.length = left + 1 := ⟨(needF k).2.1 - got.length - 1, by omega⟩
        clear h1 hgo Hgo
        have hlen2 : (got.length : Int) ≤ 15 := by have := needF_most k; omega
        obtain ⟨at3, hat3⟩ : ∃ e, (if got.length = 0 ∧ countedB k = false then .ok at2 else if (bl s)[at2]? = some 44 then .ok (at2 + 1) else .error at2 : Except Nat Nat) = e := ⟨_, rfl⟩
        cases at3 with
        | error e0 =>
          --DEV{
          have h0 : ¬ (got.length = 0 ∧ countedB k = false) := by intro h; rw [if_pos h] at hat3; cases hat3
          rw [if_neg h0] at hat3
          have h44 : ¬ (bl s)[at2]? = some 44 := by intro h; rw [if_pos h] at hat3; cases hat3
          have hq : ∀ W, RD W r s at2 parts → w.grownBy W (some r) → ValPost w r s X (.panicked (wrongAt at2)) W := fun W h3 h4 => by
            rw [HX.out, itemsBody, Hit.out, hleft, itemsGo, if_neg H1.out, if_neg h0, if_neg h44]
            exact ⟨rfl, ⟨_, h3⟩, h4⟩
          have H44 := Lib.hid h44
          clear h44 hat3 Hit
          by_cases hz : got.length = 0
          · have hcb : countedB k = true := by cases hc : countedB k with | true => rfl | false => exact absurd ⟨hz, hc⟩ h0
            have hz1 : ((got.length : Int) == 0) = true := by simp [hz]
            have Hcb := Lib.hid hcb
            clear hz hcb h0 hlt hleft
            go_wp2_with (first
              | (go_at_call 53; (with_reducible refine (counted_calls k _).mono ?_); rintro e w' ⟨rfl, rfl⟩; rw [Hcb.out])
              | (go_at_call 50; (with_reducible refine (starts_none 44 hRc hat2 H44.out).mono ?_); rintro e w7 ⟨rfl, q7, rfl⟩)
              | (go_at_call 28; (with_reducible refine (must_bad (hRc.dr _)).mono ?_); rintro e w' ⟨rfl, rfl⟩))
            exact ⟨rfl, hq _ (hRc.dr _) (grownBy_drewN hTc.2.2.2.2 _)⟩
          · have hz1 : ((got.length : Int) == 0) = false := by simp [hz]
            clear h0 hlt hleft
            go_wp2_with (first
              | (go_at_call 50; (with_reducible refine (starts_none 44 hRc hat2 H44.out).mono ?_); rintro e w7 ⟨rfl, q7, rfl⟩)
              | (go_at_call 28; (with_reducible refine (must_bad (hRc.dr _)).mono ?_); rintro e w' ⟨rfl, rfl⟩))
            all_goals exact ⟨rfl, hq _ (hRc.dr _) (grownBy_drewN hTc.2.2.2.2 _)⟩
          --DEV}
        | ok at3 =>
          have Hat3 := Lib.hid hat3
          go_upto_region 19 with (fail)
          go_cut [152] (fun _ wb => RD wb r s at3 parts ∧ TI w r k N g g6 g7 got A cap wb ∧ at3 ≤ s.size)
          case first =>
            --DEV{
            clear Hit hleft hlt hlen2
            by_cases h0 : got.length = 0 ∧ countedB k = false
            · rw [if_pos h0] at hat3
              injection hat3 with hat3
              subst hat3
              obtain ⟨hz, hcb⟩ := h0
              have hz1 : ((got.length : Int) == 0) = true := by simp [hz]
              have Hcb := Lib.hid hcb
              clear hz hcb
              go_wp2_with (first
                | (go_at_call 53; (with_reducible refine (counted_calls k _).mono ?_); rintro e w' ⟨rfl, rfl⟩; rw [Hcb.out])
                | (go_at_call 28; (with_reducible refine (must_ok _ _).mono ?_); rintro e w' ⟨rfl, rfl⟩))
              go_meet
              exact ⟨hRc, hTc, hat2⟩
            · rw [if_neg h0] at hat3
              have h44 : (bl s)[at2]? = some 44 := by
                by_cases h : (bl s)[at2]? = some 44
                · exact h
                · rw [if_neg h] at hat3; cases hat3
              rw [if_pos h44] at hat3
              injection hat3 with hat3
              subst hat3
              have hle44 : at2 + 1 ≤ s.size := by have := (List.getElem?_eq_some_iff.1 h44).1; rw [bl_length] at this; exact this
              have H44 := Lib.hid h44
              clear h44
              by_cases hz : got.length = 0
              · have hcb : countedB k = true := by cases hc : countedB k with | true => rfl | false => exact absurd ⟨hz, hc⟩ h0
                have hz1 : ((got.length : Int) == 0) = true := by simp [hz]
                have Hcb := Lib.hid hcb
                clear hz hcb h0
                go_wp2_with (first
                  | (go_at_call 53; (with_reducible refine (counted_calls k _).mono ?_); rintro e w' ⟨rfl, rfl⟩; rw [Hcb.out])
                  | (go_at_call 50; (with_reducible refine (starts_one 44 hRc hat2 hs H44.out).mono ?_); rintro e w7 ⟨rfl, hR7, hg7'⟩; have hT7 := TI.grown hTc hRc hg7' hgr hgr6 hgr7)
                  | (go_at_call 28; (with_reducible refine (must_ok _ _).mono ?_); rintro e w' ⟨rfl, rfl⟩))
                go_meet
                exact ⟨hR7, hT7, hle44⟩
              · have hz1 : ((got.length : Int) == 0) = false := by simp [hz]
                clear h0
                go_wp2_with (first
                  | (go_at_call 50; (with_reducible refine (starts_one 44 hRc hat2 hs H44.out).mono ?_); rintro e w7 ⟨rfl, hR7, hg7'⟩; have hT7 := TI.grown hTc hRc hg7' hgr hgr6 hgr7)
                  | (go_at_call 28; (with_reducible refine (must_ok _ _).mono ?_); rintro e w' ⟨rfl, rfl⟩))
                go_meet
                exact ⟨hR7, hT7, hle44⟩
            --DEV}
          case rest =>
            obtain ⟨hRb, hTb, hle3⟩ := hcut
            clear hRc hTc hat3 x0 x2
            go_upto_region 20 with (fail)
            have hM : ∀ {W : World}, Blk W g7 111 (needV k) → W.cell? ⟨g7, if got.length = 0 then 2 else 3, none⟩ = some (mayV (nextM k got.length)) := fun h => nextM_cell h hlt
            obtain ⟨hbT, hb6T, hKT, hb7T, hGT⟩ := hTb
            obtain ⟨J, hJ⟩ : ∃ J, (if got.length = 0 then 0 else 1) = J := ⟨_, rfl⟩
            have hJ2 : J = 0 ∧ got.length = 0 ∨ J = 1 ∧ 1 ≤ got.length := by split at hJ <;> omega
            rw [show (if got.length = 0 then 2 else 3) = 2 + J by split at hJ <;> simp_all <;> omega] at hM
            refine draw_begin (fun w' => Blk w' g6 26 #[.int .i64 k, .int .i64 N, .slice A got.length cap] ∧ Blk w' g7 111 (needV k)) (fun j => j == 14) (by kernel_rfl) (n := 15) rfl rfl ?_
            intro W _hWh hWg
            clear _hWh
            have hRW : RD W r s at3 parts := blk_grown hRb hWg (by simp)
            have hS0 : Blk W g6 26 #[.int .i64 k, .int .i64 N, .slice A got.length cap] ∧ Blk W g7 111 (needV k) := ⟨blk_grown hb6T hWg (by simp), blk_grown hb7T hWg (by simp)⟩
            refine draw_take (i := 0) (v := .pointer (some ⟨g6, 2, none⟩)) rfl (by kernel_rfl) (by kernel_rfl) (by kernel_rfl) rfl (by kernel_rfl) (fun _ _ _ h => h) (.inl ⟨rfl, fun W' hS => ?_⟩) hS0 ?_
            · go_simp
            refine draw_take (i := 1) (v := .slice A got.length cap) rfl (by kernel_rfl) (by kernel_rfl) (by kernel_rfl) rfl (by kernel_rfl) (fun _ _ _ h => h) (.inl ⟨rfl, fun W' hS => ?_⟩) hS0 ?_
            · have e0 : W'.cell? ⟨g6, 2, none⟩ = some (.slice A got.length cap) := Blk.cell hS.1 2
              go_simp
            refine draw_take (i := 2) (v := .pointer (some ⟨r, 0, none⟩)) rfl (by kernel_rfl) (by kernel_rfl) (by kernel_rfl) rfl (by kernel_rfl) (fun _ _ _ h => h) (.inl ⟨rfl, fun W' hS => ?_⟩) hS0 ?_
            · go_simp
            refine draw_take (i := 3) (v := .pointer (some ⟨g6, 2, none⟩)) rfl (by kernel_rfl) (by kernel_rfl) (by kernel_rfl) rfl (by kernel_rfl) (fun _ _ _ h => h) (.inl ⟨rfl, fun W' hS => ?_⟩) hS0 ?_
            · go_simp
            refine draw_take (i := 4) (v := .slice A got.length cap) rfl (by kernel_rfl) (by kernel_rfl) (by kernel_rfl) rfl (by kernel_rfl) (fun _ _ _ h => h) (.inl ⟨rfl, fun W' hS => ?_⟩) hS0 ?_
            · have e0 : W'.cell? ⟨g6, 2, none⟩ = some (.slice A got.length cap) := Blk.cell hS.1 2
              go_simp
            refine draw_take (i := 5) (v := .int .i64 got.length) rfl (by kernel_rfl) (by kernel_rfl) (by kernel_rfl) rfl (by kernel_rfl) (fun _ _ _ h => h) (.inl ⟨rfl, fun W' hS => ?_⟩) hS0 ?_
            · go_simp
            refine draw_take (i := 6) (v := .int .i64 J) rfl (by kernel_rfl) (by kernel_rfl) (by kernel_rfl) rfl (by kernel_rfl) (fun _ _ _ h => h) (.inl ⟨rfl, fun W' hS => ?_⟩) hS0 ?_
            · go_simp
              first | (split <;> omega) | omega
            refine draw_take (i := 7) (v := .pointer (some ⟨g7, 2, none⟩)) rfl (by kernel_rfl) (by kernel_rfl) (by kernel_rfl) rfl (by kernel_rfl) (fun _ _ _ h => h) (.inl ⟨rfl, fun W' hS => ?_⟩) hS0 ?_
            · go_simp
            refine draw_take (i := 8) (v := .pointer (some ⟨g7, 2 + J, none⟩)) rfl (by kernel_rfl) (by kernel_rfl) (by kernel_rfl) rfl (by kernel_rfl) (fun _ _ _ h => h) (.inl ⟨rfl, fun W' hS => ?_⟩) hS0 ?_
            · rcases hJ2 with ⟨rfl, _⟩ | ⟨rfl, _⟩ <;> go_simp
            refine draw_take (i := 9) (v := mayV (nextM k got.length)) rfl (by kernel_rfl) (by kernel_rfl) (by kernel_rfl) rfl (by kernel_rfl) (fun _ _ _ h => h) (.inl ⟨rfl, fun W' hS => ?_⟩) hS0 ?_
            · have e0 := hM hS.2
              go_simp
            refine draw_one (i := 10) (by kernel_rfl) rfl ?_
            have hcall := ih (nextM k got.length) r s at3 parts W (nextM_le _ _) hRW hle3 hs hparts (by omega)
            cases hv : valueF fuel (bl s) (nextM k got.length) at3 parts with
            | error e1 =>
              rw [hv] at hcall
              have hIe := items_bad (val := valueF fuel (bl s)) (m0 := (needF k).2.2.1) (m1 := (needF k).2.2.2) (left := left) H1.out Hat3.out hv
              have hq : ∀ W' (q : Int), RD W' r s e1 q → w.grownBy W' (some r) → ValPost w r s X (.panicked (wrongAt e1)) W' := fun W' q h3 h4 => by
                rw [HX.out, itemsBody, Hit.out, hleft, hIe]
                exact ⟨rfl, ⟨_, h3⟩, h4⟩
              refine op_call (f := 26) (args := #[.pointer (some ⟨r, 0, none⟩), mayV (nextM k got.length)]) rfl rfl (by go_simp) hcall (fun v wn hc => by cases hc.1) (fun c wn hc => ?_) (fun wn hc => by cases hc.1)
              obtain ⟨hce, ⟨q, hRq⟩, hgq⟩ := hc
              injection hce with hce
              subst hce
              exact ⟨rfl, hq _ _ hRq ((hGT.andThen hWg (fun j hj => by cases hj)).andThen hgq (fun j hj => .inr hj))⟩
            | ok x =>
              obtain ⟨t, at4, parts4⟩ := x
              rw [hv] at hcall
              refine op_call (f := 26) (args := #[.pointer (some ⟨r, 0, none⟩), mayV (nextM k got.length)]) rfl rfl (by go_simp) hcall (fun v wn hc => ?_) (fun c wn hc => by cases hc.1.choose_spec.1) (fun wn hc => by cases hc.1.choose_spec.1)
              obtain ⟨⟨v2, hve, hKv⟩, hRn, hgn, hle4, hp4⟩ := hc
              injection hve with hve
              subst hve
              have hSn : Blk wn g6 26 #[.int .i64 k, .int .i64 N, .slice A got.length cap] ∧ Blk wn g7 111 (needV k) := ⟨blk_grown hS0.1 hgn (by simpa using hgr6), blk_grown hS0.2 hgn (by simpa using hgr7)⟩
              refine ⟨fun _ => hSn, ?_⟩
              refine draw_one (i := 11) (by kernel_rfl) rfl ?_
              obtain ⟨A2, c2, rfl⟩ := Kd.R_slice hKv
              refine op_value (v := .slice (some ⟨wn.heap.size, 0, none⟩) 1 1) (w1 := wn.alloc (.cells [.int .i64 t.f0, .int .i64 t.f1, .slice A2 t.f2.length c2].toArray 26)) rfl rfl (by kernel_rfl) ⟨fun _ => ⟨blk_alloc hSn.1 _, blk_alloc hSn.2 _⟩, ?_⟩
              refine draw_one (i := 12) (by kernel_rfl) rfl ?_
              have hKb := Kd.R_lower (Kd.R_bound hKv) (show w.heap.size ≤ W.heap.size from (hGT.andThen hWg (fun j hj => by cases hj)).size)
              have hKn : Kd.R k26 26 wn w.heap.size (fun q => q ≠ g ∧ q ≠ g6) (.slice A got.length cap) got := kd_keep (Kd.R_grown hKT hWg (by simp)) hgn hRW (val_ne _ (by decide))
              have hsz1 := hgn.size
              have hsz0 := hWg.size
              have hbg6 := hb6T.lt
              have hbg := hbT.lt
              have hown : ∀ q, (Value.slice A got.length cap).ownBlock = some q → q < W.heap.size := fun q hq => by have := Kd.R_lt hKT q hq; omega
              have hne65 : some r ≠ (Value.slice A got.length cap).ownBlock := Kd.R_ne hKn hRn (by decide)
              have hneg7 : some g7 ≠ (Value.slice A got.length cap).ownBlock := Kd.R_ne hKn hSn.2 (by decide)
              have hokn := hKn.1
              have hMt := k26_mkM wn w.heap.size _ t hKb
              have hb0 : w.heap.size ≤ wn.heap.size := by have := (hGT.andThen hWg (fun j hj => by cases hj)).size; omega
              have hl16 : (got.length + 1) * 40 ≤ 140737488355328 := by have := needF_most k; omega
              refine op_step rfl ?_
              refine Kd.R_append_step k26 (w0 := wn) (W := wn) w.heap.size ?w0 (.tmp 154) (.tmp 164) 24 26 (.agg #[(.int .i64 0), (.int .i64 0), (.slice none 0 0)]) 40 ?w1 ?w2 info26 rfl (by decide) (by omega)
                (.slice A got.length cap) got t [.int .i64 t.f0, .int .i64 t.f1, .slice A2 t.f2.length c2] (fun q => q ≠ g ∧ q ≠ g6) _ ?w3 ?w4 hMt ?w5 ?w6 hKn (Below.refl _ _) hb0 hl16 ?w7
              case w0 => rfl
              case w1 => rfl
              case w2 => kernel_rfl
              case w3 => go_simp
              case w4 => go_simp
              case w5 => exact (fun q hq => ⟨⟨by have := hq.2.1; omega, by have := hq.2.1; omega⟩, fun e => by have := hown q e.symm; have := hq.2.1; omega⟩)
              case w6 => exact (fun q hq => ⟨by omega, by omega⟩)
              intro v1 w1 hK1 _ hg1 hat1
              have hlen : (got ++ [t]).length = got.length + 1 := by simp
              obtain ⟨A1, c1, hv1⟩ := Kd.R_slice hK1
              rw [hlen] at hv1
              subst hv1
              have hg6n : some g6 ≠ (Value.slice A got.length cap).ownBlock := fun e => (hokn g6 e.symm).2 rfl
              have hgn' : some g ≠ (Value.slice A got.length cap).ownBlock := fun e => (hokn g e.symm).1 rfl
              have hS1 : Blk w1 g6 26 #[.int .i64 k, .int .i64 N, .slice A got.length cap] ∧ Blk w1 g7 111 (needV k) := ⟨blk_grown hSn.1 hg1 hg6n, blk_grown hSn.2 hg1 hneg7⟩
              refine ⟨fun _ => hS1, ?_⟩
              refine draw_one (i := 13) (by kernel_rfl) rfl ?_
              refine op_value (v := .pointer (some ⟨g6, 2, none⟩)) (w1 := w1) rfl rfl (by kernel_rfl) ⟨fun _ => hS1, ?_⟩
              refine draw_one (i := 14) (by kernel_rfl) rfl ?_
              refine op_skip rfl rfl (run_store_cell (cells := #[.int .i64 k, .int .i64 N, .slice A got.length cap]) (old := .slice A got.length cap) (v := .slice A1 (got.length + 1) c1) (g := g6) (i := 2) rfl (by kernel_rfl) hS1.1 rfl (by kernel_rfl) rfl) ⟨fun h => (by cases h), ?_⟩
              refine draw_done (by kernel_rfl) ?_
              have hb6z : Blk (w1.setCell ⟨g6, 2, none⟩ (.slice A1 (got.length + 1) c1)) g6 26 #[.int .i64 k, .int .i64 N, .slice A1 (got.length + 1) c1] := blk_put hS1.1 2 _ (by simp)
              have hgz : w1.grownBy (w1.setCell ⟨g6, 2, none⟩ (.slice A1 (got.length + 1) c1)) (some g6) := grownBy_set (World.grownBy.refl _ _) _ _
              have hGn : w.grownBy wn (some r) := (hGT.andThen hWg (fun j hj => by cases hj)).andThen hgn (fun j hj => .inr hj)
              have hG1 : w.grownBy w1 (some r) := hGn.andThen hg1 (fun j hj => .inl (Kd.R_base hKn j hj))
              have hTz : TI w r k N g g6 g7 (got ++ [t]) A1 c1 (w1.setCell ⟨g6, 2, none⟩ (.slice A1 (got.length + 1) c1)) := by
                refine ⟨blk_grown (blk_grown (blk_grown (blk_grown hbT hWg (by simp)) hgn (by simpa using hgr)) hg1 hgn') hgz (by simpa using hgg.symm), ?_, ?_, blk_grown hS1.2 hgz (by simpa using hg76), hG1.andThen hgz (fun j hj => .inl (by cases hj; exact hge6))⟩
                · rw [hlen]; exact hb6z
                · rw [hlen]; exact Kd.R_grown hK1 hgz (fun q hq => by simpa using hq.2)
              have hRz : RD (w1.setCell ⟨g6, 2, none⟩ (.slice A1 (got.length + 1) c1)) r s at4 parts4 := blk_grown (blk_grown hRn hg1 hne65) hgz (by simpa using hgr6.symm)
              have hst := items_step (val := valueF fuel (bl s)) (m0 := (needF k).2.2.1) (m1 := (needF k).2.2.2) (left := left) H1.out Hat3.out hv
              have hIt : itemsGo (valueF fuel (bl s)) (bl s) (countedB k) (needF k).1 (needF k).2.2.1 (needF k).2.2.2 (needF k).2.1 [] at1 (p + 1) = itemsGo (valueF fuel (bl s)) (bl s) (countedB k) (needF k).1 (needF k).2.2.1 (needF k).2.2.2 ((needF k).2.1 - (got ++ [t]).length) (got ++ [t]) at4 parts4 := by
                rw [Hit.out, hleft, hst, hlen, show (needF k).2.1 - (got.length + 1) = left by omega]
              have hp45 : parts ≤ parts4 := valueF_parts hv
              have HIt := Lib.hid hIt
              have hla : lenAt (w1.setCell ⟨g6, 2, none⟩ (.slice A1 (got.length + 1) c1)) g6 = got.length + 1 := lenAt_of hb6z
              have Hla := Lib.hid hla
              clear hIt hst hv hla hlen hb6z hgz hK1 hS1 hSn hcall hg1 hat1
              generalize (w1.setCell ⟨g6, 2, none⟩ (.slice A1 (got.length + 1) c1)) = Wz at hTz hRz Hla ⊢
              go_simp
              go_wp2_with fail
              go_roundw
              case rel => exact ⟨got ++ [t], at4, parts4, A1, c1, hRz, hTz, by simp; omega, hle4, hp4, by omega, HIt.out⟩
              case measure =>
                have hla0 : lenAt wr g6 = got.length := lenAt_of hb6r
                rw [Hla.out, hla0]
                omega
end Go.Proofs.YtfnekpgbfdhnmaaDoor

namespace Go.Proofs.YtfnekpgbfdhnmaaDoor
open Go.RowKit Go.Proofs.YtfnekpgbfdhnmaaDoorW.PrintWords Go.Proofs.YtfnekpgbfdhnmaaDoorW.PrintLast Go.Proofs.YtfnekpgbfdhnmaaDoorW.PrintMore Go.Proofs.YtfnekpgbfdhnmaaDoor.PAll
theorem numOf_most {l : List UInt8} {k a n a' : Nat} (h : numOf l k a = .ok (n, a')) : n ≤ 9223372036854775807 := by
  unfold numOf at h
  split at h
  · exact numF_most h
  · split at h
    · have := numF_most h; omega
    · simp only [Except.ok.injEq, Prod.mk.injEq] at h; omega
theorem numOf_le {l : List UInt8} {k a n a' : Nat} (h : numOf l k a = .ok (n, a')) : a' ≤ a + (l.length - a) := by
  unfold numOf at h
  split at h
  · exact (numF_le h).1
  · split at h
    · exact (numF_le h).1
    · simp only [Except.ok.injEq, Prod.mk.injEq] at h; omega
/-- What stands behind a Kind's word. -/
def valBody (fuel : Nat) (l : List UInt8) (at_ parts k d : Nat) : Except Nat (Tree × Nat × Nat) :=
  if k = 1 ∨ k = 8 then .ok (⟨k, 0, []⟩, at_ + d, parts + 1)
  else if l[at_ + d]? = some 40 then
    match numOf l k (at_ + d + 1) with
    | .error e => .error e
    | .ok (n, at1) =>
      match itemsGo (valueF fuel l) l (countedB k) (needF k).1 (needF k).2.2.1 (needF k).2.2.2 (needF k).2.1 [] at1 (parts + 1) with
      | .error e => .error e
      | .ok (got, at2, parts2) => if l[at2]? = some 41 then .ok (⟨k, n, got⟩, at2 + 1, parts2) else .error at2
  else .error (at_ + d)
set_option maxRecDepth 100000 in
set_option maxHeartbeats 4000000 in
theorem val_word (fuel : Nat) (ih : ValSaid fuel) (m r : Nat) (s : ByteArray) (n p : Nat) (w : World) (hR : RD w r s n p) (hn : n < s.size) (hs : s.size ≤ maxLen) (hp : p < 256) (hf : 256 ≤ fuel + p) (c : UInt8) (hc : (bl s)[n]? = some c)
    (h1 : ¬ (m = 0 ∧ 48 ≤ c.toNat ∧ c.toNat ≤ 57)) (h2 : ¬ (m = 0 ∧ c = 45)) : Calls Tryd.prog 26 #[.pointer (some ⟨r, 0, none⟩), mayV m] w (ValPost w r s (valueF (fuel + 1) (bl s) m n p)) := by
  have hb0 : (s.extract n s.size).toList.isEmpty = false := here_some hR.lt hn
  have hs' := hs
  unfold maxLen at hs'
  have hpb : decide ((p : Int) < 256) = true := by simp; omega
  have hix := fun W => index_str0 (P := Tryd.prog) (T := 9) Tryd.underlying9 (s := s.extract n s.size) (c := c) (by rw [bl_extract_at]; exact hc) W
  have hno : m = 0 → ¬ (bl s)[n]? = some 45 := fun h => by rw [hc]; intro e; exact h2 ⟨h, by injection e⟩
  have hd0 : (bl s).getD n 0 = c := by rw [List.getD_eq_getElem?_getD, hc]; rfl
  have hv0 : valueF (fuel + 1) (bl s) m n p = (kindF m ((bl s).drop n)).elim_ (fun far => .error (n + far)) (fun x => valBody fuel (bl s) n p x.1 x.2) := by
    rw [valueF, if_neg (by rw [bl_length]; omega), if_neg (by rw [hd0]; exact h1), if_neg (by rw [hd0]; exact h2)]
    cases kindF m ((bl s).drop n) <;> rfl
  obtain ⟨C, hC⟩ : ∃ C : Nat, c.toNat = C := ⟨_, rfl⟩
  rw [hC] at hix h1
  have hm2 : mayB m 2 = decide (m = 0) := by unfold mayB; split; simp [*]; split <;> simp [*]
  have hmi := may_invoke m
  unfold mayV
  generalize hfm : mayF m = fm
  rw [hfm] at hmi
  have Hmc := Lib.hid (fun k w => (hfm ▸ may_calls m k w : Calls Tryd.prog fm #[.int .i64 k] w fun e w' => e = .returned (.bool (mayB m k)) ∧ w = w'))
  have Hfm := Lib.hid hfm
  have Hm2 := Lib.hid hm2
  have Hno := Lib.hid hno
  clear hC hfm hm2 hno hd0
  have Hv0 := Lib.hid hv0
  clear hv0
  go_enter Tryd.func26, Tryd.ntmps26
  go_upto_region 4 with (first
      | ((with_reducible refine gate_dst (N := 4) rfl ?_); refine box_event rfl (N := 4) rfl (cs := val0) (t := 26) (by kernel_rfl) ?_; intro g hg w1 hb hbel; have hge : w.heap.size ≤ g := Nat.le_of_eq hg.symm; clear hg; have hR1 : RD w1 r s _ _ := blk_below hR hbel; have hgr : g ≠ r := (by have := hR.lt; omega); have hc1 : w1.cell? ⟨r, 2, none⟩ = some (.int .i64 _) := hR1.cell 2)
      | ((with_reducible refine gate_store (t := 3) (p := 28) rfl ?_); refine store_cell_event rfl rfl rfl rfl (hR1.dr _) rfl (by kernel_rfl) rfl rfl ?_; intro w2 hR2' hg2; have hR2 : RD w2 r s n ((p : Int) + 1) := hR2'; clear hR2'; have hb2 : Blk w2 g 26 val0 := blk_grown (blk_drewN hb _) hg2 (by simpa using hgr); have hG2 : w.grownBy w2 (some r) := (only_of_below hbel _).andThen (grownBy_drewN' hg2) (fun j hj => .inr hj))
      | (go_at_call 29; first | ((with_reducible refine (here_calls hR1 (Nat.le_of_lt hn)).mono ?_); rintro e w' ⟨rfl, q0, rfl⟩) | ((with_reducible refine (here_calls hR2 (Nat.le_of_lt hn)).mono ?_); rintro e w' ⟨rfl, q1, rfl⟩))
      | (go_at_call 28; (with_reducible refine (must_ok _ _).mono ?_); rintro e w' ⟨rfl, rfl⟩)
      | (go_at_call 50; (with_reducible refine (starts_none 45 (hR2.dr _) (Nat.le_of_lt hn) (Hno.out hm)).mono ?_); rintro e w' ⟨rfl, q2, rfl⟩)
      | ((with_reducible refine (Hmc.out _ _).mono ?_); rintro e w' ⟨rfl, rfl⟩; rw [Hmt.out]))
  go_cut [43] (fun s43 wc => s43 = .bool false ∧ wc = w2.drewN q1)
  case first =>
    --DEV{
    by_cases hm : m = 0
    · have hC : C < 48 ∨ 57 < C := by omega
      have hmt : mayB m 2 = true := by rw [Hm2.out]; simp [hm]
      have Hmt := Lib.hid hmt
      clear h1 hmt
      rcases hC with hC | hC
      all_goals
        go_wp2_with (first
      | ((with_reducible refine gate_dst (N := 4) rfl ?_); refine box_event rfl (N := 4) rfl (cs := val0) (t := 26) (by kernel_rfl) ?_; intro g hg w1 hb hbel; have hge : w.heap.size ≤ g := Nat.le_of_eq hg.symm; clear hg; have hR1 : RD w1 r s _ _ := blk_below hR hbel; have hgr : g ≠ r := (by have := hR.lt; omega); have hc1 : w1.cell? ⟨r, 2, none⟩ = some (.int .i64 _) := hR1.cell 2)
      | ((with_reducible refine gate_store (t := 3) (p := 28) rfl ?_); refine store_cell_event rfl rfl rfl rfl (hR1.dr _) rfl (by kernel_rfl) rfl rfl ?_; intro w2 hR2' hg2; have hR2 : RD w2 r s n ((p : Int) + 1) := hR2'; clear hR2'; have hb2 : Blk w2 g 26 val0 := blk_grown (blk_drewN hb _) hg2 (by simpa using hgr); have hG2 : w.grownBy w2 (some r) := (only_of_below hbel _).andThen (grownBy_drewN' hg2) (fun j hj => .inr hj))
      | (go_at_call 29; first | ((with_reducible refine (here_calls hR1 (Nat.le_of_lt hn)).mono ?_); rintro e w' ⟨rfl, q0, rfl⟩) | ((with_reducible refine (here_calls hR2 (Nat.le_of_lt hn)).mono ?_); rintro e w' ⟨rfl, q1, rfl⟩))
      | (go_at_call 28; (with_reducible refine (must_ok _ _).mono ?_); rintro e w' ⟨rfl, rfl⟩)
      | (go_at_call 50; (with_reducible refine (starts_none 45 (hR2.dr _) (Nat.le_of_lt hn) (Hno.out hm)).mono ?_); rintro e w' ⟨rfl, q2, rfl⟩)
      | ((with_reducible refine (Hmc.out _ _).mono ?_); rintro e w' ⟨rfl, rfl⟩; rw [Hmt.out]))
        go_meet
        exact ⟨by first | rfl | (congr 1; simp; omega), rfl⟩
    · have hmt : mayB m 2 = false := by rw [Hm2.out]; simp [hm]
      have Hmt := Lib.hid hmt
      clear h1 hmt
      go_wp2_with (first
      | ((with_reducible refine gate_dst (N := 4) rfl ?_); refine box_event rfl (N := 4) rfl (cs := val0) (t := 26) (by kernel_rfl) ?_; intro g hg w1 hb hbel; have hge : w.heap.size ≤ g := Nat.le_of_eq hg.symm; clear hg; have hR1 : RD w1 r s _ _ := blk_below hR hbel; have hgr : g ≠ r := (by have := hR.lt; omega); have hc1 : w1.cell? ⟨r, 2, none⟩ = some (.int .i64 _) := hR1.cell 2)
      | ((with_reducible refine gate_store (t := 3) (p := 28) rfl ?_); refine store_cell_event rfl rfl rfl rfl (hR1.dr _) rfl (by kernel_rfl) rfl rfl ?_; intro w2 hR2' hg2; have hR2 : RD w2 r s n ((p : Int) + 1) := hR2'; clear hR2'; have hb2 : Blk w2 g 26 val0 := blk_grown (blk_drewN hb _) hg2 (by simpa using hgr); have hG2 : w.grownBy w2 (some r) := (only_of_below hbel _).andThen (grownBy_drewN' hg2) (fun j hj => .inr hj))
      | (go_at_call 29; first | ((with_reducible refine (here_calls hR1 (Nat.le_of_lt hn)).mono ?_); rintro e w' ⟨rfl, q0, rfl⟩) | ((with_reducible refine (here_calls hR2 (Nat.le_of_lt hn)).mono ?_); rintro e w' ⟨rfl, q1, rfl⟩))
      | (go_at_call 28; (with_reducible refine (must_ok _ _).mono ?_); rintro e w' ⟨rfl, rfl⟩)
      | (go_at_call 50; (with_reducible refine (starts_none 45 (hR2.dr _) (Nat.le_of_lt hn) (Hno.out hm)).mono ?_); rintro e w' ⟨rfl, q2, rfl⟩)
      | ((with_reducible refine (Hmc.out _ _).mono ?_); rintro e w' ⟨rfl, rfl⟩; rw [Hmt.out]))
      go_meet
      exact ⟨rfl, rfl⟩
    --DEV}
  case rest =>
    obtain ⟨rfl, rfl⟩ := hcut
    go_upto_region 6 with (fail)
    go_cut [55] (fun s55 wc => s55 = .bool false ∧ RD wc r s n ((p : Int) + 1) ∧ Blk wc g 26 val0 ∧ w.grownBy wc (some r))
    case first =>
      --DEV{
      by_cases hm : m = 0
      · have hmt : mayB m 2 = true := by rw [Hm2.out]; simp [hm]
        have Hmt := Lib.hid hmt
        clear h1 hmt
        go_wp2_with (first
      | ((with_reducible refine gate_dst (N := 4) rfl ?_); refine box_event rfl (N := 4) rfl (cs := val0) (t := 26) (by kernel_rfl) ?_; intro g hg w1 hb hbel; have hge : w.heap.size ≤ g := Nat.le_of_eq hg.symm; clear hg; have hR1 : RD w1 r s _ _ := blk_below hR hbel; have hgr : g ≠ r := (by have := hR.lt; omega); have hc1 : w1.cell? ⟨r, 2, none⟩ = some (.int .i64 _) := hR1.cell 2)
      | ((with_reducible refine gate_store (t := 3) (p := 28) rfl ?_); refine store_cell_event rfl rfl rfl rfl (hR1.dr _) rfl (by kernel_rfl) rfl rfl ?_; intro w2 hR2' hg2; have hR2 : RD w2 r s n ((p : Int) + 1) := hR2'; clear hR2'; have hb2 : Blk w2 g 26 val0 := blk_grown (blk_drewN hb _) hg2 (by simpa using hgr); have hG2 : w.grownBy w2 (some r) := (only_of_below hbel _).andThen (grownBy_drewN' hg2) (fun j hj => .inr hj))
      | (go_at_call 29; first | ((with_reducible refine (here_calls hR1 (Nat.le_of_lt hn)).mono ?_); rintro e w' ⟨rfl, q0, rfl⟩) | ((with_reducible refine (here_calls hR2 (Nat.le_of_lt hn)).mono ?_); rintro e w' ⟨rfl, q1, rfl⟩))
      | (go_at_call 28; (with_reducible refine (must_ok _ _).mono ?_); rintro e w' ⟨rfl, rfl⟩)
      | (go_at_call 50; (with_reducible refine (starts_none 45 (hR2.dr _) (Nat.le_of_lt hn) (Hno.out hm)).mono ?_); rintro e w' ⟨rfl, q2, rfl⟩)
      | ((with_reducible refine (Hmc.out _ _).mono ?_); rintro e w' ⟨rfl, rfl⟩; rw [Hmt.out]))
        go_meet
        exact ⟨rfl, hR2, hb2, grownBy_drewN hG2 _⟩
      · have hmt : mayB m 2 = false := by rw [Hm2.out]; simp [hm]
        have Hmt := Lib.hid hmt
        clear h1 hmt
        go_wp2_with (first
      | ((with_reducible refine gate_dst (N := 4) rfl ?_); refine box_event rfl (N := 4) rfl (cs := val0) (t := 26) (by kernel_rfl) ?_; intro g hg w1 hb hbel; have hge : w.heap.size ≤ g := Nat.le_of_eq hg.symm; clear hg; have hR1 : RD w1 r s _ _ := blk_below hR hbel; have hgr : g ≠ r := (by have := hR.lt; omega); have hc1 : w1.cell? ⟨r, 2, none⟩ = some (.int .i64 _) := hR1.cell 2)
      | ((with_reducible refine gate_store (t := 3) (p := 28) rfl ?_); refine store_cell_event rfl rfl rfl rfl (hR1.dr _) rfl (by kernel_rfl) rfl rfl ?_; intro w2 hR2' hg2; have hR2 : RD w2 r s n ((p : Int) + 1) := hR2'; clear hR2'; have hb2 : Blk w2 g 26 val0 := blk_grown (blk_drewN hb _) hg2 (by simpa using hgr); have hG2 : w.grownBy w2 (some r) := (only_of_below hbel _).andThen (grownBy_drewN' hg2) (fun j hj => .inr hj))
      | (go_at_call 29; first | ((with_reducible refine (here_calls hR1 (Nat.le_of_lt hn)).mono ?_); rintro e w' ⟨rfl, q0, rfl⟩) | ((with_reducible refine (here_calls hR2 (Nat.le_of_lt hn)).mono ?_); rintro e w' ⟨rfl, q1, rfl⟩))
      | (go_at_call 28; (with_reducible refine (must_ok _ _).mono ?_); rintro e w' ⟨rfl, rfl⟩)
      | (go_at_call 50; (with_reducible refine (starts_none 45 (hR2.dr _) (Nat.le_of_lt hn) (Hno.out hm)).mono ?_); rintro e w' ⟨rfl, q2, rfl⟩)
      | ((with_reducible refine (Hmc.out _ _).mono ?_); rintro e w' ⟨rfl, rfl⟩; rw [Hmt.out]))
        go_meet
        exact ⟨rfl, hR2, hb2, grownBy_drewN hG2 _⟩
      --DEV}
    case rest =>
      obtain ⟨rfl, hR3, hb3, hG3⟩ := hcut
      have hv := Hv0.out
      have Hgr := hgr
      clear hR hR1 hR2 hb hb2 hG2 hc1 hbel hg2 Hv0 hix hb0 h1
      cases hK : kindF m ((bl s).drop n) with
      | error far =>
        --DEV{
        rw [hK] at hv
        have hq : ∀ W, RD W r s (n + far : Nat) (p + 1 : Nat) → w.grownBy W (some r) → ValPost w r s (valueF (fuel + 1) (bl s) m n p) (.panicked (wrongAt (n + far : Nat))) W := fun W h1 h2 => by
          rw [hv]; exact ⟨rfl, ⟨_, h1⟩, h2⟩
        have HK := Lib.hid hK
        clear hK hv
        go_wp2_with (first
          | (go_at_call 52; (with_reducible refine (kind_err m hR3 (Nat.le_of_lt hn) hs HK.out Hfm.out).mono ?_); rintro e w4 ⟨rfl, hR4, hg4⟩))
        exact ⟨rfl, hq _ hR4 (hG3.andThen hg4 (fun j hj => .inr hj))⟩
        --DEV}
      | ok x =>
        obtain ⟨k, d⟩ := x
        rw [hK] at hv
        obtain ⟨hk1, hk13, hk2, hmk, hdl, hd1⟩ := kindF_ok hK
        rw [List.length_drop, bl_length] at hdl
        have HK := Lib.hid hK
        have Hv := Lib.hid hv
        clear hK hv hmk
        go_upto_region 10 with (first
          | (go_at_call 52; (with_reducible refine (kind_ok m hR3 (Nat.le_of_lt hn) hs HK.out Hfm.out).mono ?_); rintro e w4 ⟨rfl, hR4, hg4⟩; have hG4 : w.grownBy w4 (some r) := hG3.andThen hg4 (fun j hj => .inr hj); have hb4 : Blk w4 g 26 val0 := blk_grown hb3 hg4 (by simpa using hgr))
          | ((with_reducible refine gate_dst (N := 6) rfl ?_); refine box_event rfl (N := 6) rfl (cs := val0) (t := 26) (by kernel_rfl) ?_; intro g6 hg6 w5 hb6 hbel5; have hge6 : w.heap.size ≤ g6 := (by have := hG4.size; omega); have hgr6 : g6 ≠ r := (by have := hR4.lt; omega); have hgg : g6 ≠ g := (by have := hb4.lt; omega); clear hg6)
          | ((with_reducible refine gate_store (t := 26) (p := 6) rfl ?_); refine store_row_event rfl rfl rfl rfl hb6 (by kernel_rfl) rfl (by kernel_rfl) ?_; intro w6 hb6' hg6; have hR6 : RD w6 r s (n + d : Nat) ((p : Int) + 1) := blk_grown (blk_below hR4 hbel5) hg6 (by simpa using hgr6.symm); have hbg6 : Blk w6 g 26 val0 := blk_grown (blk_below hb4 hbel5) hg6 (by simpa using hgg.symm); have hG6 : w.grownBy w6 (some r) := (hG4.andThen (only_of_below hbel5 none) (fun j hj => by cases hj)).andThen hg6 (fun j hj => .inl (by cases hj; exact hge6)); clear hb6))
        have c0 : w6.cell? ⟨g6, 0, none⟩ = some (.int .i64 k) := Blk.cell hb6' 0
        have c1 : w6.cell? ⟨g6, 1, none⟩ = some (.int .i64 0) := Blk.cell hb6' 1
        have c2 : w6.cell? ⟨g6, 2, none⟩ = some (.slice none 0 0) := Blk.cell hb6' 2
        clear hR3 hb3 hG3 hR4 hg4 hG4 hb4 hbel5 hg6
        by_cases h18 : k = 1 ∨ k = 8
        ·
          --DEV{
          have hq : ∀ W, RD W r s (n + d : Nat) (p + 1 : Nat) → w.grownBy W (some r) → ValPost w r s (valueF (fuel + 1) (bl s) m n p) (.returned (.agg #[.int .i64 k, .int .i64 0, .slice none 0 0])) W := fun W h1 h2 => by
            rw [Hv.out]; simp only [Except.elim_, valBody, h18, if_true]
            exact ⟨⟨_, rfl, Kd.R_nil _ _ _ _ _⟩, h1, h2, by omega, by omega⟩
          rcases h18 with rfl | rfl
          all_goals
            go_wp2_with (first
              | ((with_reducible refine gate_store (t := 26) (p := 4) rfl ?_); refine store_row_event rfl rfl rfl rfl hbg6 (by kernel_rfl) rfl (by kernel_rfl) ?_; intro w7 hb7 hg7))
            exact bodyPost_ret (results_cell_row rfl _ _ g 26 #[.int .i64 _, .int .i64 0, .slice none 0 0] (0, 0) _ rfl hb7 Tryd.underlying26 rfl (by kernel_rfl)) rfl
              (hq _ (blk_grown hR6 hg7 (by simpa using fun e : r = g => hgr e.symm)) (hG6.andThen hg7 (fun j hj => .inl (by cases hj; exact hge))))
          --DEV}
        · have hk1' : ((k : Int) == 1) = false := by rw [beq_eq_false_iff_ne]; omega
          have hk8' : ((k : Int) == 8) = false := by rw [beq_eq_false_iff_ne]; omega
          have hnd : n + d ≤ s.size := by omega
          by_cases h40 : (bl s)[n + d]? = some 40
          · go_upto_block 0 with (first
              | (go_at_call 50; (with_reducible refine (starts_one 40 hR6 hnd hs h40).mono ?_); rintro e w7 ⟨rfl, hR7, hg7⟩; have hb7 : Blk w7 g 26 val0 := blk_grown hbg6 hg7 (by simpa using hgr); have hb76 : Blk w7 g6 26 _ := blk_grown hb6' hg7 (by simpa using hgr6); have hG7 : w.grownBy w7 (some r) := hG6.andThen hg7 (fun j hj => .inr hj))
              | (go_at_call 28; (with_reducible refine (must_ok _ _).mono ?_); rintro e w' ⟨rfl, rfl⟩))
            have hnd1 : n + d + 1 ≤ s.size := by have := (List.getElem?_eq_some_iff.1 h40).1; rw [bl_length] at this; exact this
            have d0 : w7.cell? ⟨g6, 0, none⟩ = some (.int .i64 k) := Blk.cell hb76 0
            have hv2 : valueF (fuel + 1) (bl s) m n p = (numOf (bl s) k (n + d + 1)).elim_ (fun e => .error e) (fun x => itemsBody fuel (bl s) k x.1 x.2 p) := by
              rw [Hv.out]; simp only [Except.elim_, valBody, h18, h40, if_false, if_true]
              cases numOf (bl s) k (n + d + 1) <;> rfl
            have H40 := Lib.hid h40
            have Hv2 := Lib.hid hv2
            clear hv2 h40
            cases hN : numOf (bl s) k (n + d + 1) with
            | error e0 =>
              --DEV{
              have hq : ∀ W, RD W r s e0 (p + 1 : Nat) → w.grownBy W (some r) → ValPost w r s (valueF (fuel + 1) (bl s) m n p) (.panicked (wrongAt e0)) W := fun W h1 h2 => by
                rw [Hv2.out, hN]; exact ⟨rfl, ⟨_, h1⟩, h2⟩
              by_cases h4 : k = 4 ∨ k = 13
              · rw [numOf, if_pos h4] at hN
                have HN := Lib.hid hN
                clear hN
                rcases h4 with rfl | rfl
                all_goals
                  go_wp2_with (first
                    | (go_at_call 49; (with_reducible refine (number_err 9223372036854775807 9223372036854775807 rfl (by decide) hR7 hnd1 hs HN.out).mono ?_); rintro e w8 ⟨rfl, hR8, hg8⟩))
                  exact ⟨rfl, hq _ hR8 (hG7.andThen hg8 (fun j hj => .inr hj))⟩
              · cases hcb : countedB k with
                | false =>
                  rw [numOf, if_neg h4, hcb] at hN
                  cases hN
                | true =>
                  rw [numOf, if_neg h4, hcb, if_pos rfl] at hN
                  have HN := Lib.hid hN
                  have e4 : ((k : Int) == 4) = false := by rw [beq_eq_false_iff_ne]; omega
                  have e13 : ((k : Int) == 13) = false := by rw [beq_eq_false_iff_ne]; omega
                  clear hN h4
                  go_wp2_with (first
                    | (go_at_call 49; (with_reducible refine (number_err 63 63 rfl (by decide) hR7 hnd1 hs HN.out).mono ?_); rintro e w8 ⟨rfl, hR8, hg8⟩)
                    | (go_at_call 53; (with_reducible refine (counted_calls k _).mono ?_); rintro e w' ⟨rfl, rfl⟩; rw [hcb]))
                  exact ⟨rfl, hq _ hR8 (hG7.andThen hg8 (fun j hj => .inr hj))⟩
              --DEV}
            | ok y =>
              obtain ⟨N, at1⟩ := y
              have hN63 := numOf_most hN
              have hle := numOf_le hN
              rw [bl_length] at hle
              have HN0 := Lib.hid hN
              clear hN
              go_cut [88] (fun _ wc => RD wc r s at1 ((p : Int) + 1) ∧ Blk wc g 26 val0 ∧ Blk wc g6 26 #[.int .i64 k, .int .i64 N, .slice none 0 0] ∧ w.grownBy wc (some r))
              case first =>
                --DEV{
                by_cases h4 : k = 4 ∨ k = 13
                · have hN := HN0.out
                  rw [numOf, if_pos h4] at hN
                  have HN := Lib.hid hN
                  clear hN
                  rcases h4 with rfl | rfl
                  all_goals
                    go_wp2_with (first
                      | (go_at_call 49; (with_reducible refine (number_ok 9223372036854775807 9223372036854775807 rfl (by decide) hR7 hnd1 hs HN.out).mono ?_); rintro e w8 ⟨rfl, hR8, hg8⟩; have hb8 : Blk w8 g 26 val0 := blk_grown hb7 hg8 (by simpa using hgr); have hb86 : Blk w8 g6 26 _ := blk_grown hb76 hg8 (by simpa using hgr6); have hG8 : w.grownBy w8 (some r) := hG7.andThen hg8 (fun j hj => .inr hj))
                      | ((with_reducible refine gate_store (t := 2) (p := 100) rfl ?_); refine store_cell_event rfl rfl rfl rfl hb86 rfl (by kernel_rfl) rfl rfl ?_; intro w9 hb96 hg9; have hR9 : RD w9 r s at1 ((p : Int) + 1) := blk_grown hR8 hg9 (by simpa using hgr6.symm); have hb9 : Blk w9 g 26 val0 := blk_grown hb8 hg9 (by simpa using hgg.symm); have hG9 : w.grownBy w9 (some r) := hG8.andThen hg9 (fun j hj => .inl (by cases hj; exact hge6))))
                    go_meet
                    exact ⟨hR9, hb9, hb96, hG9⟩
                · have hN := HN0.out
                  have e4 : ((k : Int) == 4) = false := by rw [beq_eq_false_iff_ne]; omega
                  have e13 : ((k : Int) == 13) = false := by rw [beq_eq_false_iff_ne]; omega
                  cases hcb : countedB k with
                  | false =>
                    rw [numOf, if_neg h4, hcb] at hN
                    obtain ⟨rfl, rfl⟩ : 0 = N ∧ n + d + 1 = at1 := by simpa using hN
                    clear hN h4
                    go_wp2_with (first
                      | (go_at_call 53; (with_reducible refine (counted_calls k _).mono ?_); rintro e w' ⟨rfl, rfl⟩; rw [hcb]))
                    go_meet
                    exact ⟨hR7, hb7, hb76, hG7⟩
                  | true =>
                    rw [numOf, if_neg h4, hcb, if_pos rfl] at hN
                    have HN := Lib.hid hN
                    clear hN h4
                    go_wp2_with (first
                      | (go_at_call 49; (with_reducible refine (number_ok 63 63 rfl (by decide) hR7 hnd1 hs HN.out).mono ?_); rintro e w8 ⟨rfl, hR8, hg8⟩; have hb8 : Blk w8 g 26 val0 := blk_grown hb7 hg8 (by simpa using hgr); have hb86 : Blk w8 g6 26 _ := blk_grown hb76 hg8 (by simpa using hgr6); have hG8 : w.grownBy w8 (some r) := hG7.andThen hg8 (fun j hj => .inr hj))
                      | (go_at_call 53; (with_reducible refine (counted_calls k _).mono ?_); rintro e w' ⟨rfl, rfl⟩; rw [hcb])
                      | ((with_reducible refine gate_store (t := 2) (p := 108) rfl ?_); refine store_cell_event rfl rfl rfl rfl hb86 rfl (by kernel_rfl) rfl rfl ?_; intro w9 hb96 hg9; have hR9 : RD w9 r s at1 ((p : Int) + 1) := blk_grown hR8 hg9 (by simpa using hgr6.symm); have hb9 : Blk w9 g 26 val0 := blk_grown hb8 hg9 (by simpa using hgg.symm); have hG9 : w.grownBy w9 (some r) := hG8.andThen hg9 (fun j hj => .inl (by cases hj; exact hge6))))
                    go_meet
                    exact ⟨hR9, hb9, hb96, hG9⟩
                --DEV}
              case rest =>
                obtain ⟨hR9, hb9, hb96, hG9⟩ := hcut
                go_upto_region 17 with (fail)
                have e0 : wc.cell? ⟨g6, 0, none⟩ = some (.int .i64 k) := Blk.cell hb96 0
                go_cut [7] (fun s7 wd => ∃ g7 : Nat, s7 = .pointer (some ⟨g7, 0, none⟩) ∧ Blk wd g7 111 (needV k) ∧ RD wd r s at1 ((p : Int) + 1) ∧ Blk wd g 26 val0 ∧ Blk wd g6 26 #[.int .i64 k, .int .i64 N, .slice none 0 0] ∧ w.grownBy wd (some r) ∧ w.heap.size ≤ g7 ∧ g7 ≠ r ∧ g7 ≠ g ∧ g7 ≠ g6)
                case first =>
                  --DEV{
                  have hix := need_index k hk1 hk13 h18 hk2
                  refine draw_begin (fun w' => Blk w' g6 26 #[.int .i64 k, .int .i64 N, .slice none 0 0]) (fun _ => false) (by kernel_rfl) (n := 6) rfl rfl ?_
                  intro W _hWh hWg
                  clear _hWh
                  have hRW : RD W r s at1 ((p : Int) + 1) := blk_grown hR9 hWg (by simp)
                  have hbW : Blk W g 26 val0 := blk_grown hb9 hWg (by simp)
                  have hb6W : Blk W g6 26 #[.int .i64 k, .int .i64 N, .slice none 0 0] := blk_grown hb96 hWg (by simp)
                  have hGW : w.grownBy W (some r) := hG9.andThen hWg (fun j hj => by cases hj)
                  refine draw_take (i := 1) (v := .pointer (some ⟨g6, 0, none⟩)) rfl (by kernel_rfl) (by kernel_rfl) (by kernel_rfl) rfl (by kernel_rfl) (fun _ _ _ h => h) (.inl ⟨rfl, fun W' hS => ?_⟩) hb6W ?_
                  · go_simp
                  refine draw_take (i := 2) (v := .int .i64 k) rfl (by kernel_rfl) (by kernel_rfl) (by kernel_rfl) rfl (by kernel_rfl) (fun _ _ _ h => h) (.inl ⟨rfl, fun W' hS => ?_⟩) hb6W ?_
                  · have e0 : W'.cell? ⟨g6, 0, none⟩ = some (.int .i64 k) := Blk.cell hS 0
                    go_simp
                  refine draw_two (i := 0) (j := 4) (by kernel_rfl) rfl rfl ?_ ?_
                  · refine op_call (f := 54) (args := #[]) rfl rfl (by go_simp) (needs_calls _) (fun v wn hcall => ?_) (fun c wn hcall => by cases hcall.1) (fun wn hcall => by cases hcall.1)
                    obtain ⟨hcv, hbn⟩ := hcall
                    injection hcv with hcv
                    subst hcv
                    have hb6n := blk_below2 hbn hb6W
                    refine ⟨fun _ => hb6n, ?_⟩
                    refine draw_take (i := 3) (v := .agg (needV k)) rfl (by kernel_rfl) (by kernel_rfl) (by kernel_rfl) rfl (by kernel_rfl) (fun _ _ _ h => h) (.inl ⟨rfl, fun W' hS => ?_⟩) hb6n ?_
                    · have := hix W'
                      go_simp
                    refine draw_one (i := 4) (by kernel_rfl) rfl ?_
                    refine op_value (v := .pointer (some ⟨wn.heap.size, 0, none⟩)) (w1 := wn.alloc (.cells nneed0 111)) rfl rfl (by kernel_rfl) ⟨fun _ => blk_alloc hb6n _, ?_⟩
                    refine draw_one (i := 5) (by kernel_rfl) rfl ?_
                    have hnew : Blk (wn.alloc (.cells nneed0 111)) wn.heap.size 111 nneed0 := blk_new wn _
                    refine op_skip rfl rfl (run_store_row (cells := needV k) (old := nneed0) (g := wn.heap.size) rfl rfl hnew (by kernel_rfl) rfl (needV_one k)) ⟨fun _ => ?_, ?_⟩
                    · exact blk_grown (blk_alloc hb6n _) (grownBy_setRow _ _ _) (by have := hb6n.lt; simp; omega)
                    refine draw_done (by kernel_rfl) ?_
                    have hst : Blk ((wn.alloc (.cells nneed0 111)).setRow wn.heap.size (needV k)) wn.heap.size 111 (needV k) := setRow_heap hnew
                    have hgs := grownBy_setRow (wn.alloc (.cells nneed0 111)) wn.heap.size (needV k)
                    have hRn : RD wn r s at1 ((p : Int) + 1) := blk_below2 hbn hRW
                    have hbn0 : Blk wn g 26 val0 := blk_below2 hbn hbW
                    have hsz := hGW.size
                    have hsz2 := hbn.size
                    have hn1 := hRn.lt
                    have hn2 := hbn0.lt
                    have hn3 := hb6n.lt
                    generalize (wn.alloc (.cells nneed0 111)).setRow wn.heap.size (needV k) = Wz at hst hgs ⊢
                    go_simp
                    go_wp2_with fail
                    go_meet
                    exact ⟨wn.heap.size, rfl, hst, blk_grown (blk_alloc hRn _) hgs (by simp; omega), blk_grown (blk_alloc hbn0 _) hgs (by simp; omega), blk_grown (blk_alloc hb6n _) hgs (by simp; omega),
                      ((hGW.andThen (only_of_below hbn none) (fun j hj => by cases hj)).andThen (World.grownBy_alloc _ _ none) (fun j hj => by cases hj)).andThen hgs (fun j hj => .inl (by cases hj; omega)), by omega, by omega, by omega, by omega⟩
                  · refine op_value (v := .pointer (some ⟨W.heap.size, 0, none⟩)) (w1 := W.alloc (.cells nneed0 111)) rfl rfl (by kernel_rfl) ⟨fun _ => blk_alloc hb6W _, ?_⟩
                    refine draw_one (i := 0) (by kernel_rfl) rfl ?_
                    refine op_call (f := 54) (args := #[]) rfl rfl (by go_simp) (needs_calls _) (fun v wn hcall => ?_) (fun c wn hcall => by cases hcall.1) (fun wn hcall => by cases hcall.1)
                    obtain ⟨hcv, hbn⟩ := hcall
                    injection hcv with hcv
                    subst hcv
                    have hb6n := blk_below2 hbn (blk_alloc hb6W _)
                    have hnew : Blk wn W.heap.size 111 nneed0 := blk_below2 hbn (blk_new W _)
                    refine ⟨fun _ => hb6n, ?_⟩
                    refine draw_take (i := 3) (v := .agg (needV k)) rfl (by kernel_rfl) (by kernel_rfl) (by kernel_rfl) rfl (by kernel_rfl) (fun _ _ _ h => h) (.inl ⟨rfl, fun W' hS => ?_⟩) hb6n ?_
                    · have := hix W'
                      go_simp
                    refine draw_one (i := 5) (by kernel_rfl) rfl ?_
                    have hn1 := hRW.lt
                    have hn2 := hbW.lt
                    have hn3 := hb6W.lt
                    have hsz := hGW.size
                    refine op_skip rfl rfl (run_store_row (cells := needV k) (old := nneed0) (g := W.heap.size) rfl rfl hnew (by kernel_rfl) rfl (needV_one k)) ⟨fun _ => ?_, ?_⟩
                    · exact blk_grown hb6n (grownBy_setRow _ _ _) (by simp; omega)
                    refine draw_done (by kernel_rfl) ?_
                    have hst : Blk (wn.setRow W.heap.size (needV k)) W.heap.size 111 (needV k) := setRow_heap hnew
                    have hgs := grownBy_setRow wn W.heap.size (needV k)
                    have hRn : RD wn r s at1 ((p : Int) + 1) := blk_below2 hbn (blk_alloc hRW _)
                    have hbn0 : Blk wn g 26 val0 := blk_below2 hbn (blk_alloc hbW _)
                    generalize wn.setRow W.heap.size (needV k) = Wz at hst hgs ⊢
                    go_simp
                    go_wp2_with fail
                    go_meet
                    exact ⟨W.heap.size, rfl, hst, blk_grown hRn hgs (by simp; omega), blk_grown hbn0 hgs (by simp; omega), blk_grown hb6n hgs (by simp; omega),
                      ((hGW.andThen (World.grownBy_alloc _ _ none) (fun j hj => by cases hj)).andThen (only_of_below hbn none) (fun j hj => by cases hj)).andThen hgs (fun j hj => .inl (by cases hj; omega)), by omega, by omega, by omega, by omega⟩
                  --DEV}
                case rest =>
                  obtain ⟨g7, rfl, hb7', hR10, hb10, hb106, hG10, hge7, hgr7, hg7g, hg76⟩ := hcut
                  refine (by assumption : ∀ (a : Act) (w' : World), valTail.wp Tryd.prog (bodyPost Tryd.prog Tryd.f26 (ValPost w r s (valueF (fuel + 1) (bl s) m n p))) a w' → _) _ _ ?_
                  exact val_tail fuel ih r s at1 p k N g g6 g7 w _ _ (by rw [Hv2.out, HN0.out]; rfl) hs hp hf hk13 hgr hgr6 hgg hgr7 hg7g hg76 hge hge6 hge7 hR10 hb10 hb106 hb7' hG10 (by omega) _ _ _ _ _ _ _ _ _ _ _ _ _ _ _ _ _ _ _ _ _ _ _ _ _ _ _ _ _ _ _ _ _ _ _ _ _ _ _ _ _ _ _ _ _ _ _ _ _ _ _ _ _ _ _ _ _ _ _ _ _ _ _ _ _ _ _ _ _ _ _ _ _ _ _ _ _ _ _ _ _ _ _ _ _ _ _ _ _ _ _ _ _ _ _ _ _ _ _ _ _ _ _ _ _ _ _ _ _ _ _ _ _ _ _ _ _ _ _ _ _ _ _ _ _ _ _ _ _ _ _ _ _ _ _ _ _ _ _ _ _ _ _ _ _ _ _ _ _ _ _ _ _ _ _ _ _ _ _ _ _ _ _ _ _ _ _ _ _ _
          ·
            --DEV{
            have hq : ∀ W, RD W r s (n + d : Nat) (p + 1 : Nat) → w.grownBy W (some r) → ValPost w r s (valueF (fuel + 1) (bl s) m n p) (.panicked (wrongAt (n + d : Nat))) W := fun W h1 h2 => by
              rw [Hv.out]; simp only [Except.elim_, valBody, h18, h40, if_false]
              exact ⟨rfl, ⟨_, h1⟩, h2⟩
            have H40 := Lib.hid h40
            clear h40
            go_wp2_with (first
              | (go_at_call 50; (with_reducible refine (starts_none 40 hR6 hnd H40.out).mono ?_); rintro e w' ⟨rfl, q2, rfl⟩)
              | (go_at_call 28; (with_reducible refine (must_bad (hR6.dr _)).mono ?_); rintro e w' ⟨rfl, rfl⟩))
            exact ⟨rfl, hq _ (hR6.dr _) (grownBy_drewN hG6 _)⟩
            --DEV}
end Go.Proofs.YtfnekpgbfdhnmaaDoor

namespace Go.Proofs.YtfnekpgbfdhnmaaDoor
open Go.RowKit Go.Proofs.YtfnekpgbfdhnmaaDoorW.PrintWords Go.Proofs.YtfnekpgbfdhnmaaDoorW.PrintLast Go.Proofs.YtfnekpgbfdhnmaaDoorW.PrintMore Go.Proofs.YtfnekpgbfdhnmaaDoor.PAll
theorem val_said : ∀ fuel, ValSaid fuel
  | 0 => fun _ _ _ _ _ _ _ _ _ _ hp hf => absurd hf (by omega)
  | fuel + 1 => by
    intro m r s n p w hm hR hn hs hp hf
    by_cases hend : (bl s).length ≤ n ∨ 256 ≤ p
    · exact val_end fuel m r s n p w hR hn hs hp hend
    · have hn' : n < s.size := by rw [bl_length] at hend; omega
      have hp' : p < 256 := by omega
      have hc := bl_at hn'
      by_cases h1 : m = 0 ∧ 48 ≤ (s[n]'hn').toNat ∧ (s[n]'hn').toNat ≤ 57
      · obtain ⟨rfl, hd⟩ := h1
        exact val_digit fuel r s n p w hR hn' hs hp' _ hc hd
      · by_cases h2 : m = 0 ∧ s[n]'hn' = 45
        · obtain ⟨rfl, hd⟩ := h2
          exact val_minus fuel r s n p w hR hn' hs hp' (by rw [hc, hd])
        · exact val_word fuel (val_said fuel) m r s n p w hR hn' hs hp' (by omega) _ hc h1 h2
end Go.Proofs.YtfnekpgbfdhnmaaDoor

namespace Go.Proofs.YtfnekpgbfdhnmaaDoor
open Go.RowKit Go.Proofs.YtfnekpgbfdhnmaaDoorW.PrintWords Go.Proofs.YtfnekpgbfdhnmaaDoorW.PrintLast Go.Proofs.YtfnekpgbfdhnmaaDoorW.PrintMore Go.Proofs.YtfnekpgbfdhnmaaDoor.PAll
set_option maxHeartbeats 1000000 in
theorem caught_idle (g0 g1 g2 : Nat) (w : World) :
    CallsD Tryd.prog 25 #[.pointer (some ⟨g0, 0, none⟩), .pointer (some ⟨g1, 0, none⟩), .pointer (some ⟨g2, 0, none⟩)] .returning w fun e u' w' => e = .returned (.tuple #[]) ∧ u' = .returning ∧ w' = w := by
  refine callsD_of_wpS Tryd.func25 rfl fun c₀ cs hu => ?_
  apply wpS_seq
  apply wpS_region
  simp [wpOpsS, go_sem, recoverD, hu, Tryd.ntmps25, Exit.thenS]
  have Hu := Lib.hid hu
  clear hu
  refine wpS_of_wp ?_
  generalize hQ : (fun (e : Exit) (a' : Act) (w' : World) => _) = Q
  have HQ := Lib.hid hQ
  clear hQ
  have htm : (#[.pointer (some ⟨g0, 0, none⟩), .pointer (some ⟨g1, 0, none⟩), .pointer (some ⟨g2, 0, none⟩)] ++ ((Array.replicate 25 undef).setIfInBounds 6 .nilIface).setIfInBounds 3 .nilIface) = (#[.pointer (some ⟨g0, 0, none⟩), .pointer (some ⟨g1, 0, none⟩), .pointer (some ⟨g2, 0, none⟩), undef, undef, undef, .nilIface, undef, undef, .nilIface, undef, undef, undef, undef, undef, undef, undef, undef, undef, undef, undef, undef, undef, undef, undef, undef, undef, undef] : Array Value) := by kernel_rfl
  rw [htm]
  clear htm
  go_wp2_with fail
  rw [← HQ.out]
  have hu := Hu.out
  cases c₀
  simp_all [bodyPostS, results, Tryd.results25]
set_option maxHeartbeats 1000000 in
set_option maxRecDepth 100000 in
theorem caught_wrong (g0 g1 g2 : Nat) (n : Int) (older : List PanicEntry) (w : World) (c0 : Array Value) (c1 c2 : Value) (hc0 : c0.size = 3) (h0 : Blk w g0 26 c0) (h1 : Blk w g1 3 #[c1]) (h2 : Blk w g2 27 #[c2]) (h01 : g0 ≠ g1) (h02 : g0 ≠ g2) (h12 : g1 ≠ g2) :
    CallsD Tryd.prog 25 #[.pointer (some ⟨g0, 0, none⟩), .pointer (some ⟨g1, 0, none⟩), .pointer (some ⟨g2, 0, none⟩)] (.panicking ({ v := .iface 102 (.int .i64 n), recovered := false } :: older)) w fun e u' w' => e = .returned (.tuple #[]) ∧ u' = .panicking ({ v := .iface 102 (.int .i64 n), recovered := true } :: older) ∧
      Blk w' g0 26 val0 ∧ Blk w' g1 3 #[.int .i64 n] ∧ Blk w' g2 27 #[.int .i64 50] ∧ ∀ B : World, Below B.heap.size B w → B.heap.size ≤ g0 → B.heap.size ≤ g1 → B.heap.size ≤ g2 → Below B.heap.size B w' := by
  refine callsD_of_wpS Tryd.func25 rfl fun c₀ cs hu => ?_
  apply wpS_seq
  apply wpS_region
  simp [wpOpsS, go_sem, recoverD, hu, Tryd.ntmps25, Exit.thenS]
  clear hu
  refine wpS_of_wp ?_
  generalize hQ : (fun (e : Exit) (a' : Act) (w' : World) => _) = Q
  have HQ := Lib.hid hQ
  clear hQ
  have htm : (#[.pointer (some ⟨g0, 0, none⟩), .pointer (some ⟨g1, 0, none⟩), .pointer (some ⟨g2, 0, none⟩)] ++ ((Array.replicate 25 undef).setIfInBounds 6 (.iface 102 (.int .i64 n))).setIfInBounds 3 (.iface 102 (.int .i64 n))) = (#[.pointer (some ⟨g0, 0, none⟩), .pointer (some ⟨g1, 0, none⟩), .pointer (some ⟨g2, 0, none⟩), undef, undef, undef, .iface 102 (.int .i64 n), undef, undef, .iface 102 (.int .i64 n), undef, undef, undef, undef, undef, undef, undef, undef, undef, undef, undef, undef, undef, undef, undef, undef, undef, undef] : Array Value) := by kernel_rfl
  rw [htm]
  clear htm
  have hta : Sem.run Tryd.prog (Instr.typeAssert (.iface 102 (.int .i64 n)) 20 102 true) w = .ok (.tuple #[.int .i64 n, .bool true]) w := by kernel_rfl
  go_wp2_with (first
    | ((with_reducible refine gate_store (t := 26) (p := 25) rfl ?_); refine store_row_event rfl rfl rfl rfl h0 (by kernel_rfl) (by rw [hc0]; rfl) (by kernel_rfl) ?_; intro w2 hb2 hg2; have hb21 : Blk w2 g1 3 #[c1] := blk_grown h1 hg2 (by simpa using h01.symm); have hb22 : Blk w2 g2 27 #[c2] := blk_grown h2 hg2 (by simpa using h02.symm))
    | ((with_reducible refine gate_store (t := 3) (p := 26) rfl ?_); refine store_cell_event rfl rfl rfl rfl hb21 rfl (by kernel_rfl) rfl rfl ?_; intro w3 hb31 hg3; have hb30 : Blk w3 g0 26 val0 := blk_grown hb2 hg3 (by simpa using h01); have hb32 : Blk w3 g2 27 #[c2] := blk_grown hb22 hg3 (by simpa using h12.symm))
    | ((with_reducible refine gate_store (t := 27) (p := 27) rfl ?_); refine store_cell_event rfl rfl rfl rfl hb32 rfl (by kernel_rfl) rfl rfl ?_; intro w4 hb42 hg4; have hb40 : Blk w4 g0 26 val0 := blk_grown hb30 hg4 (by simpa using h02); have hb41 : Blk w4 g1 3 #[.int .i64 n] := blk_grown hb31 hg4 (by simpa using h12)))
  rw [← HQ.out]
  exact ⟨rfl, _, rfl, _, by simp [results, Tryd.results25], rfl, rfl, hb40, hb41, hb42, fun B hB e0 e1 e2 => ((hB.grown hg2 hB.size (by rintro q ⟨⟩; exact e0)).grown hg3 (hB.grown hg2 hB.size (by rintro q ⟨⟩; exact e0)).size (by rintro q ⟨⟩; exact e1)).grown hg4 ((hB.grown hg2 hB.size (by rintro q ⟨⟩; exact e0)).grown hg3 (hB.grown hg2 hB.size (by rintro q ⟨⟩; exact e0)).size (by rintro q ⟨⟩; exact e1)).size (by rintro q ⟨⟩; exact e2)⟩
end Go.Proofs.YtfnekpgbfdhnmaaDoor

namespace Go.Proofs.YtfnekpgbfdhnmaaDoor
open Go.RowKit Go.Proofs.YtfnekpgbfdhnmaaDoorW.PrintWords Go.Proofs.YtfnekpgbfdhnmaaDoorW.PrintLast Go.Proofs.YtfnekpgbfdhnmaaDoorW.PrintMore Go.Proofs.YtfnekpgbfdhnmaaDoor.PAll
/-- Parse, on lists: the value, or the place of the first fault. -/
def parseF (l : List UInt8) : Except Nat Tree :=
  match valueF 257 l 0 0 0 with
  | .error e => .error e
  | .ok (t, at2, _) => if at2 = l.length then .ok t else .error at2
/-- What a call of Parse comes to. -/
def ParsePost (w : World) (x : Except Nat Tree) (e : Ending) (w' : World) : Prop :=
  match x with
  | .ok t => (∃ v2, e = .returned (.tuple #[.agg #[.int .i64 t.f0, .int .i64 t.f1, v2], .int .i64 0, .int .i64 0]) ∧ Kd.R k26 26 w' w.heap.size (fun _ => True) v2 t.f2) ∧ Below w.heap.size w w'
  | .error n => e = .returned (.tuple #[.agg val0, .int .i64 n, .int .i64 50]) ∧ Below w.heap.size w w'
theorem valueF_at : ∀ {fuel : Nat} {l : List UInt8} {m a p : Nat} {t : Tree} {a' p' : Nat}, valueF fuel l m a p = .ok (t, a', p') → a' ≤ l.length
  | 0, _, _, _, _, _, _, _, h => by rw [valueF] at h; cases h
  | fuel + 1, l, m, a, p, t, a', p', h => by
    rw [valueF] at h
    by_cases h1 : l.length ≤ a ∨ 256 ≤ p
    · rw [if_pos h1] at h; cases h
    rw [if_neg h1] at h
    have ha : a < l.length := by omega
    split at h
    · split at h
      · cases h
      · rename_i hn; have := (numF_le hn).1; simp only [Except.ok.injEq, Prod.mk.injEq] at h; omega
    split at h
    · split at h
      · cases h
      · split at h
        · cases h
        · rename_i hn; have := (numF_le hn).1; simp only [Except.ok.injEq, Prod.mk.injEq] at h; omega
    split at h
    · cases h
    · rename_i k d hk
      have hd := (kindF_ok hk).2.2.2.2.1
      rw [List.length_drop] at hd
      split at h
      · simp only [Except.ok.injEq, Prod.mk.injEq] at h; omega
      · split at h
        · rename_i h40
          split at h
          · cases h
          · split at h
            · cases h
            · split at h
              · rename_i h41
                have := (List.getElem?_eq_some_iff.1 h41).1
                simp only [Except.ok.injEq, Prod.mk.injEq] at h; omega
              · cases h
        · cases h
theorem here_some' {s : ByteArray} {n : Nat} (h : n < s.size) : (s.extract n s.size).toList.isEmpty = false := by
  have : ¬ bl (s.extract n s.size) = [] := fun e => by
    have := congrArg List.length e
    rw [bl_length, size_extract'] at this
    simp at this; omega
  rw [ByteArray.toList_eq]
  simpa [bl] using this
theorem run_loadVar_cell {P : Program} (w : World) (T : TypeId) {g i : Nat} {t : TypeId} {cells : Array Value} {v : Value} {d : TypeDesc} (hb : Blk w g t cells) (hi : cells[i]? = some v) (hu : P.underlying T = some d) (hd : (match d with | .struct _ | .array _ _ => true | _ => false) = false) :
    (loadVar T ⟨g, i, none⟩).run P w = .ok v w := by
  have hagg : (isAgg T).run P w = .ok false w := by
    unfold isAgg
    rw [Sem.run_bind, run_underlying hu w]
    cases d <;> simp_all
  have hc : w.cell? ⟨g, i, none⟩ = some v := (hb.cell i).trans hi
  simp [loadVar, Sem.run_bind, hagg, load, Sem.run, hc]
theorem parse_results {W : World} {g0 g1 g2 : Nat} {cs tmps : Array Value} {v1 v2 : Value} (h0 : Blk W g0 26 cs) (hc : cs.size = 3) (h1 : Blk W g1 3 #[v1]) (h2 : Blk W g2 27 #[v2])
    (p0 : tmps.getD 2 undef = .pointer (some ⟨g0, 0, none⟩)) (p1 : tmps.getD 3 undef = .pointer (some ⟨g1, 0, none⟩)) (p2 : tmps.getD 4 undef = .pointer (some ⟨g2, 0, none⟩)) :
    (results Tryd.f8 tmps).run Tryd.prog W = .ok (.tuple #[.agg cs, v1, v2]) W := by
  have e0 := run_loadVar_row (P := Tryd.prog) W g0 26 26 cs (0, 0) _ h0 Tryd.underlying26 rfl (by rw [hc]; kernel_rfl)
  have e1 := run_loadVar_cell (P := Tryd.prog) W 3 h1 (i := 0) rfl Tryd.underlying3 rfl
  have e2 := run_loadVar_cell (P := Tryd.prog) W 27 h2 (i := 0) rfl Tryd.underlying27 rfl
  simp only [Array.getD_eq_getD_getElem?] at p0 p1 p2
  simp [results, p0, p1, p2, asAddr, e0, e1, e2]
set_option maxRecDepth 100000 in
set_option maxHeartbeats 2000000 in
theorem Parse_calls (s : ByteArray) (hs : s.size ≤ maxLen) (w : World) : Calls Tryd.prog 8 #[.string s] w (ParsePost w (parseF (bl s))) := by
  have hv := fun (r : Nat) (W : World) (hR : RD W r s 0 0) => val_said 257 0 r s 0 0 W (by omega) hR (by omega) hs (by omega) (by omega)
  have hm0 : mayV 0 = .func (.func 27) #[] #[] := rfl
  simp only [hm0] at hv
  clear hm0
  cases hx : valueF 257 (bl s) 0 0 0 with
  | error e0 =>
    have hF : parseF (bl s) = .error e0 := by unfold parseF; rw [hx]
    rw [hF]
    rw [hx] at hv
    have Hv := Lib.hid hv
    clear hv hx hF
    go_enter_defers Tryd.func8, Tryd.ntmps8
    go_wp2_with (first
          | ((with_reducible refine gate_dst (N := 2) rfl ?_); refine box_event rfl (N := 2) rfl (cs := val0) (t := 26) (by kernel_rfl) ?_; intro g0 hg0 w1 hb0 hbel1; have hge0 : w.heap.size ≤ g0 := Nat.le_of_eq hg0.symm; clear hg0)
          | ((with_reducible refine gate_dst (N := 3) rfl ?_); refine box_event rfl (N := 3) rfl (cs := #[.int .i64 0]) (t := 3) (by kernel_rfl) ?_; intro g1 hg1 w2 hb1 hbel2; have hge1 : w1.heap.size ≤ g1 := Nat.le_of_eq hg1.symm; clear hg1)
          | ((with_reducible refine gate_dst (N := 4) rfl ?_); refine box_event rfl (N := 4) rfl (cs := #[.int .i64 0]) (t := 27) (by kernel_rfl) ?_; intro g2 hg2 w3 hb2 hbel3; have hge2 : w2.heap.size ≤ g2 := Nat.le_of_eq hg2.symm; clear hg2)
          | ((with_reducible refine gate_dst (N := 9) rfl ?_); refine box_event rfl (N := 9) rfl (cs := #[.string s, .int .i64 0, .int .i64 0]) (t := 65) (by kernel_rfl) ?_; intro r hr w4 hR4' hbel4; have hge3 : w3.heap.size ≤ r := Nat.le_of_eq hr.symm; clear hr; have hR4 : RD w4 r s 0 0 := hR4'; clear hR4'; have hB0 : Blk w4 g0 26 val0 := blk_below2 hbel4 (blk_below2 hbel3 (blk_below2 hbel2 hb0)); have hB1 : Blk w4 g1 3 #[.int .i64 0] := blk_below2 hbel4 (blk_below2 hbel3 hb1); have hB2 : Blk w4 g2 27 #[.int .i64 0] := blk_below2 hbel4 hb2; have l0 := blk_lt hb0; have l1 := blk_lt hb1; have l2 := blk_lt hb2; have hBel : Below w.heap.size w w4 := below_step (below_step (below_step hbel1 hbel2) hbel3) hbel4; have h01 : g1 ≠ g0 := (by omega); have h02 : g2 ≠ g0 := (by have := hbel2.size; omega); have h12 : g2 ≠ g1 := (by omega); have h01' := h01.symm; have h02' := h02.symm; have h12' := h12.symm; have n0 : g0 ≠ r := (by have := hbel2.size; have := hbel3.size; omega); have n1 : g1 ≠ r := (by have := hbel3.size; omega); have n2 : g2 ≠ r := (by omega); have ge0 : w.heap.size ≤ g0 := hge0; have ge1 : w.heap.size ≤ g1 := (by have := hbel1.size; omega); have ge2 : w.heap.size ≤ g2 := (by have := hbel1.size; have := hbel2.size; omega); have ger : w.heap.size ≤ r := (by have := hbel1.size; have := hbel2.size; have := hbel3.size; omega); clear hge0 hge1 hge2 hge3 l0 l1 l2 hbel1 hbel2 hbel3 hbel4 hb0 hb1 hb2)
          | (go_at_call 26; (with_reducible refine (Hv.out _ _ hR4).mono ?_); rintro e w5 ⟨rfl, ⟨q, hR5⟩, hg5⟩))
    refine leaves_cons (f := 25) (args := #[.pointer (some ⟨g0, 0, none⟩), .pointer (some ⟨g1, 0, none⟩), .pointer (some ⟨g2, 0, none⟩)]) (by simp) (by simp [go_sem]) ?_
    refine (caught_wrong g0 g1 g2 e0 [] w5 val0 (.int .i64 0) (.int .i64 0) rfl (blk_grown hB0 hg5 (by simpa using n0)) (blk_grown hB1 hg5 (by simpa using n1)) (blk_grown hB2 hg5 (by simpa using n2)) h01' h02' h12').mono ?_
    rintro e u' w' ⟨rfl, rfl, k0, k1, k2, hB⟩
    refine ⟨_, parse_results k0 rfl k1 k2 rfl rfl rfl, rfl, hB w (hBel.grown hg5 hBel.size (by rintro k ⟨⟩; exact ger)) ge0 ge1 ge2⟩
  | ok x =>
    obtain ⟨t, at2, parts2⟩ := x
    rw [hx] at hv
    have Hv := Lib.hid hv
    by_cases hat : at2 = s.size
    · have hF : parseF (bl s) = .ok t := by unfold parseF; rw [hx]; simp [bl_length, hat]
      rw [hF]
      clear hF hx hv
      have hb2 : (s.extract at2 s.size).toList.isEmpty = true := by rw [ByteArray.toList_eq, hat]; simp
      clear hat
      go_enter_defers Tryd.func8, Tryd.ntmps8
      go_wp2_with (first
          | ((with_reducible refine gate_dst (N := 2) rfl ?_); refine box_event rfl (N := 2) rfl (cs := val0) (t := 26) (by kernel_rfl) ?_; intro g0 hg0 w1 hb0 hbel1; have hge0 : w.heap.size ≤ g0 := Nat.le_of_eq hg0.symm; clear hg0)
          | ((with_reducible refine gate_dst (N := 3) rfl ?_); refine box_event rfl (N := 3) rfl (cs := #[.int .i64 0]) (t := 3) (by kernel_rfl) ?_; intro g1 hg1 w2 hb1 hbel2; have hge1 : w1.heap.size ≤ g1 := Nat.le_of_eq hg1.symm; clear hg1)
          | ((with_reducible refine gate_dst (N := 4) rfl ?_); refine box_event rfl (N := 4) rfl (cs := #[.int .i64 0]) (t := 27) (by kernel_rfl) ?_; intro g2 hg2 w3 hb2 hbel3; have hge2 : w2.heap.size ≤ g2 := Nat.le_of_eq hg2.symm; clear hg2)
          | ((with_reducible refine gate_dst (N := 9) rfl ?_); refine box_event rfl (N := 9) rfl (cs := #[.string s, .int .i64 0, .int .i64 0]) (t := 65) (by kernel_rfl) ?_; intro r hr w4 hR4' hbel4; have hge3 : w3.heap.size ≤ r := Nat.le_of_eq hr.symm; clear hr; have hR4 : RD w4 r s 0 0 := hR4'; clear hR4'; have hB0 : Blk w4 g0 26 val0 := blk_below2 hbel4 (blk_below2 hbel3 (blk_below2 hbel2 hb0)); have hB1 : Blk w4 g1 3 #[.int .i64 0] := blk_below2 hbel4 (blk_below2 hbel3 hb1); have hB2 : Blk w4 g2 27 #[.int .i64 0] := blk_below2 hbel4 hb2; have l0 := blk_lt hb0; have l1 := blk_lt hb1; have l2 := blk_lt hb2; have hBel : Below w.heap.size w w4 := below_step (below_step (below_step hbel1 hbel2) hbel3) hbel4; have h01 : g1 ≠ g0 := (by omega); have h02 : g2 ≠ g0 := (by have := hbel2.size; omega); have h12 : g2 ≠ g1 := (by omega); have h01' := h01.symm; have h02' := h02.symm; have h12' := h12.symm; have n0 : g0 ≠ r := (by have := hbel2.size; have := hbel3.size; omega); have n1 : g1 ≠ r := (by have := hbel3.size; omega); have n2 : g2 ≠ r := (by omega); have ge0 : w.heap.size ≤ g0 := hge0; have ge1 : w.heap.size ≤ g1 := (by have := hbel1.size; omega); have ge2 : w.heap.size ≤ g2 := (by have := hbel1.size; have := hbel2.size; omega); have ger : w.heap.size ≤ r := (by have := hbel1.size; have := hbel2.size; have := hbel3.size; omega); clear hge0 hge1 hge2 hge3 l0 l1 l2 hbel1 hbel2 hbel3 hbel4 hb0 hb1 hb2)
          | (go_at_call 26; (with_reducible refine (Hv.out _ _ hR4).mono ?_); rintro e w5 ⟨⟨v2, rfl, hK5⟩, hR5, hg5, hle5, _⟩; obtain ⟨A5, c5, rfl⟩ := Kd.R_slice hK5; have hb50 : Blk w5 g0 26 val0 := blk_grown hB0 hg5 (by simpa using n0); have hb51 : Blk w5 g1 3 #[.int .i64 0] := blk_grown hB1 hg5 (by simpa using n1); have hb52 : Blk w5 g2 27 #[.int .i64 0] := blk_grown hB2 hg5 (by simpa using n2))
          | ((with_reducible refine gate_store (t := 26) (p := 2) rfl ?_); refine store_row_event rfl rfl rfl rfl hb50 (by kernel_rfl) rfl (by kernel_rfl) ?_; intro w6 hb6 hg6; have hR6 : RD w6 r s _ _ := blk_grown hR5 hg6 (by simpa using n0.symm); have hb61 : Blk w6 g1 3 #[.int .i64 0] := blk_grown hb51 hg6 (by simpa using h01); have hb62 : Blk w6 g2 27 #[.int .i64 0] := blk_grown hb52 hg6 (by simpa using h02); clear hb50)
          | (go_at_call 29; (with_reducible refine (here_calls hR6 hle5).mono ?_); rintro e w' ⟨rfl, q, rfl⟩)
          | (go_at_call 28; (with_reducible refine (must_ok _ _).mono ?_); rintro e w7 ⟨rfl, rfl⟩)
          | ((with_reducible refine gate_dst (N := 19) rfl ?_); refine wpList_load_row rfl 26 _ rfl g0 rfl 26 _ (0, 0) _ (blk_drewN hb6 _) Tryd.underlying26 rfl (by kernel_rfl) ?_)
          | ((with_reducible refine gate_store (t := 26) (p := 2) rfl ?_); refine store_row_event rfl rfl rfl rfl (blk_drewN hb6 _) (by kernel_rfl) rfl (by kernel_rfl) ?_; intro w8 hb8 hg8; have hb81 : Blk w8 g1 3 #[.int .i64 0] := blk_grown (blk_drewN hb61 _) hg8 (by simpa using h01); have hb82 : Blk w8 g2 27 #[.int .i64 0] := blk_grown (blk_drewN hb62 _) hg8 (by simpa using h02))
          | ((with_reducible refine gate_store (t := 3) (p := 3) rfl ?_); refine store_cell_event rfl rfl rfl rfl hb81 rfl (by kernel_rfl) rfl rfl ?_; intro w9 hb91 hg9; have hb90 : Blk w9 g0 26 _ := blk_grown hb8 hg9 (by simpa using h01'); have hb92 : Blk w9 g2 27 #[.int .i64 0] := blk_grown hb82 hg9 (by simpa using h12))
          | ((with_reducible refine gate_store (t := 27) (p := 4) rfl ?_); refine store_cell_event rfl rfl rfl rfl hb92 rfl (by kernel_rfl) rfl rfl ?_; intro w10 hb102 hg10; have hb100 : Blk w10 g0 26 _ := blk_grown hb90 hg10 (by simpa using h02'); have hb101 : Blk w10 g1 3 #[.int .i64 0] := blk_grown hb91 hg10 (by simpa using h12')))
      refine leaves_cons (f := 25) (args := #[.pointer (some ⟨g0, 0, none⟩), .pointer (some ⟨g1, 0, none⟩), .pointer (some ⟨g2, 0, none⟩)]) (by simp) (by simp [go_sem]) ?_
      refine (caught_idle g0 g1 g2 w10).mono ?_
      rintro e u' w' ⟨rfl, rfl, rfl⟩
      have q0 := hB0.lt
      have q1 := hB1.lt
      have q2 := hB2.lt
      have hKb := Kd.R_bound hK5
      have k6 := Kd.R_grown hKb hg6 (fun j hj e => by have h1 := hj.2.1; injection e with e; omega)
      have k8 := Kd.R_grown (Kd.R_drewN k6 q) hg8 (fun j hj e => by have h1 := hj.2.1; injection e with e; omega)
      have k9 := Kd.R_grown k8 hg9 (fun j hj e => by have h1 := hj.2.1; injection e with e; omega)
      have k10 := Kd.R_grown k9 hg10 (fun j hj e => by have h1 := hj.2.1; injection e with e; omega)
      refine ⟨_, parse_results hb100 rfl hb101 hb102 rfl rfl rfl, ⟨_, rfl, Kd.R_mono (Kd.R_lower k10 hBel.size) (fun _ _ => trivial)⟩, ?_⟩
      have b5 := hBel.grown hg5 hBel.size (by rintro k ⟨⟩; exact ger)
      have b6 := b5.grown hg6 b5.size (by rintro k ⟨⟩; exact ge0)
      have b8 := b6.grown (grownBy_drewN' hg8) b6.size (by rintro k ⟨⟩; exact ge0)
      have b9 := b8.grown hg9 b8.size (by rintro k ⟨⟩; exact ge1)
      exact b9.grown hg10 b9.size (by rintro k ⟨⟩; exact ge2)
    · have hF : parseF (bl s) = .error at2 := by unfold parseF; rw [hx]; simp [bl_length, hat]
      rw [hF]
      have hle2 : at2 ≤ s.size := by have := valueF_at hx; rwa [bl_length] at this
      clear hF hx hv
      have hb2 : (s.extract at2 s.size).toList.isEmpty = false := here_some' (by omega)
      clear hat
      
      go_enter_defers Tryd.func8, Tryd.ntmps8
      go_wp2_with (first
          | ((with_reducible refine gate_dst (N := 2) rfl ?_); refine box_event rfl (N := 2) rfl (cs := val0) (t := 26) (by kernel_rfl) ?_; intro g0 hg0 w1 hb0 hbel1; have hge0 : w.heap.size ≤ g0 := Nat.le_of_eq hg0.symm; clear hg0)
          | ((with_reducible refine gate_dst (N := 3) rfl ?_); refine box_event rfl (N := 3) rfl (cs := #[.int .i64 0]) (t := 3) (by kernel_rfl) ?_; intro g1 hg1 w2 hb1 hbel2; have hge1 : w1.heap.size ≤ g1 := Nat.le_of_eq hg1.symm; clear hg1)
          | ((with_reducible refine gate_dst (N := 4) rfl ?_); refine box_event rfl (N := 4) rfl (cs := #[.int .i64 0]) (t := 27) (by kernel_rfl) ?_; intro g2 hg2 w3 hb2 hbel3; have hge2 : w2.heap.size ≤ g2 := Nat.le_of_eq hg2.symm; clear hg2)
          | ((with_reducible refine gate_dst (N := 9) rfl ?_); refine box_event rfl (N := 9) rfl (cs := #[.string s, .int .i64 0, .int .i64 0]) (t := 65) (by kernel_rfl) ?_; intro r hr w4 hR4' hbel4; have hge3 : w3.heap.size ≤ r := Nat.le_of_eq hr.symm; clear hr; have hR4 : RD w4 r s 0 0 := hR4'; clear hR4'; have hB0 : Blk w4 g0 26 val0 := blk_below2 hbel4 (blk_below2 hbel3 (blk_below2 hbel2 hb0)); have hB1 : Blk w4 g1 3 #[.int .i64 0] := blk_below2 hbel4 (blk_below2 hbel3 hb1); have hB2 : Blk w4 g2 27 #[.int .i64 0] := blk_below2 hbel4 hb2; have l0 := blk_lt hb0; have l1 := blk_lt hb1; have l2 := blk_lt hb2; have hBel : Below w.heap.size w w4 := below_step (below_step (below_step hbel1 hbel2) hbel3) hbel4; have h01 : g1 ≠ g0 := (by omega); have h02 : g2 ≠ g0 := (by have := hbel2.size; omega); have h12 : g2 ≠ g1 := (by omega); have h01' := h01.symm; have h02' := h02.symm; have h12' := h12.symm; have n0 : g0 ≠ r := (by have := hbel2.size; have := hbel3.size; omega); have n1 : g1 ≠ r := (by have := hbel3.size; omega); have n2 : g2 ≠ r := (by omega); have ge0 : w.heap.size ≤ g0 := hge0; have ge1 : w.heap.size ≤ g1 := (by have := hbel1.size; omega); have ge2 : w.heap.size ≤ g2 := (by have := hbel1.size; have := hbel2.size; omega); have ger : w.heap.size ≤ r := (by have := hbel1.size; have := hbel2.size; have := hbel3.size; omega); clear hge0 hge1 hge2 hge3 l0 l1 l2 hbel1 hbel2 hbel3 hbel4 hb0 hb1 hb2)
          | (go_at_call 26; (with_reducible refine (Hv.out _ _ hR4).mono ?_); rintro e w5 ⟨⟨v2, rfl, hK5⟩, hR5, hg5, _, _⟩; obtain ⟨A5, c5, rfl⟩ := Kd.R_slice hK5; have hb50 : Blk w5 g0 26 val0 := blk_grown hB0 hg5 (by simpa using n0); have hb51 : Blk w5 g1 3 #[.int .i64 0] := blk_grown hB1 hg5 (by simpa using n1); have hb52 : Blk w5 g2 27 #[.int .i64 0] := blk_grown hB2 hg5 (by simpa using n2))
          | ((with_reducible refine gate_store (t := 26) (p := 2) rfl ?_); refine store_row_event rfl rfl rfl rfl hb50 (by kernel_rfl) rfl (by kernel_rfl) ?_; intro w6 hb6 hg6; have hR6 : RD w6 r s _ _ := blk_grown hR5 hg6 (by simpa using n0.symm); have hb61 : Blk w6 g1 3 #[.int .i64 0] := blk_grown hb51 hg6 (by simpa using h01); have hb62 : Blk w6 g2 27 #[.int .i64 0] := blk_grown hb52 hg6 (by simpa using h02); clear hb50)
          | (go_at_call 29; (with_reducible refine (here_calls hR6 hle2).mono ?_); rintro e w' ⟨rfl, q, rfl⟩)
          | (go_at_call 28; (with_reducible refine (must_bad (hR6.dr _)).mono ?_); rintro e w7 ⟨rfl, rfl⟩))
      refine leaves_cons (f := 25) (args := #[.pointer (some ⟨g0, 0, none⟩), .pointer (some ⟨g1, 0, none⟩), .pointer (some ⟨g2, 0, none⟩)]) (by simp) (by simp [go_sem]) ?_
      refine (caught_wrong g0 g1 g2 at2 [] _ _ (.int .i64 0) (.int .i64 0) rfl (blk_drewN hb6 _) (blk_drewN hb61 _) (blk_drewN hb62 _) h01' h02' h12').mono ?_
      rintro e u' w' ⟨rfl, rfl, k0, k1, k2, hB⟩
      have b5 := hBel.grown hg5 hBel.size (by rintro k ⟨⟩; exact ger)
      have b6 := b5.grown hg6 b5.size (by rintro k ⟨⟩; exact ge0)
      refine ⟨_, parse_results k0 rfl k1 k2 rfl rfl rfl, rfl, hB w (pw_below_drewN b6 _) ge0 ge1 ge2⟩
end Go.Proofs.YtfnekpgbfdhnmaaDoor

namespace Go.Proofs.YtfnekpgbfdhnmaaDoor
open Go.RowKit Go.Proofs.YtfnekpgbfdhnmaaDoorW.PrintWords Go.Proofs.YtfnekpgbfdhnmaaDoorW.PrintLast Go.Proofs.YtfnekpgbfdhnmaaDoorW.PrintMore Go.Proofs.YtfnekpgbfdhnmaaDoor.PAll
attribute [local go_sem] Oper.semAt_some
def eachL : List (List UInt8) → Nat → List (Nat × Tree)
  | [], _ => []
  | x :: xs, i => match parseF (Lib.trimSuffix x [10]) with
    | .ok t => (i, t) :: eachL xs (i + 1)
    | .error _ => []
def eachF (s : List UInt8) : List (Nat × Tree) := eachL (linesOf s) 0
/-- What is handed on. -/
def eachEnc (p : Nat × Tree) (A : World) (vs : Array Value) : Prop :=
  ∃ Ad c, vs = #[.int .i64 p.1, .agg #[.int .i64 p.2.f0, .int .i64 p.2.f1, .slice Ad p.2.f2.length c]] ∧ p.2.f2.length ≤ c ∧ Kd.C k26 A Ad p.2.f2.length p.2.f2
theorem linesOf_len : ∀ l : List UInt8, (linesOf l).length ≤ l.length
  | [] => by simp [linesOf]
  | b :: r => by
    have ih := linesOf_len r
    rw [linesOf]
    split
    · simp; omega
    · split <;> rename_i h <;> rw [h] at ih <;> simp at ih ⊢ <;> omega
theorem linesOf_mem : ∀ (l x : List UInt8), x ∈ linesOf l → x.length ≤ l.length
  | [], x, h => by simp [linesOf] at h
  | b :: r, x, h => by
    have ih := linesOf_mem r
    rw [linesOf] at h
    split at h
    · rcases List.mem_cons.1 h with rfl | h
      · simp
      · have := ih x h; simp; omega
    · split at h
      · simp at h; subst h; simp
      · rename_i y ys hy
        rw [hy] at ih
        rcases List.mem_cons.1 h with rfl | h
        · have := ih y (by simp); simp; omega
        · have := ih x (by simp [h]); simp; omega
section
variable {P : Program} {ops : Array Oper} {rest : List Oper} {o : Oper} {a : Act} {Q : Exit → Act → World → Prop}
theorem box_event2 {W : World} (hgd : o.guard = none) {N : Tmp} (_hd : o.dst = some N) {cs : Array Value} {t : TypeId}
    (hrun : (execOp a.eval o).run P W = .ok (.value (.pointer (some ⟨W.heap.size, 0, none⟩))) (W.alloc (.cells cs t (0, 0))))
    (h : ∀ g, Hid (g = W.heap.size) → ∀ w1, Blk w1 g t cs → Below W.heap.size W w1 → Hid (w1.heap.size = W.heap.size + 1) → wpList P ops Q rest (a.put o.dst (.pointer (some ⟨g, 0, none⟩))) w1) : wpList P ops Q (o :: rest) a W :=
  Kd.event_run hgd hrun (h _ (Lib.hid rfl) _ (blk_new W _) (below_alloc (Below.refl _ _) _) (Lib.hid (World.size_alloc ..)))
theorem store_cell_event2 {W : World} (hgd : o.guard = none) {T : TypeId} {p : Tmp} {x : Operand} (ho : o.op = .store T (.tmp p) x) (hN : o.dst = none)
    {g i : Nat} {cells cells' : Array Value} {old v : Value} {t : TypeId} (hx : (a.eval (.tmp p), a.eval x) = (.pointer (some ⟨g, i, none⟩), v)) (hb : Blk W g t cells) (hi : cells[i]? = some old) (hT : (P.info? T).map (·.size) = some 1)
    (h1 : v.oneCell' = true) (he : cells.setIfInBounds i v = cells')
    (h : ∀ w2, Blk w2 g t cells' → W.grownBy w2 (some g) → Hid (w2.heap.size = W.heap.size) → wpList P ops Q rest a w2) : wpList P ops Q (o :: rest) a W := by
  refine store_event (w1 := W.setCell ⟨g, i, none⟩ v) hgd ho hN ?_ (fun w' hw => ?_)
  · injection hx with hx1 hx2
    have := run_storeVar_cell (P := P) W T hb hi hT h1
    unfold execOp
    simp only [ho, hx1, hx2, Instr.storeAt, Instr.sureAddr, Sem.run_bind, Sem.run_pure, Result.andThen_ok, this]
  · subst hw
    exact h _ (blk_put hb i v he) (grownBy_set (World.grownBy.refl _ _) _ _) (Lib.hid (by simp))
end
set_option maxRecDepth 100000 in
theorem strLines_calls (s : ByteArray) (w : World) : Calls Tryd.prog 46 #[.string s] w fun e w' => ∃ g, Hid (g = w.heap.size) ∧ e = .returned (.func (.func 71) #[] #[.pointer (some ⟨g, 0, none⟩)]) ∧ Blk w' g 9 #[.string s] ∧ Below w.heap.size w w' ∧ Hid (w'.heap.size = w.heap.size + 1) := by
  go_enter Tryd.func46, Tryd.ntmps46
  go_wp2_with ((with_reducible refine gate_dst (N := 1) rfl ?_); refine box_event2 rfl (N := 1) rfl (cs := #[.string s]) (t := 9) (by kernel_rfl) ?_; intro g hg w1 hb1 hbel1 hs1)
  go_ret
  exact ⟨g, hg, rfl, hb1, hbel1, hs1⟩
set_option maxRecDepth 100000 in
set_option maxHeartbeats 2000000 in
theorem each_said (sb : Nat) (s : List UInt8) (hs : s.length ≤ 140737488355328) :
    IterRel Tryd.prog 45 #[.pointer (some ⟨sb, 0, none⟩)] eachEnc (eachF s) (fun _ => False) (fun _ => False) 5 (fun W => Blk W sb 9 #[.string (strOf s)]) := by
  intro l J Jx W hW hJ hJx hY h0
  refine callsIn_wide.2 ?_
  refine calls_of_wp_marks Tryd.func45 rfl ?_
  simp only [Tryd.ntmps45, List.size_toArray, List.length_cons, List.length_nil, Nat.reduceAdd, Nat.reduceSub, Array.replicate_succ, Array.replicate_zero, List.push_toArray, List.append_toArray, List.nil_append, List.cons_append]
  have hc0 : W.cell? ⟨sb, 0, none⟩ = some (.string (strOf s)) := hW.cell 0
  go_wp2_with ((with_reducible refine gate_dst (N := 2) rfl ?_); refine box_event2 rfl (N := 2) rfl (cs := #[.func (.yield l) #[] #[]]) (t := 97) (by kernel_rfl) ?_; intro g2 hg2 w1 hb1 hbel1 hs1)
  go_step3
  go_wp2_with (first
    | ((with_reducible refine gate_dst (N := 3) rfl ?_); refine box_event2 rfl (N := 3) rfl (cs := #[.int .i64 0]) (t := 3) (by kernel_rfl) ?_; intro g3 hg3 w2 hb2 hbel2 hs2)
    | ((with_reducible refine gate_store (t := 3) (p := 3) rfl ?_); refine store_cell_event2 rfl rfl rfl rfl hb2 rfl (by kernel_rfl) rfl rfl ?_; intro w3 hb3 hgr3 hs3; have hW3 : Blk w3 sb 9 #[.string (strOf s)] := blk_grown (blk_below (blk_below hW hbel1) hbel2) hgr3 (by have h1 := hg3.out; have h2 := hbel1.size; have h3 := hW.lt; intro e; injection e with e; omega)))
  go_step3
  go_wp2_with (first
    | ((with_reducible refine gate_dst (N := 8) rfl ?_); refine load_cell_event rfl rfl rfl hW3 rfl Tryd.underlying9 rfl ?_)
    | (go_at_call 46; (with_reducible refine (strLines_calls (strOf s) w3).mono ?_); rintro e w4 ⟨g4, hg4, rfl, hb4, hbel4, hs4⟩; skip))
  have hs4' : w4.heap.size = W.heap.size + 3 := by rw [hs4.out, hs3.out, hs2.out, hs1.out]
  have hg2' := hg2.out
  have hg3' : g3 = W.heap.size + 1 := by rw [hg3.out, hs1.out]
  have hg4' : g4 = W.heap.size + 2 := by rw [hg4.out, hs3.out, hs2.out, hs1.out]
  have hb24 : Blk w4 g2 97 #[.func (.yield l) #[] #[]] := blk_below (blk_grown (blk_below hb1 hbel2) hgr3 (by intro e; injection e with e; omega)) hbel4
  have hb34 : Blk w4 g3 3 #[.int .i64 0] := blk_below hb3 hbel4
  have hB4 : Below W.heap.size W w4 := ((hbel1.trans (hbel2.mono hbel1.size)).grown hgr3 (by have := hbel1.size; have := hbel2.size; omega) (by rintro k ⟨⟩; omega)).trans (hbel4.mono (by rw [hs3.out, hs2.out, hs1.out]; omega))
  have hJ4 : J [] w4 := hJ _ _ _ h0 (Nat.le_refl _) (Chg.of_below hB4 _)
  clear hg2 hg3 hg4 hs1 hs2 hs3 hs4 hW3 hb1 hb2 hb3 hbel1 hbel2 hbel4 hgr3 hc0
  refine wp_iter (gf := 71) (lb := #[.pointer (some ⟨g4, 0, none⟩)]) rfl (enters Tryd.func71 (by kernel_rfl) rfl) (lines_said g4 (fun _ => False) s (by omega)) (fun _ => rfl)
    (fun W' hW' => blk_below hb4 hW')
    (fun pre A => ∃ ps, eachF s = ps ++ eachL ((linesOf s).drop pre.length) pre.length ∧ J ps A ∧ Blk A g2 97 #[.func (.yield l) #[] #[]] ∧ Blk A g3 3 #[.int .i64 (pre.length : Nat)])
    (fun q _ A => q = .exit 0 ∧ (J (eachF s) A ∨ ∃ p x, (p ++ [x]) <+: eachF s ∧ Jx (p ++ [x]) A))
    (fun k h => h.elim) (fun k hk => by omega) ?hI ?hIx ⟨[], rfl, hJ4, hb24, hb34⟩ ?round ?done ?stop
  case hI =>
    rintro pre A B ⟨ps, h1, h2, h3, h4⟩ hsz hc
    have hno : ∀ k, loopOwn (fun k => k = g4) w4.heap.size 0 k → W.heap.size ≤ k ∧ k < W.heap.size + 5 ∧ k ≠ g2 ∧ k ≠ g3 := fun k hk => by
      rcases hk with h | h | h | h <;> omega
    exact ⟨ps, h1, hJ _ _ _ h2 (by omega) (hc.mono fun k hk => .inr ⟨(hno k hk).1, (hno k hk).2.1⟩), hc.blk h3 (fun h => (hno _ h).2.2.1 rfl), hc.blk h4 (fun h => (hno _ h).2.2.2 rfl)⟩
  case hIx =>
    rintro q pre A B ⟨hq, h⟩ hsz hc
    have hno : ∀ k, loopOwn (fun k => k = g4) w4.heap.size 0 k → W.heap.size ≤ k ∧ k < W.heap.size + 5 := fun k hk => by
      rcases hk with h | h | h | h <;> omega
    have hc' := hc.mono fun k hk => (.inr (hno k hk) : itOwn (fun _ => False) W.heap.size 5 k)
    rcases h with h | ⟨p, x, hp, h⟩
    · exact ⟨hq, .inl (hJ _ _ _ h (by omega) hc')⟩
    · exact ⟨hq, .inr ⟨p, x, hp, hJx _ _ _ h (by omega) hc'⟩⟩
  case round =>
    rintro pre x A ⟨ps, h1, h2, h3, h4⟩ hpre hsz
    have hdr : (linesOf s).drop pre.length = x :: (linesOf s).drop (pre.length + 1) := by
      obtain ⟨r, hr⟩ := hpre
      rw [← hr]; simp
    rw [hdr, eachL] at h1
    simp only [List.zip_toArray, List.zip_cons_cons, List.zip_nil_right, List.foldl_toArray, List.foldl_cons, List.foldl_nil, List.setIfInBounds_toArray, List.set_cons_succ, List.set_cons_zero]
    refine region_inRound (by rintro ⟨_, _, h⟩; exact h) (by kernel_rfl) ?_
    go_wp2
    refine ⟨Chg.refl _ _, fun A2 hA2 => ?_⟩
    have hsA2 := hA2.size
    have hJ2 : J ps A2 := hJ _ _ _ h2 (by omega) (hA2.mono fun k hk => .inr (by omega))
    have hb22 := hA2.blk h3 (by omega)
    have hb32 := hA2.blk h4 (by omega)
    clear h2 h3 h4
    have hxl : x.length ≤ 140737488355328 := by have := linesOf_mem s x (hpre.subset (by simp)); omega
    have htr : (Lib.trimSuffix x [10]).length ≤ x.length := by unfold Lib.trimSuffix; split <;> simp
    have hts : ∀ W', Calls Tryd.prog 47 #[.string (strOf x), .string ⟨#[10]⟩] W' fun e w' => e = .returned (.string (strOf (Lib.trimSuffix x [10]))) ∧ w' = W' := fun W' => Tryd.strings_TrimSuffix (strOf x) ⟨#[10]⟩ W' (by simp [strOf, ByteArray.size]; omega)
    have Hg2 := Lib.hid hg2'
    have Hg3 := Lib.hid hg3'
    have Hg4 := Lib.hid hg4'
    have Hs4 := Lib.hid hs4'
    clear hg2' hg3' hg4' hs4'
    have hpa := fun W' => Parse_calls (strOf (Lib.trimSuffix x [10])) (by simp [strOf, ByteArray.size, maxLen]; omega) W'
    have hH1 := Lib.hid h1
    clear h1
    cases hp : parseF (Lib.trimSuffix x [10]) with
    | error e =>
      have hH2 : Hid (eachF s = ps ++ []) := Lib.hid (by rw [hH1.out, hp])
      clear hH1
      have hpa' : ∀ W', Calls Tryd.prog 8 #[.string (strOf (Lib.trimSuffix x [10]))] W' (ParsePost W' (.error e)) := fun W' => by rw [← hp]; exact hpa W'
      have Hpa := Lib.hid hpa'
      have Hp := Lib.hid hp
      have Hdr := Lib.hid hdr
      clear hpa hpa' hp hdr
      apply wpIn_block
      refine wpIn_seq ?_
      refine region_inRound (by rintro ⟨_, _, h⟩; exact h) (by kernel_rfl) ?_
      go_wp2_with (first
        | (go_at_call 47; (with_reducible refine (hts _).mono ?_); rintro e w5 ⟨rfl, rfl⟩)
        | (go_at_call 8; (with_reducible refine (Hpa.out _).mono ?_); rintro e w6 ⟨rfl, hbel6⟩))
      gi_wp2
      refine ⟨(by simp), ?_⟩
      gi_wp2
      have hcE : Chg (fun _ => False) w5 (w6.alloc (.cells #[.int .i64 0, .int .i64 0, .slice none 0 0] 26)) := (Chg.of_below hbel6 _).trans (Chg.alloc _ _ _)
      have hw4 := Hs4.out
      refine ⟨hcE.mono (fun _ h => h.elim), rfl, .inl ?_⟩
      rw [hH2.out, List.append_nil]
      exact hJ _ _ _ hJ2 (by omega) (hcE.mono (fun _ h => h.elim))
    | ok t =>
      have hH2 : Hid (eachF s = ps ++ ((pre.length, t) :: eachL ((linesOf s).drop (pre.length + 1)) (pre.length + 1))) := Lib.hid (by rw [hH1.out, hp])
      clear hH1
      have hpa' : ∀ W', Calls Tryd.prog 8 #[.string (strOf (Lib.trimSuffix x [10]))] W' (ParsePost W' (.ok t)) := fun W' => by rw [← hp]; exact hpa W'
      have Hpa := Lib.hid hpa'
      have Hp := Lib.hid hp
      have Hdr := Lib.hid hdr
      clear hpa hpa' hp hdr
      apply wpIn_block
      refine wpIn_seq ?_
      refine region_inRound (by rintro ⟨_, _, h⟩; exact h) (by kernel_rfl) ?_
      go_wp2_with (first
        | (go_at_call 47; (with_reducible refine (hts _).mono ?_); rintro e w5 ⟨rfl, rfl⟩)
        | (go_at_call 8; (with_reducible refine (Hpa.out _).mono ?_); rintro e w6 ⟨⟨v2, rfl, hR6⟩, hbel6⟩; obtain ⟨Av, cv, rfl, hlv, hCv⟩ := Kd.R_reads hR6))
      have hw4 := Hs4.out
      obtain ⟨g7, hg7⟩ : ∃ g, g = w6.heap.size := ⟨_, rfl⟩
      obtain ⟨w7, hw7⟩ : ∃ w7, w6.alloc (.cells #[.int .i64 t.f0, .int .i64 t.f1, .slice Av t.f2.length cv] 26) = w7 := ⟨_, rfl⟩
      have hb7 : Blk w7 g7 26 #[.int .i64 t.f0, .int .i64 t.f1, .slice Av t.f2.length cv] := by rw [← hw7, hg7]; exact blk_new _ _
      have hB7 : Below w6.heap.size w6 w7 := by rw [← hw7]; exact below_alloc (Below.refl _ _) _
      have hC7 := Kd.C_below hCv hB7
      have hc7 : Chg (fun _ => False) w5 w7 := (Chg.of_below hbel6 _).trans (Chg.of_below hB7 _)
      rw [hw7, ← hg7]
      clear hw7 hg7 hR6 hCv
      have hb27 := hc7.blk hb22 (fun h => h)
      have hb37 := hc7.blk hb32 (fun h => h)
      have hJ7 : J ps w7 := hJ _ _ _ hJ2 (by omega) (hc7.mono (fun _ h => h.elim))
      have hs7 := hc7.size
      have hpre7 : (ps ++ [(pre.length, t)]) <+: eachF s := by rw [hH2.out]; simp
      have q2 : w7.cell? ⟨g2, 0, none⟩ = some (.func (.yield l) #[] #[]) := hb27.cell 0
      have q3 : w7.cell? ⟨g3, 0, none⟩ = some (.int .i64 (pre.length : Nat)) := hb37.cell 0
      have q70 : w7.cell? ⟨g7, 0, none⟩ = some (.int .i64 t.f0) := hb7.cell 0
      have q71 : w7.cell? ⟨g7, 1, none⟩ = some (.int .i64 t.f1) := hb7.cell 1
      have q72 : w7.cell? ⟨g7, 2, none⟩ = some (.slice Av t.f2.length cv) := hb7.cell 2
      obtain ⟨fn, tmps, assign, body, hy, hR⟩ := hY _ (pre.length, t) _ w7 hJ7 hpre7 (by omega) ⟨Av, cv, rfl, hlv, hC7⟩
      have hR' : RoundIn (Fence.wide.inRound (w4.heap.size + 1)) 0 Tryd.prog l fn tmps assign body w7 _ := hR
      clear hw4
      gi_wp2
      refine ⟨rfl, hR'.mono ?_⟩
      rintro e W8 ⟨hc8, (⟨rfl, hJ8⟩ | ⟨rfl, hJx8⟩)⟩
      · have hg2v := Hg2.out
        have hg3v := Hg3.out
        have hb28 := hc8.blk hb27 (fun h => h (.inr (.inr (by omega))))
        have hb38 := hc8.blk hb37 (fun h => h (.inr (.inr (by omega))))
        clear hg2v hg3v
        have q8 : W8.cell? ⟨g3, 0, none⟩ = some (.int .i64 (pre.length : Nat)) := hb38.cell 0
        have q8f := hb38.frozen 0
        gi_wp2
        have hg2v := Hg2.out
        have hg3v := Hg3.out
        have hg4v := Hg4.out
        have hw4 := Hs4.out
        have hlo : ∀ k, loopOwn (fun k => k = g4) w4.heap.size 0 k → W.heap.size ≤ k ∧ k < W.heap.size + 5 ∧ k ≠ g3 := fun k hk => by
          rcases hk with h | h | h | h <;> omega
        have hs8 := hc8.size
        have c0 : RkOf (fun k => k = g4) (fun _ => False) w4.heap.size 0 w5 w7 := hc7.mono (fun _ h => h.elim)
        have c1 : RkOf (fun k => k = g4) (fun _ => False) w4.heap.size 0 w7 W8 := hc8.mono fun k hk h => hk (.inr (.inr (h.elim (fun h => h.elim) fun h => ⟨(hlo k h).1, (hlo k h).2.1⟩)))
        have c2 : ∀ v, RkOf (fun k => k = g4) (fun _ => False) w4.heap.size 0 W8 (W8.setCell ⟨g3, 0, none⟩ v) := fun v => (chg_setCell W8 g3 0 v).mono fun k hk h => h.elim (fun h => h.elim) fun h => (hlo k h).2.2 hk
        refine ⟨c0.trans (c1.trans (c2 _)), ps ++ [(pre.length, t)], ?_, ?_, ?_, ?_⟩
        · rw [hH2.out]; simp
        · exact hJ _ _ _ hJ8 (by omega) ((chg_setCell W8 g3 0 _).mono fun k hk => .inr (by omega))
        · exact blk_far hb28 (by show g2 ≠ g3; omega) _
        · refine blk_put hb38 0 _ ?_
          have hpl : pre.length < s.length := by have h1 := hpre.length_le; have h2 := linesOf_len s; simp at h1; omega
          simp [wrap64]
          omega
      · gi_wp2
        have hg4v := Hg4.out
        have hw4 := Hs4.out
        have hlo : ∀ k, loopOwn (fun k => k = g4) w4.heap.size 0 k → W.heap.size ≤ k ∧ k < W.heap.size + 5 := fun k hk => by
          rcases hk with h | h | h | h <;> omega
        have c0 : RkOf (fun k => k = g4) (fun _ => False) w4.heap.size 0 w5 w7 := hc7.mono (fun _ h => h.elim)
        have c1 : RkOf (fun k => k = g4) (fun _ => False) w4.heap.size 0 w7 W8 := hc8.mono fun k hk h => hk (.inr (.inr (h.elim (fun h => h.elim) (hlo k))))
        exact ⟨c0.trans c1, rfl, .inr ⟨_, _, hpre7, hJx8⟩⟩
  case done =>
    rintro W6 ⟨ps, h1, h2, h3, h4⟩ hD
    have hDs := (Array.getElem?_eq_some_iff.1 hD).1
    have hall : eachF s = ps := by rw [h1, List.drop_eq_nil_of_le (Nat.le_refl _), eachL, List.append_nil]
    refine leaves_marks (v := .tuple #[]) [w4.heap.size] W6 (by simp) (fun d hd => by rw [List.mem_singleton] at hd; rw [hd]; exact hD) (fun w' hw => ⟨by kernel_rfl, ⟨_, rfl⟩, .inl ?_⟩)
    rw [hall]
    exact hJ _ _ _ h2 (by omega) (hw.mono fun k hk => .inr (by rw [List.mem_singleton] at hk; omega))
  case stop =>
    rintro q pre x W6 hpre ⟨rfl, h⟩ hD
    have hDs := (Array.getElem?_eq_some_iff.1 hD).1
    go_wp2
    refine leaves_marks (v := .tuple #[]) [w4.heap.size] W6 (by simp) (fun d hd => by rw [List.mem_singleton] at hd; rw [hd]; exact hD) (fun w' hw => ⟨by kernel_rfl, ⟨_, rfl⟩, ?_⟩)
    have hc : Chg (itOwn (fun _ => False) W.heap.size 5) W6 w' := hw.mono fun k hk => .inr (by rw [List.mem_singleton] at hk; omega)
    rcases h with h | ⟨p, x, hp, h⟩
    · exact .inl (hJ _ _ _ h (by omega) hc)
    · exact .inr ⟨p, x, hp, hJx _ _ _ h (by omega) hc⟩
set_option maxRecDepth 100000 in
theorem Each_calls (s : ByteArray) (w : World) : Calls Tryd.prog 23 #[.string s] w fun e w' => ∃ g, Hid (g = w.heap.size) ∧ e = .returned (.func (.func 45) #[] #[.pointer (some ⟨g, 0, none⟩)]) ∧ Blk w' g 9 #[.string s] ∧ Below w.heap.size w w' ∧ Hid (w'.heap.size = w.heap.size + 1) := by
  go_enter Tryd.func23, Tryd.ntmps23
  go_wp2_with ((with_reducible refine gate_dst (N := 1) rfl ?_); refine box_event2 rfl (N := 1) rfl (cs := #[.string s]) (t := 9) (by kernel_rfl) ?_; intro g hg w1 hb1 hbel1 hs1)
  go_ret
  exact ⟨g, hg, rfl, hb1, hbel1, hs1⟩
end Go.Proofs.YtfnekpgbfdhnmaaDoor

namespace Go.Proofs.YtfnekpgbfdhnmaaDoor
open Go.RowKit Go.Proofs.YtfnekpgbfdhnmaaDoorW.PrintWords Go.Proofs.YtfnekpgbfdhnmaaDoorW.PrintLast Go.Proofs.YtfnekpgbfdhnmaaDoorW.PrintMore Go.Proofs.YtfnekpgbfdhnmaaDoor.PAll
theorem run_strAdd {o : Oper} {a : Act} {W : World} {T : TypeId} {x y : Operand} {s u : ByteArray} (ho : o.op = .binOp .add T x y T) (hT : Tryd.prog.underlying T = some .string) (hx : a.eval x = .string s) (hy : a.eval y = .string u) (h : s.size + u.size ≤ 9223372036854775807) : (execOp a.eval o).run Tryd.prog W = .ok (.value (.string (s ++ u))) W := by
  generalize a.eval = ρ at *
  unfold execOp
  have := run_string_add_sum (P := Tryd.prog) (w := W) s u h
  simp [ho, hx, hy, binOp, eqGuard, run_underlying hT, Sem.run_bind, this]
theorem run_wordAt {o : Oper} {a : Act} {W : World} {x y : Operand} {k : Int} (ho : o.op = .index 74 x y) (hx : a.eval x = .agg wordsV) (hy : a.eval y = .int .i64 k) (h0 : 0 ≤ k) (h1 : k ≤ 13) : (execOp a.eval o).run Tryd.prog W = .ok (.value (.string (wordOf k))) W := by
  generalize a.eval = ρ at *
  unfold execOp
  simp [ho, hx, hy, Sem.run_bind, words_index k h0 h1]
theorem wordOf_size (k : Int) : (wordOf k).size ≤ 6 := by
  have : ∀ x, x ∈ wordsL → x.size ≤ 6 := by decide
  unfold wordOf
  rw [List.getD_eq_getElem?_getD]
  cases h : wordsL[k.toNat]? with
  | none => decide
  | some x => exact this x (List.mem_of_getElem? h)
theorem fmt_calls (n : Int) (h0 : -9223372036854775808 ≤ n) (h1 : n ≤ 9223372036854775807) (w : World) (hT : Tab w) :
    Calls Tryd.prog 65 #[.int .i64 n, .int .i64 10] w fun e w' => e = .returned (.string (strOf (Lib.itoa n))) ∧ Below w.heap.size w w' := by
  refine (Tryd.strconv_FormatInt_10 n h0 h1 w hT.1).mono ?_
  rintro e w' ⟨rfl, k, os, rfl⟩
  exact ⟨rfl, Go.Lib.below_grow _ w (Nat.le_refl _) k os⟩
set_option maxRecDepth 100000 in
set_option maxHeartbeats 4000000 in
theorem told_int (n : Int) (l : List Tree) : ToldSaid ⟨2, n, l⟩ := by
  intro A c w hT hC hc hok hlen
  have hr : toldF ⟨2, n, l⟩ = Lib.itoa n := by rw [toldF, if_pos rfl]
  have hn := (show treeOk ⟨2, n, l⟩ from hok)
  rw [treeOk] at hn
  rw [hr]
  clear hr hlen hok
  obtain ⟨_, ⟨hn0, hn1⟩, _⟩ := hn
  dsimp only
  go_enter Tryd.func37, Tryd.ntmps37
  go_wp2_with (first
    | ((with_reducible refine gate_dst (N := 1) rfl ?_); refine box_event rfl (N := 1) rfl (cs := #[.int .i64 2, .int .i64 n, .slice A l.length c]) (t := 26) (by kernel_rfl) ?_; intro g1 hg1 w1 hb1 hbel1; clear hg1; have q0 : w1.cell? ⟨g1, 0, none⟩ = some (.int .i64 2) := blk_cell hb1 0; have q1 : w1.cell? ⟨g1, 1, none⟩ = some (.int .i64 n) := blk_cell hb1 1)
    | (go_at_call 65; (with_reducible refine (fmt_calls n hn0 hn1 _ (hT.below hbel1)).mono ?_); rintro e w2 ⟨rfl, hbel2⟩))
  go_ret
  exact ⟨rfl, below_step hbel1 hbel2⟩
set_option maxRecDepth 100000 in
set_option maxHeartbeats 4000000 in
theorem told_word1 (n : Int) (l : List Tree) : ToldSaid ⟨1, n, l⟩ := by
  intro A c w hT hC hc hok hlen
  have hr : toldF ⟨1, n, l⟩ = bl (wordOf 1) := by rw [toldF, if_neg (by omega), if_pos (by omega)]
  rw [hr]
  clear hr hlen hok
  have hst : strOf (bl (wordOf 1)) = wordOf 1 := by simp [strOf, bl]
  rw [hst]
  clear hst
  dsimp only
  obtain ⟨k, hk⟩ : ∃ k : Int, k = 1 := ⟨_, rfl⟩
  have hk0 : 0 ≤ k := by omega
  have hk13 : k ≤ 13 := by omega
  have hk2 : (k == 2) = false := by rw [beq_eq_false_iff_ne]; omega
  have hk1 : (k == 1) = true := by rw [hk]; rfl
  rw [← hk]
  clear hk
  go_enter Tryd.func37, Tryd.ntmps37
  go_wp2_with ((with_reducible refine gate_dst (N := 1) rfl ?_); refine box_event rfl (N := 1) rfl (cs := #[.int .i64 k, .int .i64 n, .slice A l.length c]) (t := 26) (by kernel_rfl) ?_; intro g1 hg1 w1 hb1 hbel1; clear hg1; have q0 : w1.cell? ⟨g1, 0, none⟩ = some (.int .i64 k) := blk_cell hb1 0)
  refine draw_begin (fun W' => Blk W' g1 26 #[.int .i64 k, .int .i64 n, .slice A l.length c]) (fun _ => false) (by kernel_rfl) (n := 5) rfl rfl ?_
  intro W _hWh hWg
  clear _hWh
  have HS0 : Blk W g1 26 #[.int .i64 k, .int .i64 n, .slice A l.length c] := blk_grown hb1 hWg (by simp)
  refine draw_take (i := 1) (l2 := #[false, true, false, false, false]) (v := .pointer (some ⟨g1, 0, none⟩)) rfl (by kernel_rfl) (by kernel_rfl) (by kernel_rfl) (by kernel_rfl) (by kernel_rfl) (fun _ _ _ h => h) (.inl ⟨by kernel_rfl, fun W' hS => ?_⟩) HS0 ?_
  · kernel_rfl
  refine draw_take (i := 2) (l2 := #[false, true, true, false, false]) (v := .int .i64 k) rfl (by kernel_rfl) (by kernel_rfl) (by kernel_rfl) (by kernel_rfl) (by kernel_rfl) (fun _ _ _ h => h) (.inl ⟨by kernel_rfl, fun W' hS => ?_⟩) HS0 ?_
  · exact run_load_cell rfl (by kernel_rfl) hS (i := 0) rfl Tryd.underlying23 rfl
  refine draw_call (i := 0) (l2 := #[true, true, true, false, false]) ?h1_r ?h1_l (show _ from rfl) ?h1_w ?h1_run (words_calls _) ?h1_k ?h1_p ?h1_o
  case h1_r => kernel_rfl
  case h1_l => kernel_rfl
  case h1_w => kernel_rfl
  case h1_run => kernel_rfl
  case h1_o => exact (fun W1 h => by cases h.1)
  case h1_p => exact (fun c W1 h => by cases h.1)
  intro v W1 h
  obtain ⟨h1, hbW1⟩ := h
  injection h1 with h1
  subst h1
  have HS1 : Blk W1 g1 26 #[.int .i64 k, .int .i64 n, .slice A l.length c] := blk_below HS0 hbW1
  clear HS0
  have HS0 := HS1
  refine ⟨HS0, ?_⟩
  refine draw_take (i := 3) (l2 := #[true, true, true, true, false]) (v := .string (wordOf k)) rfl (by kernel_rfl) (by kernel_rfl) (by kernel_rfl) (by kernel_rfl) (by kernel_rfl) (fun _ _ _ h => h) (.inl ⟨by kernel_rfl, fun W' hS => ?_⟩) HS0 ?_
  · exact run_wordAt rfl (by kernel_rfl) (by kernel_rfl) hk0 hk13
  refine draw_take (i := 4) (l2 := #[true, true, true, true, true]) (v := .string (wordOf k)) rfl (by kernel_rfl) (by kernel_rfl) (by kernel_rfl) (by kernel_rfl) (by kernel_rfl) (fun _ _ _ h => h) (.inl ⟨by kernel_rfl, fun W' hS => ?_⟩) HS0 ?_
  · kernel_rfl
  refine draw_done (by kernel_rfl) ?_
  go_wp2
  go_ret
  exact ⟨rfl, (hbel1.trans ((below_of_grown0 hWg).mono hbel1.size)).trans (hbW1.mono (by have := hbel1.size; have := hWg.size; omega))⟩
set_option maxRecDepth 100000 in
set_option maxHeartbeats 4000000 in
theorem told_word8 (n : Int) (l : List Tree) : ToldSaid ⟨8, n, l⟩ := by
  intro A c w hT hC hc hok hlen
  have hr : toldF ⟨8, n, l⟩ = bl (wordOf 8) := by rw [toldF, if_neg (by omega), if_pos (by omega)]
  rw [hr]
  clear hr hlen hok
  have hst : strOf (bl (wordOf 8)) = wordOf 8 := by simp [strOf, bl]
  rw [hst]
  clear hst
  dsimp only
  obtain ⟨k, hk⟩ : ∃ k : Int, k = 8 := ⟨_, rfl⟩
  have hk0 : 0 ≤ k := by omega
  have hk13 : k ≤ 13 := by omega
  have hk2 : (k == 2) = false := by rw [beq_eq_false_iff_ne]; omega
  have hk1 : (k == 1) = false := by rw [beq_eq_false_iff_ne]; omega
  have hk8 : (k == 8) = true := by rw [hk]; rfl
  rw [← hk]
  clear hk
  go_enter Tryd.func37, Tryd.ntmps37
  go_wp2_with ((with_reducible refine gate_dst (N := 1) rfl ?_); refine box_event rfl (N := 1) rfl (cs := #[.int .i64 k, .int .i64 n, .slice A l.length c]) (t := 26) (by kernel_rfl) ?_; intro g1 hg1 w1 hb1 hbel1; clear hg1; have q0 : w1.cell? ⟨g1, 0, none⟩ = some (.int .i64 k) := blk_cell hb1 0)
  refine draw_begin (fun W' => Blk W' g1 26 #[.int .i64 k, .int .i64 n, .slice A l.length c]) (fun _ => false) (by kernel_rfl) (n := 5) rfl rfl ?_
  intro W _hWh hWg
  clear _hWh
  have HS0 : Blk W g1 26 #[.int .i64 k, .int .i64 n, .slice A l.length c] := blk_grown hb1 hWg (by simp)
  refine draw_take (i := 1) (l2 := #[false, true, false, false, false]) (v := .pointer (some ⟨g1, 0, none⟩)) rfl (by kernel_rfl) (by kernel_rfl) (by kernel_rfl) (by kernel_rfl) (by kernel_rfl) (fun _ _ _ h => h) (.inl ⟨by kernel_rfl, fun W' hS => ?_⟩) HS0 ?_
  · kernel_rfl
  refine draw_take (i := 2) (l2 := #[false, true, true, false, false]) (v := .int .i64 k) rfl (by kernel_rfl) (by kernel_rfl) (by kernel_rfl) (by kernel_rfl) (by kernel_rfl) (fun _ _ _ h => h) (.inl ⟨by kernel_rfl, fun W' hS => ?_⟩) HS0 ?_
  · exact run_load_cell rfl (by kernel_rfl) hS (i := 0) rfl Tryd.underlying23 rfl
  refine draw_call (i := 0) (l2 := #[true, true, true, false, false]) ?h2_r ?h2_l (show _ from rfl) ?h2_w ?h2_run (words_calls _) ?h2_k ?h2_p ?h2_o
  case h2_r => kernel_rfl
  case h2_l => kernel_rfl
  case h2_w => kernel_rfl
  case h2_run => kernel_rfl
  case h2_o => exact (fun W1 h => by cases h.1)
  case h2_p => exact (fun c W1 h => by cases h.1)
  intro v W1 h
  obtain ⟨h1, hbW1⟩ := h
  injection h1 with h1
  subst h1
  have HS1 : Blk W1 g1 26 #[.int .i64 k, .int .i64 n, .slice A l.length c] := blk_below HS0 hbW1
  clear HS0
  have HS0 := HS1
  refine ⟨HS0, ?_⟩
  refine draw_take (i := 3) (l2 := #[true, true, true, true, false]) (v := .string (wordOf k)) rfl (by kernel_rfl) (by kernel_rfl) (by kernel_rfl) (by kernel_rfl) (by kernel_rfl) (fun _ _ _ h => h) (.inl ⟨by kernel_rfl, fun W' hS => ?_⟩) HS0 ?_
  · exact run_wordAt rfl (by kernel_rfl) (by kernel_rfl) hk0 hk13
  refine draw_take (i := 4) (l2 := #[true, true, true, true, true]) (v := .string (wordOf k)) rfl (by kernel_rfl) (by kernel_rfl) (by kernel_rfl) (by kernel_rfl) (by kernel_rfl) (fun _ _ _ h => h) (.inl ⟨by kernel_rfl, fun W' hS => ?_⟩) HS0 ?_
  · kernel_rfl
  refine draw_done (by kernel_rfl) ?_
  go_wp2
  go_ret
  exact ⟨rfl, (hbel1.trans ((below_of_grown0 hWg).mono hbel1.size)).trans (hbW1.mono (by have := hbel1.size; have := hWg.size; omega))⟩
set_option maxRecDepth 100000 in
set_option maxHeartbeats 4000000 in
theorem told_text0 (q : Nat) (n : Int) (l : List Tree) (h2 : q ≠ 2) (h1 : q ≠ 1) (h8 : q ≠ 8) (hcnt : countedB q = false) (hih : ∀ t, t ∈ l → ToldSaid t) : ToldSaid ⟨(q : Int), n, l⟩ := by
  intro A c w hT hC hc hok hlen
  have hq : countedZ (q : Int) = false := by rw [← hcnt]; unfold countedZ countedB; congr 1 <;> (rw [Bool.eq_iff_iff]; simp; try omega)
  have hr : toldF ⟨(q : Int), n, l⟩ = bl (wordOf q) ++ [40] ++ Lib.join ([] ++ l.map toldF) [44] ++ [41] := by
    rw [toldF, if_neg (by omega), if_neg (by omega), hq, toldL_map]; rfl
  rw [hr] at hlen ⊢
  have hn := (show treeOk ⟨(q : Int), n, l⟩ from hok)
  rw [treeOk, listOk_iff] at hn
  obtain ⟨⟨hk0, hk13⟩, ⟨hn0, hn1⟩, hl256, hlok⟩ := hn
  obtain ⟨J, hJ⟩ : ∃ J, Lib.join ([] ++ l.map toldF) [44] = J := ⟨_, rfl⟩
  rw [hJ] at hlen ⊢
  have hJl : J.length ≤ 140737488355328 := by simp at hlen; omega
  have hws := wordOf_size (q : Int)
  have hs1 : (strOf J).size = J.length := by simp [strOf, ByteArray.size]
  have hz1 : (wordOf q).size + (⟨#[40]⟩ : ByteArray).size ≤ 9223372036854775807 := by show _ + 1 ≤ _; omega
  have hz2 : (wordOf q ++ ⟨#[40]⟩).size + (strOf J).size ≤ 9223372036854775807 := by rw [ByteArray.size_append, hs1]; show _ + 1 + _ ≤ _; omega
  have hz3 : (wordOf q ++ ⟨#[40]⟩ ++ strOf J).size + (⟨#[41]⟩ : ByteArray).size ≤ 9223372036854775807 := by rw [ByteArray.size_append, ByteArray.size_append, hs1]; show _ + 1 + _ + 1 ≤ _; omega
  have hst : strOf (bl (wordOf q) ++ [40] ++ J ++ [41]) = wordOf q ++ ⟨#[40]⟩ ++ strOf J ++ ⟨#[41]⟩ := by
    apply ByteArray.ext; simp [strOf, bl]
  rw [hst]
  clear hst hs1 hr hok hlen
  have hlmax : l.length ≤ 999999 := by omega
  have hjc := fun v W hR hB => joined_calls A c l v [] w W hT hC hR hB hlok hih (by simp; omega) (by simp only [List.map_nil]; rw [hJ]; exact hJl)
  simp only [List.map_nil] at hjc
  rw [hJ] at hjc
  have Hjc := Lib.hid hjc
  have Hcc := Lib.hid (fun W => counted_calls q W)
  rw [hcnt] at Hcc
  clear hjc hJ hih hlok hcnt hq
  dsimp only
  have hk2 : ((q : Int) == 2) = false := by rw [beq_eq_false_iff_ne]; omega
  have hk1 : ((q : Int) == 1) = false := by rw [beq_eq_false_iff_ne]; omega
  have hk8 : ((q : Int) == 8) = false := by rw [beq_eq_false_iff_ne]; omega
  clear h2 h1 h8
  generalize (q : Int) = k at *
  go_enter Tryd.func37, Tryd.ntmps37
  go_wp2_with (first
    | ((with_reducible refine gate_dst (N := 1) rfl ?_); refine box_event rfl (N := 1) rfl (cs := #[.int .i64 k, .int .i64 n, .slice A l.length c]) (t := 26) (by kernel_rfl) ?_; intro g1 hg1 w1 hb1 hbel1; have hge1 : w.heap.size ≤ g1 := Nat.le_of_eq hg1.symm; clear hg1; have q0 : w1.cell? ⟨g1, 0, none⟩ = some (.int .i64 k) := blk_cell hb1 0; have q1 : w1.cell? ⟨g1, 1, none⟩ = some (.int .i64 n) := blk_cell hb1 1)
    | (go_at_call 53; (with_reducible refine (Hcc.out _).mono ?_); rintro e w2 ⟨rfl, rfl⟩))
  have hR3 : Kd.R Kd.string 9 w1 w.heap.size (fun _ => True) (.slice none 0 0) [] := Kd.R_nil _ _ _ _ _
  have hB3 := hbel1
  have hb3 : Blk w1 g1 26 #[.int .i64 k, .int .i64 n, .slice A l.length c] := hb1
  refine draw_begin (fun W' => Blk W' g1 26 #[.int .i64 k, .int .i64 n, .slice A l.length c]) (fun _ => false) (by kernel_rfl) (n := 12) rfl rfl ?_
  intro W _hWh hWg
  clear _hWh
  have HS0 : Blk W g1 26 #[.int .i64 k, .int .i64 n, .slice A l.length c] := blk_grown hb3 hWg (by simp)
  have hWB := below_of_grown0 hWg
  have hRW := Kd.R_below hR3 hWB
  have hBW : Below w.heap.size w W := hB3.trans (hWB.mono hB3.size)
  have hjn := fun W1 (hW1 : Below W.heap.size W W1) => Hjc.out (Value.slice none 0 0) W1 (Kd.R_below hRW hW1) (hBW.trans (hW1.mono hBW.size))
  have hne : some g1 ≠ (Value.slice none 0 0).ownBlock := Kd.R_ne hRW HS0 (by decide)
  have hkeep : ∀ W1, Below W.heap.size W W1 → ∀ W2, (Below w.heap.size w W2 ∧ Chg (fun k => (Value.slice none 0 0).ownBlock = some k) W1 W2) → Blk W2 g1 26 #[.int .i64 k, .int .i64 n, .slice A l.length c] := fun W1 h1 W2 h2 => h2.2.blk (blk_below HS0 h1) (fun e => hne e.symm)
  refine draw_take (i := 1) (l2 := #[false, true, false, false, false, false, false, false, false, false, false, false]) (v := .pointer (some ⟨g1, 0, none⟩)) rfl (by kernel_rfl) (by kernel_rfl) (by kernel_rfl) (by kernel_rfl) (by kernel_rfl) (fun _ _ _ h => h) (.inl ⟨by kernel_rfl, fun W' hS => ?_⟩) HS0 ?_
  · kernel_rfl
  refine draw_take (i := 2) (l2 := #[false, true, true, false, false, false, false, false, false, false, false, false]) (v := .int .i64 k) rfl (by kernel_rfl) (by kernel_rfl) (by kernel_rfl) (by kernel_rfl) (by kernel_rfl) (fun _ _ _ h => h) (.inl ⟨by kernel_rfl, fun W' hS => ?_⟩) HS0 ?_
  · exact run_load_cell rfl (by kernel_rfl) hS (i := 0) rfl Tryd.underlying23 rfl
  refine draw_take (i := 5) (l2 := #[false, true, true, false, false, true, false, false, false, false, false, false]) (v := .pointer (some ⟨g1, 2, none⟩)) rfl (by kernel_rfl) (by kernel_rfl) (by kernel_rfl) (by kernel_rfl) (by kernel_rfl) (fun _ _ _ h => h) (.inl ⟨by kernel_rfl, fun W' hS => ?_⟩) HS0 ?_
  · kernel_rfl
  refine draw_take (i := 6) (l2 := #[false, true, true, false, false, true, true, false, false, false, false, false]) (v := .slice A l.length c) rfl (by kernel_rfl) (by kernel_rfl) (by kernel_rfl) (by kernel_rfl) (by kernel_rfl) (fun _ _ _ h => h) (.inl ⟨by kernel_rfl, fun W' hS => ?_⟩) HS0 ?_
  · exact run_load_cell rfl (by kernel_rfl) hS (i := 2) rfl Tryd.underlying24 rfl
  refine draw_take (i := 7) (l2 := #[false, true, true, false, false, true, true, true, false, false, false, false]) (v := (Value.slice none 0 0)) rfl (by kernel_rfl) (by kernel_rfl) (by kernel_rfl) (by kernel_rfl) (by kernel_rfl) (fun _ _ _ h => h) (.inl ⟨by kernel_rfl, fun W' hS => ?_⟩) HS0 ?_
  · kernel_rfl
  refine draw_call (i := 0) (l2 := #[true, true, true, false, false, true, true, true, false, false, false, false]) ?h3_r ?h3_l (show _ from rfl) ?h3_w ?h3_run (words_calls _) ?h3_k ?h3_p ?h3_o
  case h3_r => kernel_rfl
  case h3_l => kernel_rfl
  case h3_w => kernel_rfl
  case h3_run => kernel_rfl
  case h3_o => exact (fun W1 h => by cases h.1)
  case h3_p => exact (fun c W1 h => by cases h.1)
  intro v W1 h
  obtain ⟨h1, hbW1⟩ := h
  injection h1 with h1
  subst h1
  have HS1 : Blk W1 g1 26 #[.int .i64 k, .int .i64 n, .slice A l.length c] := blk_below HS0 hbW1
  clear HS0
  have HS0 := HS1
  refine ⟨HS0, ?_⟩
  refine draw_take (i := 3) (l2 := #[true, true, true, true, false, true, true, true, false, false, false, false]) (v := .string (wordOf k)) rfl (by kernel_rfl) (by kernel_rfl) (by kernel_rfl) (by kernel_rfl) (by kernel_rfl) (fun _ _ _ h => h) (.inl ⟨by kernel_rfl, fun W' hS => ?_⟩) HS0 ?_
  · exact run_wordAt rfl (by kernel_rfl) (by kernel_rfl) hk0 hk13
  refine draw_take (i := 4) (l2 := #[true, true, true, true, true, true, true, true, false, false, false, false]) (v := .string (wordOf k ++ ⟨#[40]⟩)) rfl (by kernel_rfl) (by kernel_rfl) (by kernel_rfl) (by kernel_rfl) (by kernel_rfl) (fun _ _ _ h => h) (.inl ⟨by kernel_rfl, fun W' hS => ?_⟩) HS0 ?_
  · exact run_strAdd rfl Tryd.underlying9 (by kernel_rfl) (by kernel_rfl) hz1
  refine draw_call (i := 8) (l2 := #[true, true, true, true, true, true, true, true, true, false, false, false]) ?h4_r ?h4_l (show _ from rfl) ?h4_w ?h4_run (hjn _ hbW1) ?h4_k ?h4_p ?h4_o
  case h4_r => kernel_rfl
  case h4_l => kernel_rfl
  case h4_w => kernel_rfl
  case h4_run => kernel_rfl
  case h4_o => exact (fun W1 h => by cases h.1)
  case h4_p => exact (fun c W1 h => by cases h.1)
  intro v W2 h
  obtain ⟨h1, hbW2⟩ := h
  injection h1 with h1
  subst h1
  have HS2 : Blk W2 g1 26 #[.int .i64 k, .int .i64 n, .slice A l.length c] := hkeep _ hbW1 _ hbW2
  clear HS0
  have HS0 := HS2
  refine ⟨HS0, ?_⟩
  refine draw_take (i := 9) (l2 := #[true, true, true, true, true, true, true, true, true, true, false, false]) (v := .string (wordOf k ++ ⟨#[40]⟩ ++ strOf J)) rfl (by kernel_rfl) (by kernel_rfl) (by kernel_rfl) (by kernel_rfl) (by kernel_rfl) (fun _ _ _ h => h) (.inl ⟨by kernel_rfl, fun W' hS => ?_⟩) HS0 ?_
  · exact run_strAdd rfl Tryd.underlying9 (by kernel_rfl) (by kernel_rfl) hz2
  refine draw_take (i := 10) (l2 := #[true, true, true, true, true, true, true, true, true, true, true, false]) (v := .string (wordOf k ++ ⟨#[40]⟩ ++ strOf J ++ ⟨#[41]⟩)) rfl (by kernel_rfl) (by kernel_rfl) (by kernel_rfl) (by kernel_rfl) (by kernel_rfl) (fun _ _ _ h => h) (.inl ⟨by kernel_rfl, fun W' hS => ?_⟩) HS0 ?_
  · exact run_strAdd rfl Tryd.underlying9 (by kernel_rfl) (by kernel_rfl) hz3
  refine draw_take (i := 11) (l2 := #[true, true, true, true, true, true, true, true, true, true, true, true]) (v := .string (wordOf k ++ ⟨#[40]⟩ ++ strOf J ++ ⟨#[41]⟩)) rfl (by kernel_rfl) (by kernel_rfl) (by kernel_rfl) (by kernel_rfl) (by kernel_rfl) (fun _ _ _ h => h) (.inl ⟨by kernel_rfl, fun W' hS => ?_⟩) HS0 ?_
  · kernel_rfl
  refine draw_done (by kernel_rfl) ?_
  go_wp2
  go_ret
  exact ⟨by kernel_rfl, hbW2.1⟩
set_option maxRecDepth 100000 in
set_option maxHeartbeats 4000000 in
theorem told_text1 (q : Nat) (n : Int) (l : List Tree) (h2 : q ≠ 2) (h1 : q ≠ 1) (h8 : q ≠ 8) (hcnt : countedB q = true) (hih : ∀ t, t ∈ l → ToldSaid t) : ToldSaid ⟨(q : Int), n, l⟩ := by
  intro A c w hT hC hc hok hlen
  have hq : countedZ (q : Int) = true := by rw [← hcnt]; unfold countedZ countedB; congr 1 <;> (rw [Bool.eq_iff_iff]; simp; try omega)
  have hr : toldF ⟨(q : Int), n, l⟩ = bl (wordOf q) ++ [40] ++ Lib.join ([Lib.itoa n] ++ l.map toldF) [44] ++ [41] := by
    rw [toldF, if_neg (by omega), if_neg (by omega), hq, toldL_map]; rfl
  rw [hr] at hlen ⊢
  have hn := (show treeOk ⟨(q : Int), n, l⟩ from hok)
  rw [treeOk, listOk_iff] at hn
  obtain ⟨⟨hk0, hk13⟩, ⟨hn0, hn1⟩, hl256, hlok⟩ := hn
  obtain ⟨J, hJ⟩ : ∃ J, Lib.join ([Lib.itoa n] ++ l.map toldF) [44] = J := ⟨_, rfl⟩
  rw [hJ] at hlen ⊢
  have hJl : J.length ≤ 140737488355328 := by simp at hlen; omega
  have hws := wordOf_size (q : Int)
  have hs1 : (strOf J).size = J.length := by simp [strOf, ByteArray.size]
  have hz1 : (wordOf q).size + (⟨#[40]⟩ : ByteArray).size ≤ 9223372036854775807 := by show _ + 1 ≤ _; omega
  have hz2 : (wordOf q ++ ⟨#[40]⟩).size + (strOf J).size ≤ 9223372036854775807 := by rw [ByteArray.size_append, hs1]; show _ + 1 + _ ≤ _; omega
  have hz3 : (wordOf q ++ ⟨#[40]⟩ ++ strOf J).size + (⟨#[41]⟩ : ByteArray).size ≤ 9223372036854775807 := by rw [ByteArray.size_append, ByteArray.size_append, hs1]; show _ + 1 + _ + 1 ≤ _; omega
  have hst : strOf (bl (wordOf q) ++ [40] ++ J ++ [41]) = wordOf q ++ ⟨#[40]⟩ ++ strOf J ++ ⟨#[41]⟩ := by
    apply ByteArray.ext; simp [strOf, bl]
  rw [hst]
  clear hst hs1 hr hok hlen
  have hlmax : l.length ≤ 999999 := by omega
  have hjc := fun v W hR hB => joined_calls A c l v [strOf (Lib.itoa n)] w W hT hC hR hB hlok hih (by simp; omega) (by simp only [List.map_cons, List.map_nil, bl_strOf]; rw [hJ]; exact hJl)
  simp only [List.map_cons, List.map_nil, bl_strOf] at hjc
  rw [hJ] at hjc
  have Hjc := Lib.hid hjc
  have Hcc := Lib.hid (fun W => counted_calls q W)
  rw [hcnt] at Hcc
  clear hjc hJ hih hlok hcnt hq
  dsimp only
  have hk2 : ((q : Int) == 2) = false := by rw [beq_eq_false_iff_ne]; omega
  have hk1 : ((q : Int) == 1) = false := by rw [beq_eq_false_iff_ne]; omega
  have hk8 : ((q : Int) == 8) = false := by rw [beq_eq_false_iff_ne]; omega
  clear h2 h1 h8
  generalize (q : Int) = k at *
  go_enter Tryd.func37, Tryd.ntmps37
  go_wp2_with (first
    | ((with_reducible refine gate_dst (N := 1) rfl ?_); refine box_event rfl (N := 1) rfl (cs := #[.int .i64 k, .int .i64 n, .slice A l.length c]) (t := 26) (by kernel_rfl) ?_; intro g1 hg1 w1 hb1 hbel1; have hge1 : w.heap.size ≤ g1 := Nat.le_of_eq hg1.symm; clear hg1; have q0 : w1.cell? ⟨g1, 0, none⟩ = some (.int .i64 k) := blk_cell hb1 0; have q1 : w1.cell? ⟨g1, 1, none⟩ = some (.int .i64 n) := blk_cell hb1 1)
    | (go_at_call 53; (with_reducible refine (Hcc.out _).mono ?_); rintro e w2 ⟨rfl, rfl⟩)
    | (go_at_call 65; (with_reducible refine (fmt_calls n hn0 hn1 _ (hT.below hbel1)).mono ?_); rintro e w2 ⟨rfl, hbel2⟩; have hB2 : Below w.heap.size w w2 := below_step hbel1 hbel2)
    | ((with_reducible refine gate_dst (N := 24) rfl ?_); refine Kd.R_lit Kd.string (w0 := w) w.heap.size 9 rfl (N := 24) rfl (xs := [strOf (Lib.itoa n)]) (inner := [.string (strOf (Lib.itoa n))]) (ok := fun _ => True) (okp := fun _ => True) (by kernel_rfl) ((Reps.none _ _).snoc (show Kd.string.M _ _ _ (strOf (Lib.itoa n)) [.string (strOf (Lib.itoa n))] from rfl) rfl) (fun _ _ => trivial) trivial hB2 hB2.size (by simp) ?_; intro v3 w3 hR3 hB3 hg3 hat3; have hb3 : Blk w3 g1 26 #[.int .i64 k, .int .i64 n, .slice A l.length c] := blk_grown (blk_below hb1 hbel2) hg3 (by simp)))
  skip
  refine draw_begin (fun W' => Blk W' g1 26 #[.int .i64 k, .int .i64 n, .slice A l.length c]) (fun _ => false) (by kernel_rfl) (n := 12) rfl rfl ?_
  intro W _hWh hWg
  clear _hWh
  have HS0 : Blk W g1 26 #[.int .i64 k, .int .i64 n, .slice A l.length c] := blk_grown hb3 hWg (by simp)
  have hWB := below_of_grown0 hWg
  have hRW := Kd.R_below hR3 hWB
  have hBW : Below w.heap.size w W := hB3.trans (hWB.mono hB3.size)
  have hjn := fun W1 (hW1 : Below W.heap.size W W1) => Hjc.out v3 W1 (Kd.R_below hRW hW1) (hBW.trans (hW1.mono hBW.size))
  have hne : some g1 ≠ v3.ownBlock := Kd.R_ne hRW HS0 (by decide)
  have hkeep : ∀ W1, Below W.heap.size W W1 → ∀ W2, (Below w.heap.size w W2 ∧ Chg (fun k => v3.ownBlock = some k) W1 W2) → Blk W2 g1 26 #[.int .i64 k, .int .i64 n, .slice A l.length c] := fun W1 h1 W2 h2 => h2.2.blk (blk_below HS0 h1) (fun e => hne e.symm)
  refine draw_take (i := 1) (l2 := #[false, true, false, false, false, false, false, false, false, false, false, false]) (v := .pointer (some ⟨g1, 0, none⟩)) rfl (by kernel_rfl) (by kernel_rfl) (by kernel_rfl) (by kernel_rfl) (by kernel_rfl) (fun _ _ _ h => h) (.inl ⟨by kernel_rfl, fun W' hS => ?_⟩) HS0 ?_
  · kernel_rfl
  refine draw_take (i := 2) (l2 := #[false, true, true, false, false, false, false, false, false, false, false, false]) (v := .int .i64 k) rfl (by kernel_rfl) (by kernel_rfl) (by kernel_rfl) (by kernel_rfl) (by kernel_rfl) (fun _ _ _ h => h) (.inl ⟨by kernel_rfl, fun W' hS => ?_⟩) HS0 ?_
  · exact run_load_cell rfl (by kernel_rfl) hS (i := 0) rfl Tryd.underlying23 rfl
  refine draw_take (i := 5) (l2 := #[false, true, true, false, false, true, false, false, false, false, false, false]) (v := .pointer (some ⟨g1, 2, none⟩)) rfl (by kernel_rfl) (by kernel_rfl) (by kernel_rfl) (by kernel_rfl) (by kernel_rfl) (fun _ _ _ h => h) (.inl ⟨by kernel_rfl, fun W' hS => ?_⟩) HS0 ?_
  · kernel_rfl
  refine draw_take (i := 6) (l2 := #[false, true, true, false, false, true, true, false, false, false, false, false]) (v := .slice A l.length c) rfl (by kernel_rfl) (by kernel_rfl) (by kernel_rfl) (by kernel_rfl) (by kernel_rfl) (fun _ _ _ h => h) (.inl ⟨by kernel_rfl, fun W' hS => ?_⟩) HS0 ?_
  · exact run_load_cell rfl (by kernel_rfl) hS (i := 2) rfl Tryd.underlying24 rfl
  refine draw_take (i := 7) (l2 := #[false, true, true, false, false, true, true, true, false, false, false, false]) (v := v3) rfl (by kernel_rfl) (by kernel_rfl) (by kernel_rfl) (by kernel_rfl) (by kernel_rfl) (fun _ _ _ h => h) (.inl ⟨by kernel_rfl, fun W' hS => ?_⟩) HS0 ?_
  · kernel_rfl
  refine draw_call (i := 0) (l2 := #[true, true, true, false, false, true, true, true, false, false, false, false]) ?h5_r ?h5_l (show _ from rfl) ?h5_w ?h5_run (words_calls _) ?h5_k ?h5_p ?h5_o
  case h5_r => kernel_rfl
  case h5_l => kernel_rfl
  case h5_w => kernel_rfl
  case h5_run => kernel_rfl
  case h5_o => exact (fun W1 h => by cases h.1)
  case h5_p => exact (fun c W1 h => by cases h.1)
  intro v W1 h
  obtain ⟨h1, hbW1⟩ := h
  injection h1 with h1
  subst h1
  have HS1 : Blk W1 g1 26 #[.int .i64 k, .int .i64 n, .slice A l.length c] := blk_below HS0 hbW1
  clear HS0
  have HS0 := HS1
  refine ⟨HS0, ?_⟩
  refine draw_take (i := 3) (l2 := #[true, true, true, true, false, true, true, true, false, false, false, false]) (v := .string (wordOf k)) rfl (by kernel_rfl) (by kernel_rfl) (by kernel_rfl) (by kernel_rfl) (by kernel_rfl) (fun _ _ _ h => h) (.inl ⟨by kernel_rfl, fun W' hS => ?_⟩) HS0 ?_
  · exact run_wordAt rfl (by kernel_rfl) (by kernel_rfl) hk0 hk13
  refine draw_take (i := 4) (l2 := #[true, true, true, true, true, true, true, true, false, false, false, false]) (v := .string (wordOf k ++ ⟨#[40]⟩)) rfl (by kernel_rfl) (by kernel_rfl) (by kernel_rfl) (by kernel_rfl) (by kernel_rfl) (fun _ _ _ h => h) (.inl ⟨by kernel_rfl, fun W' hS => ?_⟩) HS0 ?_
  · exact run_strAdd rfl Tryd.underlying9 (by kernel_rfl) (by kernel_rfl) hz1
  refine draw_call (i := 8) (l2 := #[true, true, true, true, true, true, true, true, true, false, false, false]) ?h6_r ?h6_l (show _ from rfl) ?h6_w ?h6_run (hjn _ hbW1) ?h6_k ?h6_p ?h6_o
  case h6_r => kernel_rfl
  case h6_l => kernel_rfl
  case h6_w => kernel_rfl
  case h6_run => kernel_rfl
  case h6_o => exact (fun W1 h => by cases h.1)
  case h6_p => exact (fun c W1 h => by cases h.1)
  intro v W2 h
  obtain ⟨h1, hbW2⟩ := h
  injection h1 with h1
  subst h1
  have HS2 : Blk W2 g1 26 #[.int .i64 k, .int .i64 n, .slice A l.length c] := hkeep _ hbW1 _ hbW2
  clear HS0
  have HS0 := HS2
  refine ⟨HS0, ?_⟩
  refine draw_take (i := 9) (l2 := #[true, true, true, true, true, true, true, true, true, true, false, false]) (v := .string (wordOf k ++ ⟨#[40]⟩ ++ strOf J)) rfl (by kernel_rfl) (by kernel_rfl) (by kernel_rfl) (by kernel_rfl) (by kernel_rfl) (fun _ _ _ h => h) (.inl ⟨by kernel_rfl, fun W' hS => ?_⟩) HS0 ?_
  · exact run_strAdd rfl Tryd.underlying9 (by kernel_rfl) (by kernel_rfl) hz2
  refine draw_take (i := 10) (l2 := #[true, true, true, true, true, true, true, true, true, true, true, false]) (v := .string (wordOf k ++ ⟨#[40]⟩ ++ strOf J ++ ⟨#[41]⟩)) rfl (by kernel_rfl) (by kernel_rfl) (by kernel_rfl) (by kernel_rfl) (by kernel_rfl) (fun _ _ _ h => h) (.inl ⟨by kernel_rfl, fun W' hS => ?_⟩) HS0 ?_
  · exact run_strAdd rfl Tryd.underlying9 (by kernel_rfl) (by kernel_rfl) hz3
  refine draw_take (i := 11) (l2 := #[true, true, true, true, true, true, true, true, true, true, true, true]) (v := .string (wordOf k ++ ⟨#[40]⟩ ++ strOf J ++ ⟨#[41]⟩)) rfl (by kernel_rfl) (by kernel_rfl) (by kernel_rfl) (by kernel_rfl) (by kernel_rfl) (fun _ _ _ h => h) (.inl ⟨by kernel_rfl, fun W' hS => ?_⟩) HS0 ?_
  · kernel_rfl
  refine draw_done (by kernel_rfl) ?_
  go_wp2
  go_ret
  exact ⟨by kernel_rfl, hbW2.1⟩
end Go.Proofs.YtfnekpgbfdhnmaaDoor

namespace Go.Proofs.YtfnekpgbfdhnmaaDoor
open Go.RowKit Go.Proofs.YtfnekpgbfdhnmaaDoorW.PrintWords Go.Proofs.YtfnekpgbfdhnmaaDoorW.PrintLast Go.Proofs.YtfnekpgbfdhnmaaDoorW.PrintMore Go.Proofs.YtfnekpgbfdhnmaaDoor.PAll
theorem told_said_of : ∀ (m : Nat) (t : Tree), SizeOf.sizeOf t < m → ToldSaid t
  | 0, _, h => absurd h (Nat.not_lt_zero _)
  | m + 1, ⟨k, n, l⟩, h => by
    have hih : ∀ t, t ∈ l → ToldSaid t := fun t ht => told_said_of m t (by
      have h1 := List.sizeOf_lt_of_mem ht
      have h2 : SizeOf.sizeOf (S26.mk k n l) = 1 + SizeOf.sizeOf k + SizeOf.sizeOf n + SizeOf.sizeOf l := by simp
      omega)
    by_cases h2 : k = 2
    · subst h2; exact told_int n l
    by_cases h1 : k = 1
    · subst h1; exact told_word1 n l
    by_cases h8 : k = 8
    · subst h8; exact told_word8 n l
    intro A c w hT hC hc hok hlen
    have hn := hok
    rw [treeOk] at hn
    obtain ⟨q, rfl⟩ : ∃ q : Nat, k = q := ⟨k.toNat, by omega⟩
    cases hb : countedB q with
    | false => exact told_text0 q n l (by omega) (by omega) (by omega) hb hih A c w hT hC hc hok hlen
    | true => exact told_text1 q n l (by omega) (by omega) (by omega) hb hih A c w hT hC hc hok hlen
theorem told_said (t : Tree) : ToldSaid t := told_said_of (SizeOf.sizeOf t + 1) t (by omega)
/-- Text: the text, and the error. -/
def textF (t : Tree) : List UInt8 := if rightB t then toldF t else []
set_option maxRecDepth 100000 in
set_option maxHeartbeats 2000000 in
theorem Text_calls (t : Tree) (A : Option Addr) (c : Nat) (w : World) (hT : Tab w) (hC : Kd.C k26 w A t.f2.length t.f2) (hc : t.f2.length ≤ c) (hok : rightB t = true → treeOk t) (hlen : rightB t = true → (toldF t).length ≤ 140737488355328) :
    Calls Tryd.prog 16 #[.agg #[.int .i64 t.f0, .int .i64 t.f1, .slice A t.f2.length c]] w fun e w' => e = .returned (.tuple #[.string (strOf (textF t)), .int .i64 (checkE t)]) ∧ Below w.heap.size w w' := by
  have hck := fun W hW => Check_calls t A c W (Kd.C_below hC hW) hc
  have Hck := Lib.hid hck
  clear hck
  unfold textF checkE
  unfold checkE at Hck
  cases hr : rightB t with
  | true =>
    have htl := fun W (hW : Below w.heap.size w W) => told_said t A c W (hT.below hW) (Kd.C_below hC hW) hc (hok hr) (hlen hr)
    rw [hr] at Hck
    have Htl := Lib.hid htl
    clear htl hr hok hlen
    obtain ⟨S, hS⟩ : ∃ S, strOf (toldF t) = S := ⟨_, rfl⟩
    rw [hS] at Htl
    simp only [if_true]
    rw [hS]
    clear hS
    go_enter Tryd.func16, Tryd.ntmps16
    go_wp2_with (first
      | ((with_reducible refine gate_dst (N := 1) rfl ?_); refine box_event rfl (N := 1) rfl (cs := #[.int .i64 t.f0, .int .i64 t.f1, .slice A t.f2.length c]) (t := 26) (by kernel_rfl) ?_; intro g1 hg1 w1 hb1 hbel1; clear hg1)
      | ((with_reducible refine gate_dst (N := 5) rfl ?_); refine wpList_load_row rfl 26 _ rfl g1 rfl 26 _ (0, 0) _ hb1 Tryd.underlying26 rfl (by kernel_rfl) ?_)
      | (go_at_call 36; (with_reducible refine (Hck.out _ hbel1).mono ?_); rintro e w2 ⟨rfl, hbel2⟩; have hb12 := blk_below hb1 hbel2; have hB2 : Below w.heap.size w w2 := below_step hbel1 hbel2)
      | ((with_reducible refine gate_dst (N := 10) rfl ?_); refine wpList_load_row rfl 26 _ rfl g1 rfl 26 _ (0, 0) _ hb12 Tryd.underlying26 rfl (by kernel_rfl) ?_)
      | (go_at_call 37; (with_reducible refine (Htl.out _ hB2).mono ?_); rintro e w3 ⟨rfl, hbel3⟩))
    go_ret2
    exact ⟨rfl, hB2.trans (hbel3.mono hB2.size)⟩
  | false =>
    rw [hr] at Hck
    clear hr hok hlen
    simp only [Bool.false_eq_true, if_false] at Hck ⊢
    go_enter Tryd.func16, Tryd.ntmps16
    go_wp2_with (first
      | ((with_reducible refine gate_dst (N := 1) rfl ?_); refine box_event rfl (N := 1) rfl (cs := #[.int .i64 t.f0, .int .i64 t.f1, .slice A t.f2.length c]) (t := 26) (by kernel_rfl) ?_; intro g1 hg1 w1 hb1 hbel1; clear hg1)
      | ((with_reducible refine gate_dst (N := 5) rfl ?_); refine wpList_load_row rfl 26 _ rfl g1 rfl 26 _ (0, 0) _ hb1 Tryd.underlying26 rfl (by kernel_rfl) ?_)
      | (go_at_call 36; (with_reducible refine (Hck.out _ hbel1).mono ?_); rintro e w2 ⟨rfl, hbel2⟩; have hB2 : Below w.heap.size w w2 := below_step hbel1 hbel2))
    go_ret2
    exact ⟨rfl, hB2⟩
end Go.Proofs.YtfnekpgbfdhnmaaDoor

namespace Go.Proofs.YtfnekpgbfdhnmaaDoor
open Go.RowKit Go.Proofs.YtfnekpgbfdhnmaaDoorW.PrintWords Go.Proofs.YtfnekpgbfdhnmaaDoorW.PrintLast Go.Proofs.YtfnekpgbfdhnmaaDoorW.PrintMore Go.Proofs.YtfnekpgbfdhnmaaDoor.PAll
def wrongF (s : ByteArray) (n : Int) : Bool := match parseF (bl s) with
  | .ok _ => false
  | .error e => decide ((e : Int) = n)
theorem num_calls (a : Int) (w : World) : Calls Tryd.prog 11 #[.int .i64 a] w fun e w' => e = .returned (.int .i64 a) ∧ w' = w := by
  go_enter Tryd.func11, Tryd.ntmps11
  go_wp2
  go_ret
  exact ⟨rfl, rfl⟩
set_option maxRecDepth 100000 in
set_option maxHeartbeats 2000000 in
theorem wrong_calls (s : ByteArray) (n : Int) (hs : s.size ≤ maxLen) (w : World) : Calls Tryd.prog 24 #[.string s, .int .i64 n] w fun e w' => e = .returned (.bool (wrongF s n)) ∧ Below w.heap.size w w' := by
  have hpa := Parse_calls s hs w
  unfold wrongF
  cases hp : parseF (bl s) with
  | ok t =>
    rw [hp] at hpa
    have Hpa := Lib.hid hpa
    clear hpa hp
    go_enter Tryd.func24, Tryd.ntmps24
    go_wp2_with (first
      | (go_at_call 8; (with_reducible refine (Hpa.out).mono ?_); rintro e w6 ⟨⟨v2, rfl, hR6⟩, hbel6⟩; obtain ⟨Av, cv, rfl, hlv, hCv⟩ := Kd.R_reads hR6)
      | (go_at_call 11; (with_reducible refine (num_calls _ _).mono ?_); rintro e w7 ⟨rfl, rfl⟩))
    go_ret
    exact ⟨rfl, hbel6.trans (below_alloc (Below.refl _ _) _ |>.mono hbel6.size)⟩
  | error m =>
    rw [hp] at hpa
    have Hpa := Lib.hid hpa
    clear hpa hp
    have hf : betrothalref04_Same.f 10 0 0 [] 0 0 [] = some true := by kernel_rfl
    have hsame := fun W => betrothalref04_Same.calls 10 0 0 none 0 [] 0 0 none 0 [] true W (Kd.C_nil _ _) (Nat.le_refl _) (Kd.C_nil _ _) (Nat.le_refl _) hf
    simp only [List.length_nil] at hsame
    clear hf
    go_enter Tryd.func24, Tryd.ntmps24
    by_cases hmn : (m : Int) = n
    · subst hmn
      go_wp2_with (first
        | (go_at_call 8; (with_reducible refine (Hpa.out).mono ?_); rintro e w6 ⟨rfl, hbel6⟩)
        | (go_at_call 11; (with_reducible refine (num_calls _ _).mono ?_); rintro e w7 ⟨rfl, rfl⟩)
        | (go_at_call 10; (with_reducible refine (hsame _).mono ?_); rintro e w8 ⟨rfl, hbel8⟩))
      go_ret
      have hB := hbel6.trans (below_alloc (Below.refl _ _) (.cells #[.int .i64 0, .int .i64 0, .slice none 0 0] 26) |>.mono hbel6.size)
      exact ⟨by simp, hB.trans (hbel8.mono hB.size)⟩
    · go_wp2_with (first
        | (go_at_call 8; (with_reducible refine (Hpa.out).mono ?_); rintro e w6 ⟨rfl, hbel6⟩)
        | (go_at_call 11; (with_reducible refine (num_calls _ _).mono ?_); rintro e w7 ⟨rfl, rfl⟩))
      rw [show ((m : Int) == n) = false from by simpa using hmn]
      go_ret
      exact ⟨by simp [hmn], hbel6.trans (below_alloc (Below.refl _ _) _ |>.mono hbel6.size)⟩
end Go.Proofs.YtfnekpgbfdhnmaaDoor

namespace Go.Proofs.YtfnekpgbfdhnmaaDoor
open Go.RowKit Go.Proofs.YtfnekpgbfdhnmaaDoorW.PrintWords Go.Proofs.YtfnekpgbfdhnmaaDoorW.PrintLast Go.Proofs.YtfnekpgbfdhnmaaDoorW.PrintMore Go.Proofs.YtfnekpgbfdhnmaaDoor.PAll
def wt1 : Tree := ⟨3, 0, [⟨2, -5, []⟩, ⟨1, 0, []⟩]⟩
def wt2 : Tree := ⟨10, 7, [⟨6, 0, [⟨4, 3, []⟩]⟩, ⟨2, 1, []⟩]⟩
def wt3 : Tree := ⟨9, 0, []⟩
def wt4 : Tree := ⟨5, 0, [⟨4, 3, []⟩, ⟨2, 5, []⟩]⟩
theorem wt1_right : rightB wt1 = true := by kernel_rfl
theorem wt2_right : rightB wt2 = true := by kernel_rfl
theorem wt3_right : rightB wt3 = true := by kernel_rfl
theorem wt1_text : textF wt1 = [112, 97, 105, 114, 40, 45, 53, 44, 117, 110, 105, 116, 41] := by kernel_rfl
theorem wt2_text : textF wt2 = [119, 114, 97, 112, 40, 55, 44, 114, 101, 99, 118, 40, 99, 104, 97, 110, 40, 51, 41, 41, 44, 49, 41] := by kernel_rfl
theorem wt3_text : textF wt3 = [99, 104, 111, 111, 115, 101, 40, 41] := by kernel_rfl
theorem wt4_parse : parseF (bl ⟨#[115, 101, 110, 100, 40, 99, 104, 97, 110, 40, 51, 41, 44, 53, 41]⟩) = .ok wt4 := by kernel_rfl
theorem w_each : eachF [49, 10, 117, 110, 105, 116, 10, 120, 10, 50] = [(0, ⟨2, 1, []⟩), (1, ⟨1, 0, []⟩)] := by kernel_rfl
theorem ww1 : wrongF ⟨#[115, 101, 110, 100, 40, 53, 41]⟩ 5 = true := by kernel_rfl
theorem ww2 : wrongF ⟨#[48, 49]⟩ 1 = true := by kernel_rfl
theorem ww3 : wrongF ⟨#[45, 48]⟩ 1 = true := by kernel_rfl
theorem ww4 : wrongF ⟨#[99, 104, 97, 110, 40]⟩ 5 = true := by kernel_rfl
theorem ww5 : wrongF ⟨#[103, 117, 97, 114, 100, 40, 54, 52, 41]⟩ 7 = true := by kernel_rfl
theorem ww6 : wrongF ⟨#[117, 110, 105, 116, 32]⟩ 4 = true := by kernel_rfl
theorem ww7 : wrongF ⟨#[]⟩ 0 = true := by kernel_rfl
theorem wk1 : kindOf ⟨#[110, 101, 118, 101, 114]⟩ = (8, true) := by kernel_rfl
theorem wk2 : (kindOf ⟨#[105, 110, 116]⟩).2 = false := by kernel_rfl
theorem wk3 : wordOf 4 = ⟨#[99, 104, 97, 110]⟩ := by kernel_rfl
theorem wsame1 : ∃ k, betrothalref04_Same.f k wt4.f0 wt4.f1 wt4.f2 wt4.f0 wt4.f1 wt4.f2 = some true := ⟨20, by kernel_rfl⟩
theorem wsame2 : betrothalref04_Same.f 20 2 1 [] 2 1 [] = some true := by kernel_rfl
theorem wsame3 : betrothalref04_Same.f 20 1 0 [] 1 0 [] = some true := by kernel_rfl
theorem wok1 : treeOk wt1 := by simp [wt1, treeOk, listOk]
theorem wok2 : treeOk wt2 := by simp [wt2, treeOk, listOk]
theorem wok3 : treeOk wt3 := by simp [wt3, treeOk, listOk]
theorem wt1_len : (toldF wt1).length ≤ 140737488355328 := by
  have h : toldF wt1 = [112, 97, 105, 114, 40, 45, 53, 44, 117, 110, 105, 116, 41] := by kernel_rfl
  rw [h]; decide
theorem text1_calls (A : Option Addr) (c : Nat) (w : World) (hT : Tab w) (hC : Kd.C k26 w A wt1.f2.length wt1.f2) (hc : wt1.f2.length ≤ c) :
    Calls Tryd.prog 16 #[.agg #[.int .i64 3, .int .i64 0, .slice A 2 c]] w fun e w' => e = .returned (.tuple #[.string ⟨#[112, 97, 105, 114, 40, 45, 53, 44, 117, 110, 105, 116, 41]⟩, .int .i64 0]) ∧ Below w.heap.size w w' := by
  have h := Text_calls wt1 A c w hT hC hc (fun _ => wok1) (fun _ => wt1_len)
  rw [wt1_text] at h
  unfold checkE at h
  rw [wt1_right] at h
  exact h
theorem wt2_len : (toldF wt2).length ≤ 140737488355328 := by
  have h : toldF wt2 = [119, 114, 97, 112, 40, 55, 44, 114, 101, 99, 118, 40, 99, 104, 97, 110, 40, 51, 41, 41, 44, 49, 41] := by kernel_rfl
  rw [h]; decide
theorem text2_calls (A : Option Addr) (c : Nat) (w : World) (hT : Tab w) (hC : Kd.C k26 w A wt2.f2.length wt2.f2) (hc : wt2.f2.length ≤ c) :
    Calls Tryd.prog 16 #[.agg #[.int .i64 10, .int .i64 7, .slice A 2 c]] w fun e w' => e = .returned (.tuple #[.string ⟨#[119, 114, 97, 112, 40, 55, 44, 114, 101, 99, 118, 40, 99, 104, 97, 110, 40, 51, 41, 41, 44, 49, 41]⟩, .int .i64 0]) ∧ Below w.heap.size w w' := by
  have h := Text_calls wt2 A c w hT hC hc (fun _ => wok2) (fun _ => wt2_len)
  rw [wt2_text] at h
  unfold checkE at h
  rw [wt2_right] at h
  exact h
theorem wt3_len : (toldF wt3).length ≤ 140737488355328 := by
  have h : toldF wt3 = [99, 104, 111, 111, 115, 101, 40, 41] := by kernel_rfl
  rw [h]; decide
theorem text3_calls (A : Option Addr) (c : Nat) (w : World) (hT : Tab w) (hC : Kd.C k26 w A wt3.f2.length wt3.f2) (hc : wt3.f2.length ≤ c) :
    Calls Tryd.prog 16 #[.agg #[.int .i64 9, .int .i64 0, .slice A 0 c]] w fun e w' => e = .returned (.tuple #[.string ⟨#[99, 104, 111, 111, 115, 101, 40, 41]⟩, .int .i64 0]) ∧ Below w.heap.size w w' := by
  have h := Text_calls wt3 A c w hT hC hc (fun _ => wok3) (fun _ => wt3_len)
  rw [wt3_text] at h
  unfold checkE at h
  rw [wt3_right] at h
  exact h
end Go.Proofs.YtfnekpgbfdhnmaaDoor

namespace Go.Proofs.YtfnekpgbfdhnmaaDoor
open Go.RowKit Go.Proofs.YtfnekpgbfdhnmaaDoorW.PrintWords Go.Proofs.YtfnekpgbfdhnmaaDoorW.PrintLast Go.Proofs.YtfnekpgbfdhnmaaDoorW.PrintMore Go.Proofs.YtfnekpgbfdhnmaaDoor.PAll
theorem refWord_eq (k : Int) : betrothalref05_Word.f k = some (wordOf k, !(bl (wordOf k)).isEmpty) := by
  by_cases h0 : k < 1
  · have : k.toNat = 0 := by omega
    unfold betrothalref05_Word.f wordOf
    rw [if_pos h0, this]
    rfl
  · by_cases h1 : k > 13
    · unfold betrothalref05_Word.f wordOf
      rw [if_neg h0, if_pos h1, List.getD_eq_getElem?_getD, List.getElem?_eq_none (show wordsL.length ≤ k.toNat from by have : wordsL.length = 14 := rfl; omega)]
      rfl
    · have : k = 1 ∨ k = 2 ∨ k = 3 ∨ k = 4 ∨ k = 5 ∨ k = 6 ∨ k = 7 ∨ k = 8 ∨ k = 9 ∨ k = 10 ∨ k = 11 ∨ k = 12 ∨ k = 13 := by omega
      rcases this with rfl | rfl | rfl | rfl | rfl | rfl | rfl | rfl | rfl | rfl | rfl | rfl | rfl <;> (show _ = _; kernel_rfl)
end Go.Proofs.YtfnekpgbfdhnmaaDoor

namespace Go.Proofs.YtfnekpgbfdhnmaaDoor
open Go.RowKit Go.Proofs.YtfnekpgbfdhnmaaDoorW.PrintWords Go.Proofs.YtfnekpgbfdhnmaaDoorW.PrintLast Go.Proofs.YtfnekpgbfdhnmaaDoorW.PrintMore Go.Proofs.YtfnekpgbfdhnmaaDoor.PAll
theorem bl_lt_size {s : ByteArray} {n : Nat} {c : UInt8} (h : (bl s)[n]? = some c) : n < s.size := by have := (List.getElem?_eq_some_iff.1 h).1; rwa [bl_length] at this
theorem bl_none {s : ByteArray} {n : Nat} (h : (bl s)[n]? = none) : s.size ≤ n := by rwa [List.getElem?_eq_none_iff, bl_length] at h
theorem bt_bl {s : ByteArray} {n : Nat} {c : UInt8} (h : (bl s)[n]? = some c) : bt s (n : Int) = (c.toNat : Int) := by
  have hi := bl_lt_size h
  rw [bl_at hi] at h
  injection h with h
  subst h
  unfold bt
  simp only [Int.toNat_natCast]
  rw [dif_pos hi]
theorem wrap_nat {n : Nat} (h : n < 9223372036854775807) : wrap64 ((n : Int) + 1) = ((n + 1 : Nat) : Int) := by unfold wrap64; omega
theorem ris (s : ByteArray) (n : Nat) (p : Int) (b : Bool) (c : UInt8) : betrothalref05_reader_is.f s n p b (c.toNat : Int) = some (decide ((bl s)[n]? = some c)) := by
  unfold betrothalref05_reader_is.f
  cases h : (bl s)[n]? with
  | none => rw [if_neg (by have := bl_none h; omega)]; simp
  | some d =>
    have hi := bl_lt_size h
    rw [if_pos (by omega), if_pos (by omega), bt_bl h]
    congr 1
    rw [Bool.eq_iff_iff]
    simp only [beq_iff_eq, decide_eq_true_eq, Option.some.injEq]
    constructor
    · intro e; exact UInt8.toNat_inj.1 (by omega)
    · rintro rfl; rfl
theorem rsign (s : ByteArray) (hs : s.size ≤ maxLen) (n : Nat) (p : Int) (c : UInt8) : betrothalref05_reader_sign.f s n p false (c.toNat : Int) = some (if (bl s)[n]? = some c then (s, ((n + 1 : Nat) : Int), p, false) else (s, (n : Int), p, true)) := by
  unfold betrothalref05_reader_sign.f
  unfold maxLen at hs
  rw [if_neg (by simp), ris, Option.bind_some]
  by_cases h : (bl s)[n]? = some c
  · have hi := bl_lt_size h
    rw [decide_eq_true h, if_pos rfl, if_pos h, wrap_nat (by omega)]
  · rw [decide_eq_false h, if_neg (by simp), if_neg h]
theorem rsign_bad (s : ByteArray) (n p k : Int) : betrothalref05_reader_sign.f s n p true k = some (s, n, p, true) := by
  unfold betrothalref05_reader_sign.f
  rw [if_pos rfl]
/-- The digit that stands there. -/
def digitAt (l : List UInt8) (n : Nat) : Int × Bool := match l[n]? with
  | some c => if 48 ≤ c.toNat ∧ c.toNat ≤ 57 then (((c.toNat - 48 : Nat) : Int), true) else (0, false)
  | none => (0, false)
theorem rdigit (s : ByteArray) (n : Nat) (p : Int) (b : Bool) : betrothalref05_reader_digit.f s n p b = some (digitAt (bl s) n) := by
  unfold betrothalref05_reader_digit.f digitAt
  cases h : (bl s)[n]? with
  | none => rw [if_neg (by have := bl_none h; omega)]
  | some d =>
    have hi := bl_lt_size h
    rw [if_pos (by omega), if_pos (by omega), bt_bl h]
    dsimp only
    by_cases h1 : 48 ≤ d.toNat
    · by_cases h2 : d.toNat ≤ 57
      · rw [if_pos (by omega), if_pos (by omega), if_pos ⟨h1, h2⟩]
        congr 2
        omega
      · rw [if_pos (by omega), if_neg (by omega), if_neg (by omega)]
    · rw [if_neg (by omega), if_neg (by omega)]
theorem digit_some {l : List UInt8} {n : Nat} {c : UInt8} (h : l[n]? = some c) (h1 : 48 ≤ c.toNat) (h2 : c.toNat ≤ 57) : digitAt l n = (((c.toNat - 48 : Nat) : Int), true) := by
  unfold digitAt; rw [h]; dsimp only; rw [if_pos ⟨h1, h2⟩]
theorem digit_other {l : List UInt8} {n : Nat} {c : UInt8} (h : l[n]? = some c) (h1 : ¬ (48 ≤ c.toNat ∧ c.toNat ≤ 57)) : digitAt l n = (0, false) := by
  unfold digitAt; rw [h]; dsimp only; rw [if_neg h1]
theorem digit_none {l : List UInt8} {n : Nat} (h : l[n]? = none) : digitAt l n = (0, false) := by
  unfold digitAt; rw [h]
theorem drop_nil_of {l : List UInt8} {n : Nat} (h : l[n]? = none) : l.drop n = [] := List.drop_of_length_le (by simpa using h)
theorem numGo_seen {most : Nat} : ∀ {l : List UInt8} {m seen a m' seen' a' : Nat}, numGo most l m seen a = .ok (m', seen', a') → seen ≤ seen'
  | [], m, seen, a, m', seen', a', h => by rw [numGo] at h; simp only [Except.ok.injEq, Prod.mk.injEq] at h; omega
  | c :: t, m, seen, a, m', seen', a', h => by
    rw [numGo] at h
    split at h
    · simp only [Except.ok.injEq, Prod.mk.injEq] at h; omega
    · split at h
      · have := numGo_seen h; omega
      · cases h
/-- What the reference's number hands back. -/
def numPair (s : ByteArray) (p : Int) : Except Nat (Nat × Nat) → ByteArray × Int × Int × Bool × Int
  | .ok (m, a) => (s, (a : Int), p, false, (m : Int))
  | .error e => (s, (e : Int), p, true, 0)
def numTriple (s : ByteArray) (p : Int) : Except Nat (Nat × Nat × Nat) → ByteArray × Int × Int × Bool × Int
  | .ok (m, _, a) => (s, (a : Int), p, false, (m : Int))
  | .error e => (s, (e : Int), p, true, 0)
theorem u64_nat {n : Nat} (h : n < 18446744073709551616) : IntKind.u64.wrap (n : Int) = (n : Int) := u64_in _ (by omega) (by omega)
theorem rnum_loop (most : Nat) (hm : 9 ≤ most) (hm2 : most < 18446744073709551616) (s : ByteArray) (hs : s.size ≤ maxLen) (p : Int) : ∀ (d n m seen k : Nat), s.size - n ≤ d → n ≤ s.size → 0 < seen → (m = 0 → seen = 1) → m ≤ most → d < k →
    betrothalref05_reader_number.l0 k most m s n p false = some (numTriple s p (numGo most ((bl s).drop n) m seen n)) := by
  intro d
  induction d with
  | zero =>
    intro n m seen k hd hn h1 h2 h3 hk
    obtain ⟨k, rfl⟩ : ∃ j, k = j + 1 := ⟨k - 1, by omega⟩
    have hnone : (bl s)[n]? = none := by rw [List.getElem?_eq_none_iff, bl_length]; omega
    rw [drop_nil_of hnone, numGo, betrothalref05_reader_number.l0]
    by_cases hm0 : m = 0
    · subst hm0
      rw [if_neg (by simp)]; rfl
    · rw [if_pos (by omega), rdigit, digit_none hnone, Option.bind_some, if_neg (by simp)]; rfl
  | succ d ih =>
    intro n m seen k hd hn h1 h2 h3 hk
    obtain ⟨k, rfl⟩ : ∃ j, k = j + 1 := ⟨k - 1, by omega⟩
    rw [betrothalref05_reader_number.l0]
    by_cases hm0 : m = 0
    · subst hm0
      rw [if_neg (by simp)]
      cases hc : (bl s).drop n with
      | nil => rw [numGo]; rfl
      | cons c t => rw [numGo, if_pos (.inr (.inr ⟨h2 rfl, rfl⟩))]; rfl
    · rw [if_pos (by omega), rdigit]
      cases hc : (bl s)[n]? with
      | none => rw [drop_nil_of hc, numGo, digit_none hc, Option.bind_some, if_neg (by simp)]; rfl
      | some c =>
        rw [drop_cons hc, numGo]
        have hi := bl_lt_size hc
        by_cases hdg : 48 ≤ c.toNat ∧ c.toNat ≤ 57
        · rw [digit_some hc hdg.1 hdg.2, Option.bind_some, if_pos rfl, if_neg (show ¬ (c.toNat < 48 ∨ 57 < c.toNat ∨ (seen = 1 ∧ m = 0)) from by omega)]
          obtain ⟨v, hv⟩ : ∃ v, v = c.toNat - 48 := ⟨_, rfl⟩
          rw [← hv]
          have hv9 : v ≤ 9 := by omega
          have e1 : IntKind.u64.wrap ((most : Int) - (v : Int)) = ((most - v : Nat) : Int) := by
            rw [show ((most : Int) - (v : Int)) = ((most - v : Nat) : Int) from by omega]
            exact u64_nat (by omega)
          have e2 : IntKind.u64.wrap (Int.tdiv ((most - v : Nat) : Int) 10) = (((most - v) / 10 : Nat) : Int) := by
            rw [tdiv_pos _ _ (by omega), show (((most - v : Nat) : Int) / 10) = (((most - v) / 10 : Nat) : Int) from by omega]
            exact u64_nat (by omega)
          dsimp only
          rw [e1, e2]
          by_cases hle : m ≤ (most - v) / 10
          · have e3 : IntKind.u64.wrap (10 * (m : Int)) = ((10 * m : Nat) : Int) := by
              rw [show (10 * (m : Int)) = ((10 * m : Nat) : Int) from by omega]
              exact u64_nat (by omega)
            have e4 : IntKind.u64.wrap (((10 * m : Nat) : Int) + (v : Int)) = ((10 * m + v : Nat) : Int) := by
              rw [show (((10 * m : Nat) : Int) + (v : Int)) = ((10 * m + v : Nat) : Int) from by omega]
              exact u64_nat (by omega)
            rw [if_neg (by omega), e3, e4, wrap_nat (by unfold maxLen at hs; omega), if_pos ⟨by omega, hle⟩]
            exact ih (n + 1) (10 * m + v) (seen + 1) k (by omega) (by omega) (by omega) (by omega) (by omega) (by omega)
          · rw [if_pos (by omega), if_neg (by omega)]; rfl
        · rw [digit_other hc hdg, Option.bind_some, if_neg (by simp), if_pos (show c.toNat < 48 ∨ 57 < c.toNat ∨ (seen = 1 ∧ m = 0) from by omega)]; rfl
theorem numPair_of {most : Nat} {l : List UInt8} {n : Nat} {s : ByteArray} {p : Int} {x : Except Nat (Nat × Nat × Nat)} (h : numGo most (l.drop n) 0 0 n = x) (hx : ∀ m q a, x = .ok (m, q, a) → 0 < q) : numPair s p (numF most l n) = numTriple s p x := by
  unfold numF
  rw [h]
  match x, hx with
  | .ok (m, q, a), hx => dsimp only; rw [if_pos (hx m q a rfl)]; rfl
  | .error e, _ => rfl
theorem rnumber (most : Nat) (hm : 9 ≤ most) (hm2 : most < 18446744073709551616) (s : ByteArray) (hs : s.size ≤ maxLen) (p : Int) (n : Nat) (hn : n ≤ s.size) (first : Nat) (hf : first ≤ 1) (h48 : first = 1 → (bl s)[n]? ≠ some 48) :
    betrothalref05_reader_number.f (s.size + 3) s n p false most first = some (numPair s p (numF most (bl s) n)) := by
  unfold betrothalref05_reader_number.f
  rw [rdigit, Option.bind_some, if_neg (by simp)]
  cases hc : (bl s)[n]? with
  | none =>
    rw [digit_none hc, if_neg (by simp), betrothalref05_reader_number.j0, if_pos rfl]
    have : numF most (bl s) n = .error n := by unfold numF; rw [drop_nil_of hc, numGo]; rfl
    rw [this]; rfl
  | some c =>
    by_cases hdg : 48 ≤ c.toNat ∧ c.toNat ≤ 57
    · rw [digit_some hc hdg.1 hdg.2, if_pos rfl]
      obtain ⟨v, hv⟩ : ∃ v, v = c.toNat - 48 := ⟨_, rfl⟩
      rw [← hv]
      dsimp only
      have hlt : ¬ ((v : Int) < (first : Int)) := by
        intro h
        have h1 : first = 1 := by omega
        have h0 : v = 0 := by omega
        refine h48 h1 ?_
        rw [hc]
        congr 1
        exact UInt8.toNat_inj.1 (by show c.toNat = 48; omega)
      have hi := bl_lt_size hc
      rw [if_neg hlt, betrothalref05_reader_number.j0, if_neg (by simp; omega), wrap_nat (by unfold maxLen at hs; omega)]
      rw [rnum_loop most hm hm2 s hs p (s.size - (n + 1)) (n + 1) v 1 _ (by omega) (by omega) (by omega) (fun _ => rfl) (by omega) (by omega)]
      have e : numGo most ((bl s).drop n) 0 0 n = numGo most ((bl s).drop (n + 1)) v 1 (n + 1) := by
        rw [drop_cons hc, numGo, if_neg (by omega), ← hv, if_pos ⟨by omega, by omega⟩]
        simp
      rw [numPair_of e (fun m q a h => numGo_seen h)]
    · rw [digit_other hc hdg, if_neg (by simp), betrothalref05_reader_number.j0, if_pos rfl]
      have : numF most (bl s) n = .error n := by
        unfold numF
        rw [drop_cons hc, numGo, if_pos (by omega)]; rfl
      rw [this]; rfl
theorem rnumber_zero (most : Nat) (s : ByteArray) (p : Int) (n : Nat) (h48 : (bl s)[n]? = some 48) : betrothalref05_reader_number.f (s.size + 3) s n p false most 1 = some (s, (n : Int), p, true, 0) := by
  unfold betrothalref05_reader_number.f
  rw [rdigit, digit_some h48 (by decide) (by decide), Option.bind_some, if_neg (by simp), if_pos rfl, if_pos (by decide), betrothalref05_reader_number.j0, if_pos rfl]
theorem rnumber_bad (most first : Int) (s : ByteArray) (p : Int) (n : Nat) : betrothalref05_reader_number.f (s.size + 3) s n p true most first = some (s, (n : Int), p, true, 0) := by
  unfold betrothalref05_reader_number.f
  rw [rdigit, Option.bind_some, if_pos rfl, betrothalref05_reader_number.j0, if_pos rfl]
end Go.Proofs.YtfnekpgbfdhnmaaDoor

namespace Go.Proofs.YtfnekpgbfdhnmaaDoor
open Go.RowKit Go.Proofs.YtfnekpgbfdhnmaaDoorW.PrintWords Go.Proofs.YtfnekpgbfdhnmaaDoorW.PrintLast Go.Proofs.YtfnekpgbfdhnmaaDoorW.PrintMore Go.Proofs.YtfnekpgbfdhnmaaDoor.PAll
theorem rmay (k : Int) (m : Nat) (hm : m ≤ 2) : betrothalref05_may.f k m = some (mayB m k) := by
  have : m = 0 ∨ m = 1 ∨ m = 2 := by omega
  unfold betrothalref05_may.f mayB
  rcases this with rfl | rfl | rfl
  · simp
  · by_cases h : k = 4 <;> simp [h]
  · simp
/-- A Kind that has no word here, or may not stand here. -/
def skipK (m y : Nat) : Bool := decide (bl (wordOf y) = []) || !mayB m y
def fullK (m : Nat) (h : List UInt8) (d y : Nat) : Bool := !skipK m y && decide (bl (wordOf y) = h.take d)
def goesK (m : Nat) (h : List UInt8) (d y : Nat) : Bool := !skipK m y && decide (d < cpl (bl (wordOf y)) h)
theorem cpl_take {w h : List UInt8} {d : Nat} (h1 : d ≤ w.length) (h2 : d ≤ h.length) : w.take d = h.take d ↔ d ≤ cpl w h := by
  induction d generalizing w h with
  | zero => simp
  | succ d ih =>
    match w, h, h1, h2 with
    | a :: w, b :: h, h1, h2 =>
      simp only [List.take_succ_cons, List.cons.injEq, cpl]
      have := @ih w h (by simpa using h1) (by simpa using h2)
      by_cases hab : a = b
      · rw [if_pos hab, this]
        constructor
        · rintro ⟨_, h⟩; omega
        · intro h; exact ⟨hab, by omega⟩
      · rw [if_neg hab]
        constructor
        · rintro ⟨h, _⟩; exact absurd h hab
        · intro h; omega
theorem bl_slice (s : ByteArray) (a b : Nat) : (s.extract a b).toList = ((bl s).drop a).take (b - a) := by
  rw [ByteArray.toList_eq, ByteArray.data_extract]
  simp [bl, Array.toList_extract, List.extract_eq_take_drop]
theorem toList_bl (s : ByteArray) : s.toList = bl s := by rw [ByteArray.toList_eq]; rfl
/-- One Kind is looked at. -/
theorem rword_one (k m n0 d x : Nat) (g : Bool) (s : ByteArray) (p : Int) (hm : m ≤ 2) (hx : x ≤ 13) (hx1 : 1 ≤ x) (hs : s.size ≤ maxLen) (hd : n0 + d ≤ s.size) :
    betrothalref05_reader_word.l1 (k + 2) m n0 g x s ((n0 + d : Nat) : Int) p false =
      if skipK m x = true then betrothalref05_reader_word.l1 k m n0 g ((x + 1 : Nat) : Int) s ((n0 + d : Nat) : Int) p false
      else if bl (wordOf x) = ((bl s).drop n0).take d then some (s, ((n0 + d : Nat) : Int), p, false, (x : Int))
      else betrothalref05_reader_word.l1 k m n0 (g || decide (d < cpl (bl (wordOf x)) ((bl s).drop n0))) ((x + 1 : Nat) : Int) s ((n0 + d : Nat) : Int) p false := by
  have hw : wrap64 ((x : Int) + 1) = ((x + 1 : Nat) : Int) := wrap_nat (by omega)
  have hl : ((bl s).drop n0).length = s.size - n0 := by rw [List.length_drop, bl_length]
  unfold maxLen at hs
  rw [betrothalref05_reader_word.l1, if_pos (by omega), refWord_eq, Option.bind_some]
  dsimp only
  by_cases he : bl (wordOf x) = []
  · have hsk : skipK m x = true := by unfold skipK; rw [decide_eq_true he]; rfl
    rw [if_neg (by simp [he]), betrothalref05_reader_word.j2, if_pos rfl, hw, if_pos hsk]
  · have he' : (!(bl (wordOf (x : Int))).isEmpty) = true := by simpa using he
    rw [if_pos he', rmay _ m hm, Option.bind_some, betrothalref05_reader_word.j2]
    cases hma : mayB m x with
    | false =>
      have hsk : skipK m x = true := by unfold skipK; rw [hma]; simp
      rw [if_pos (by rfl), hw, if_pos hsk]
    | true =>
      have hsk : ¬ skipK m x = true := by unfold skipK; rw [hma, decide_eq_false he]; simp
      rw [if_neg (by simp), if_neg hsk, if_pos (by omega), if_pos (by omega), if_pos (by omega), toList_bl (wordOf x), bl_slice, Int.toNat_natCast, Int.toNat_natCast, show n0 + d - n0 = d from by omega]
      by_cases hfull : bl (wordOf x) = ((bl s).drop n0).take d
      · rw [if_pos hfull, if_pos hfull]
      · rw [if_neg hfull, if_neg hfull]
        cases g with
        | true => rw [if_pos rfl, hw]; rfl
        | false =>
          have e0 : wrap64 (((n0 + d : Nat) : Int) - (n0 : Int)) = (d : Int) := by unfold wrap64; omega
          rw [if_neg (by simp), e0, hw]
          have hsz : (wordOf (x : Int)).size = (bl (wordOf (x : Int))).length := (bl_length _).symm
          have hle := cpl_le (bl (wordOf x)) ((bl s).drop n0)
          by_cases hdl : d < (wordOf (x : Int)).size
          · rw [if_pos (by omega), if_pos (by omega), if_pos (by omega), bl_slice]
            simp only [List.drop_zero, Int.toNat_natCast, Nat.sub_zero]
            by_cases htk : (bl (wordOf x)).take d = ((bl s).drop n0).take d
            · rw [if_pos htk]
              have hdc := (cpl_take (by omega) (by omega)).1 htk
              have hgo := cpl_lt _ _ d hdc
              obtain ⟨c, hc⟩ : ∃ c, (bl (wordOf x))[d]? = some c := ⟨_, List.getElem?_eq_getElem (by omega)⟩
              rw [bt_bl hc, ris, Option.bind_some, Bool.false_or]
              congr 1
              rw [Bool.eq_iff_iff, decide_eq_true_eq, decide_eq_true_eq, hgo, hc, List.getElem?_drop]
              constructor
              · intro h; exact ⟨by omega, by have := bl_lt_size h; omega, h.symm⟩
              · rintro ⟨_, _, h⟩; exact h.symm
            · rw [if_neg htk]
              have : ¬ d < cpl (bl (wordOf x)) ((bl s).drop n0) := fun h => htk ((cpl_take (by omega) (by omega)).2 (by omega))
              rw [decide_eq_false this]; rfl
          · rw [if_neg (by omega)]
            have : ¬ d < cpl (bl (wordOf x)) ((bl s).drop n0) := by omega
            rw [decide_eq_false this]; rfl
/-- All Kinds are looked at. -/
theorem rword_all (m n0 d : Nat) (s : ByteArray) (p : Int) (hm : m ≤ 2) (hs : s.size ≤ maxLen) (hd : n0 + d ≤ s.size) : ∀ (j x k : Nat) (g : Bool), 1 ≤ x → x + j = 14 →
    betrothalref05_reader_word.l1 (k + 1 + 2 * j) m n0 g x s ((n0 + d : Nat) : Int) p false =
      match (kindsFrom x).find? (fullK m ((bl s).drop n0) d) with
      | some y => some (s, ((n0 + d : Nat) : Int), p, false, (y : Int))
      | none => if (g || (kindsFrom x).any (goesK m ((bl s).drop n0) d)) = true then betrothalref05_reader_word.l0 k m n0 s (wrap64 (((n0 + d : Nat) : Int) + 1)) p false else some (s, ((n0 + d : Nat) : Int), p, true, 0)
  | 0, x, k, g, h1, hx => by
    rw [kindsFrom_end x (by omega), Nat.mul_zero, Nat.add_zero, betrothalref05_reader_word.l1, if_neg (by omega)]
    simp
  | j + 1, x, k, g, h1, hx => by
    have ih := fun g => rword_all m n0 d s p hm hs hd j (x + 1) k g (by omega) (by omega)
    rw [show k + 1 + 2 * (j + 1) = (k + 1 + 2 * j) + 2 from by omega, rword_one _ m n0 d x g s p hm (by omega) h1 hs hd, kindsFrom_cons x h1 (by omega)]
    rw [List.find?_cons, List.any_cons]
    by_cases hsk : skipK m x = true
    · have hf : fullK m ((bl s).drop n0) d x = false := by unfold fullK; rw [hsk]; rfl
      have hg : goesK m ((bl s).drop n0) d x = false := by unfold goesK; rw [hsk]; rfl
      rw [if_pos hsk, ih g, hf, hg, Bool.false_or]
    · have hsk' : skipK m x = false := by simpa using hsk
      rw [if_neg hsk]
      by_cases hfull : bl (wordOf x) = ((bl s).drop n0).take d
      · have hf : fullK m ((bl s).drop n0) d x = true := by unfold fullK; rw [hsk', decide_eq_true hfull]; rfl
        rw [if_pos hfull, hf]
      · have hf : fullK m ((bl s).drop n0) d x = false := by unfold fullK; rw [hsk', decide_eq_false hfull]; rfl
        have hg : goesK m ((bl s).drop n0) d x = decide (d < cpl (bl (wordOf x)) ((bl s).drop n0)) := by unfold goesK; rw [hsk']; rfl
        rw [if_neg hfull, ih, hf, hg, Bool.or_assoc]
/-- No word begins another one. -/
theorem words_apart : ∀ y ∈ [1, 2, 3, 4, 5, 6, 7, 8, 9, 10, 11, 12, 13], ∀ z ∈ [1, 2, 3, 4, 5, 6, 7, 8, 9, 10, 11, 12, 13], bl (wordOf (y : Nat)) ≠ [] → bl (wordOf (z : Nat)) ≠ [] → bl (wordOf (y : Nat)) <+: bl (wordOf (z : Nat)) → y = z := by
  have h : ([1, 2, 3, 4, 5, 6, 7, 8, 9, 10, 11, 12, 13].all fun (y : Nat) => [1, 2, 3, 4, 5, 6, 7, 8, 9, 10, 11, 12, 13].all fun (z : Nat) => (bl (wordOf y)).isEmpty || ((bl (wordOf z)).isEmpty || (!(bl (wordOf y)).isPrefixOf (bl (wordOf z)) || decide (y = z)))) = true := by kernel_rfl
  intro y hy z hz h1 h2 h3
  have := List.all_eq_true.1 (List.all_eq_true.1 h y hy) z hz
  have e1 : (bl (wordOf (y : Nat))).isEmpty = false := by simpa using h1
  have e2 : (bl (wordOf (z : Nat))).isEmpty = false := by simpa using h2
  have e3 : (bl (wordOf (y : Nat))).isPrefixOf (bl (wordOf (z : Nat))) = true := List.isPrefixOf_iff_prefix.2 h3
  rw [e1, e2, e3] at this
  simpa using this
theorem skipK_false {m y : Nat} (h : skipK m y = false) : bl (wordOf y) ≠ [] ∧ mayB m y = true := by
  unfold skipK at h
  simpa using h
/-- What kindF comes to. -/
theorem kindGo_spec (m : Nat) (h : List UInt8) : ∀ (ks : List Nat) (far : Nat),
    (∃ y, y ∈ ks ∧ skipK m y = false ∧ cpl (bl (wordOf y)) h = (bl (wordOf y)).length ∧ kindGo m h ks far = .ok (y, (bl (wordOf y)).length)) ∨
    ((∀ y, y ∈ ks → skipK m y = false → cpl (bl (wordOf y)) h ≠ (bl (wordOf y)).length) ∧ ∃ f, kindGo m h ks far = .error f ∧ far ≤ f ∧ (∀ y, y ∈ ks → skipK m y = false → cpl (bl (wordOf y)) h ≤ f) ∧ (f = far ∨ ∃ y, y ∈ ks ∧ skipK m y = false ∧ cpl (bl (wordOf y)) h = f))
  | [], far => .inr ⟨by simp, far, rfl, Nat.le_refl _, by simp, .inl rfl⟩
  | x :: ks, far => by
    rw [kindGo]
    by_cases hsk : bl (wordOf x) = [] ∨ mayB m x = false
    · have hs : skipK m x = true := by
        unfold skipK
        rcases hsk with h | h
        · rw [decide_eq_true h]; rfl
        · rw [h]; simp
      rw [if_pos hsk]
      rcases kindGo_spec m h ks far with ⟨y, h1, h2, h3, h4⟩ | ⟨h1, f, h2, h3, h4, h5⟩
      · exact .inl ⟨y, List.mem_cons_of_mem _ h1, h2, h3, h4⟩
      · refine .inr ⟨fun y hy hk => ?_, f, h2, h3, fun y hy hk => ?_, ?_⟩
        · rcases List.mem_cons.1 hy with rfl | hy
          · rw [hs] at hk; cases hk
          · exact h1 y hy hk
        · rcases List.mem_cons.1 hy with rfl | hy
          · rw [hs] at hk; cases hk
          · exact h4 y hy hk
        · rcases h5 with h | ⟨y, a, b, c⟩
          · exact .inl h
          · exact .inr ⟨y, List.mem_cons_of_mem _ a, b, c⟩
    · have hs : skipK m x = false := by
        unfold skipK
        simp only [not_or] at hsk
        rw [decide_eq_false hsk.1]; simpa using hsk.2
      rw [if_neg hsk]
      by_cases hc : cpl (bl (wordOf x)) h = (bl (wordOf x)).length
      · rw [if_pos hc]
        exact .inl ⟨x, by simp, hs, hc, by rw [hc]⟩
      · rw [if_neg hc]
        rcases kindGo_spec m h ks (max far (cpl (bl (wordOf x)) h)) with ⟨y, h1, h2, h3, h4⟩ | ⟨h1, f, h2, h3, h4, h5⟩
        · exact .inl ⟨y, List.mem_cons_of_mem _ h1, h2, h3, h4⟩
        · refine .inr ⟨fun y hy hk => ?_, f, h2, by omega, fun y hy hk => ?_, ?_⟩
          · rcases List.mem_cons.1 hy with rfl | hy
            · exact hc
            · exact h1 y hy hk
          · rcases List.mem_cons.1 hy with rfl | hy
            · omega
            · exact h4 y hy hk
          · rcases h5 with hf5 | ⟨y, a, b, c⟩
            · rcases Nat.le_total far (cpl (bl (wordOf x)) h) with h' | h'
              · exact .inr ⟨x, by simp, hs, by omega⟩
              · exact .inl (by omega)
            · exact .inr ⟨y, List.mem_cons_of_mem _ a, b, c⟩
/-- What the reference's word hands back. -/
def wordPair (s : ByteArray) (p : Int) (n0 : Nat) : Except Nat (Nat × Nat) → ByteArray × Int × Int × Bool × Int
  | .ok (k, d) => (s, ((n0 + d : Nat) : Int), p, false, (k : Int))
  | .error f => (s, ((n0 + f : Nat) : Int), p, true, 0)
theorem find_unique {α : Type} {p : α → Bool} {l : List α} {y : α} (hm : y ∈ l) (hp : p y = true) (hu : ∀ z, z ∈ l → p z = true → z = y) : l.find? p = some y := by
  cases h : l.find? p with
  | none => exact absurd hp (by simpa using List.find?_eq_none.1 h y hm)
  | some z => rw [hu z (List.mem_of_find?_eq_some h) (List.find?_some h)]
def kinds : List Nat := [1, 2, 3, 4, 5, 6, 7, 8, 9, 10, 11, 12, 13]
theorem full_at {m d y : Nat} {h : List UInt8} (hf : fullK m h d y = true) : skipK m y = false ∧ bl (wordOf y) = h.take d := by
  unfold fullK at hf
  simpa using hf
theorem goes_at {m d y : Nat} {h : List UInt8} (hf : goesK m h d y = true) : skipK m y = false ∧ d < cpl (bl (wordOf y)) h := by
  unfold goesK at hf
  simpa using hf
theorem full_cpl {m d y : Nat} {h : List UInt8} (hf : fullK m h d y = true) : cpl (bl (wordOf y)) h = (bl (wordOf y)).length := by
  rw [cpl_whole, (full_at hf).2]
  exact List.take_prefix _ _
theorem pre_unique {m y z : Nat} {h : List UInt8} (hy : y ∈ kinds) (hz : z ∈ kinds) (sy : skipK m y = false) (sz : skipK m z = false) (cy : cpl (bl (wordOf y)) h = (bl (wordOf y)).length) (cz : cpl (bl (wordOf z)) h = (bl (wordOf z)).length) : y = z := by
  have py := (cpl_whole _ _).1 cy
  have pz := (cpl_whole _ _).1 cz
  rcases Nat.le_total (bl (wordOf y)).length (bl (wordOf z)).length with hl | hl
  · exact words_apart y hy z hz (skipK_false sy).1 (skipK_false sz).1 (List.prefix_of_prefix_length_le py pz hl)
  · exact (words_apart z hz y hy (skipK_false sz).1 (skipK_false sy).1 (List.prefix_of_prefix_length_le pz py hl)).symm
theorem kindF_ok_spec {m y L : Nat} {h : List UInt8} (hk : kindF m h = .ok (y, L)) : y ∈ kinds ∧ skipK m y = false ∧ cpl (bl (wordOf y)) h = (bl (wordOf y)).length ∧ L = (bl (wordOf y)).length := by
  unfold kindF at hk
  rcases kindGo_spec m h [1, 2, 3, 4, 5, 6, 7, 8, 9, 10, 11, 12, 13] 0 with ⟨z, h1, h2, h3, h4⟩ | ⟨_, f, h2, _⟩
  · rw [h4] at hk
    simp only [Except.ok.injEq, Prod.mk.injEq] at hk
    obtain ⟨rfl, rfl⟩ := hk
    exact ⟨h1, h2, h3, rfl⟩
  · rw [h2] at hk; cases hk
theorem kindF_error_spec {m f : Nat} {h : List UInt8} (hk : kindF m h = .error f) : (∀ y, y ∈ kinds → skipK m y = false → cpl (bl (wordOf y)) h ≠ (bl (wordOf y)).length) ∧ (∀ y, y ∈ kinds → skipK m y = false → cpl (bl (wordOf y)) h ≤ f) ∧ (f = 0 ∨ ∃ y, y ∈ kinds ∧ skipK m y = false ∧ cpl (bl (wordOf y)) h = f) := by
  unfold kindF at hk
  rcases kindGo_spec m h [1, 2, 3, 4, 5, 6, 7, 8, 9, 10, 11, 12, 13] 0 with ⟨z, h1, h2, h3, h4⟩ | ⟨h1, g, h2, _, h4, h5⟩
  · rw [h4] at hk; cases hk
  · rw [h2] at hk
    simp only [Except.error.injEq] at hk
    subst hk
    exact ⟨h1, h4, h5⟩
theorem kinds_one : kindsFrom 1 = kinds := rfl
theorem rword_go (m n0 : Nat) (s : ByteArray) (p : Int) (hm : m ≤ 2) (hs : s.size ≤ maxLen) (h0 : n0 ≤ s.size) : ∀ (r d k : Nat), n0 + d ≤ s.size →
    ((∃ y L, kindF m ((bl s).drop n0) = .ok (y, L) ∧ d + r = L) ∨ (∃ f, kindF m ((bl s).drop n0) = .error f ∧ d + r = f)) →
    betrothalref05_reader_word.l0 (k + 28 * (r + 1)) m n0 s ((n0 + d : Nat) : Int) p false = some (wordPair s p n0 (kindF m ((bl s).drop n0))) := by
  intro r
  have hl : ((bl s).drop n0).length = s.size - n0 := by rw [List.length_drop, bl_length]
  induction r with
  | zero =>
    intro d k hd hx
    rw [show k + 28 * (0 + 1) = (k + 1 + 2 * 13) + 1 from by omega, betrothalref05_reader_word.l0, if_neg (by simp), show (1 : Int) = ((1 : Nat) : Int) from rfl, rword_all m n0 d s p hm hs hd 13 1 k false (by omega) (by omega), kinds_one]
    rcases hx with ⟨y, L, hk, hL⟩ | ⟨f, hk, hf⟩
    · obtain ⟨h1, h2, h3, h4⟩ := kindF_ok_spec hk
      have hdl : d = (bl (wordOf (y : Nat))).length := by omega
      have hfull : fullK m ((bl s).drop n0) d y = true := by
        unfold fullK
        have := List.prefix_iff_eq_take.1 ((cpl_whole _ _).1 h3)
        rw [← hdl] at this
        rw [h2, decide_eq_true this]; rfl
      rw [find_unique h1 hfull (fun z hz hp => pre_unique hz h1 (full_at hp).1 h2 (full_cpl hp) h3), hk]
      dsimp only
      rw [show L = d from by omega]; rfl
    · obtain ⟨h1, h2, h3⟩ := kindF_error_spec hk
      have e1 : kinds.find? (fullK m ((bl s).drop n0) d) = none := by
        rw [List.find?_eq_none]
        intro z hz hp
        exact h1 z hz (full_at hp).1 (full_cpl hp)
      have e2 : kinds.any (goesK m ((bl s).drop n0) d) = false := by
        rw [List.any_eq_false]
        intro z hz hp
        have := h2 z hz (goes_at hp).1
        have := (goes_at hp).2
        omega
      rw [e1, e2, hk]
      dsimp only
      rw [if_neg (by simp), show f = d from by omega]; rfl
  | succ r ih =>
    intro d k hd hx
    rw [show k + 28 * (r + 1 + 1) = ((k + 28 * (r + 1)) + 1 + 2 * 13) + 1 from by omega, betrothalref05_reader_word.l0, if_neg (by simp), show (1 : Int) = ((1 : Nat) : Int) from rfl, rword_all m n0 d s p hm hs hd 13 1 _ false (by omega) (by omega), kinds_one]
    have key : kinds.find? (fullK m ((bl s).drop n0) d) = none ∧ kinds.any (goesK m ((bl s).drop n0) d) = true ∧ n0 + (d + 1) ≤ s.size := by
      rcases hx with ⟨y, L, hk, hL⟩ | ⟨f, hk, hf⟩
      · obtain ⟨h1, h2, h3, h4⟩ := kindF_ok_spec hk
        have hle := (cpl_le (bl (wordOf (y : Nat))) ((bl s).drop n0)).2
        refine ⟨?_, ?_, by omega⟩
        · rw [List.find?_eq_none]
          intro z hz hp
          have := pre_unique hz h1 (full_at hp).1 h2 (full_cpl hp) h3
          subst this
          have e := congrArg List.length (full_at hp).2
          rw [List.length_take] at e
          omega
        · rw [List.any_eq_true]
          refine ⟨y, h1, ?_⟩
          unfold goesK
          rw [h2, decide_eq_true (by omega)]; rfl
      · obtain ⟨h1, h2, h3⟩ := kindF_error_spec hk
        rcases h3 with h3 | ⟨y, a, b, c⟩
        · omega
        · have hle := (cpl_le (bl (wordOf (y : Nat))) ((bl s).drop n0)).2
          refine ⟨?_, ?_, by omega⟩
          · rw [List.find?_eq_none]
            intro z hz hp
            exact h1 z hz (full_at hp).1 (full_cpl hp)
          · rw [List.any_eq_true]
            refine ⟨y, a, ?_⟩
            unfold goesK
            rw [b, decide_eq_true (by omega)]; rfl
    obtain ⟨e1, e2, e3⟩ := key
    rw [e1, e2]
    dsimp only
    unfold maxLen at hs
    rw [if_pos (by simp), wrap_nat (by omega)]
    refine ih (d + 1) k e3 ?_
    rcases hx with ⟨y, L, hk, hL⟩ | ⟨f, hk, hf⟩
    · exact .inl ⟨y, L, hk, by omega⟩
    · exact .inr ⟨f, hk, by omega⟩
theorem rword (m n0 : Nat) (s : ByteArray) (p : Int) (hm : m ≤ 2) (hs : s.size ≤ maxLen) (h0 : n0 ≤ s.size) : ∃ k, betrothalref05_reader_word.f k s n0 p false m = some (wordPair s p n0 (kindF m ((bl s).drop n0))) := by
  cases hk : kindF m ((bl s).drop n0) with
  | ok x =>
    obtain ⟨y, L⟩ := x
    refine ⟨0 + 28 * (L + 1), ?_⟩
    have := rword_go m n0 s p hm hs h0 L 0 0 h0 (.inl ⟨y, L, hk, by omega⟩)
    rw [hk] at this
    exact this
  | error f =>
    refine ⟨0 + 28 * (f + 1), ?_⟩
    have := rword_go m n0 s p hm hs h0 f 0 0 h0 (.inr ⟨f, hk, by omega⟩)
    rw [hk] at this
    exact this
end Go.Proofs.YtfnekpgbfdhnmaaDoor

namespace Go.Proofs.YtfnekpgbfdhnmaaDoor
open Go.RowKit Go.Proofs.YtfnekpgbfdhnmaaDoorW.PrintWords Go.Proofs.YtfnekpgbfdhnmaaDoorW.PrintLast Go.Proofs.YtfnekpgbfdhnmaaDoorW.PrintMore Go.Proofs.YtfnekpgbfdhnmaaDoor.PAll
section
variable {P : Program} {ops : Array Oper} {Q : Exit → Act → World → Prop} {md : Region.Mode} {S : World → Prop} {tl : Nat → Bool}
theorem run_load_row {o : Oper} {a : Act} {W : World} {T : TypeId} {x : Operand} (ho : o.op = .load T x) {g : Nat} {cs : Array Value} (hx : a.eval x = .pointer (some ⟨g, 0, none⟩)) (hl : (loadVar T ⟨g, 0, none⟩).run P W = .ok (.agg cs) W) : (execOp a.eval o).run P W = .ok (.value (.agg cs)) W := by
  unfold execOp
  simp [ho, hx, Instr.loadAt, Instr.sureAddr, Sem.run_bind, hl, Sem.run]
/-- A row is made. -/
theorem op_slice {i : Nat} {o : Oper} {a : Act} {w : World} {K : Act → World → Prop} {cs : Array Value} {t : TypeId} {n : Nat} (hi : ops[i]? = some o) (hw : Region.wanted o (yielded ops a.tmps) = true)
    (hr : (execOp a.eval o).run P w = .ok (.value (.slice (some ⟨w.heap.size, 0, none⟩) n n)) (w.alloc (.cells cs t (0, 0))))
    (h : ∀ g w1, w.heap.size ≤ g → Blk w1 g t cs → Below w.heap.size w w1 → K (a.put o.dst (.slice (some ⟨g, 0, none⟩) n n)) w1) : wpOp P ops Q i K a w :=
  op_value hi hw hr (h _ _ (Nat.le_refl _) (blk_new w _) (below_alloc (Below.refl _ _) _))
theorem draw_slice {i : Nat} {o : Oper} {f : Nat} {listed l2 : Array Bool} {a : Act} {w : World} {cs : Array Value} {t : TypeId} {n : Nat} (hr : Region.ready md ops listed = [i]) (hl : listed.setIfInBounds i true = l2) (hi : ops[i]? = some o)
    (hw : Region.wanted o (yielded ops a.tmps) = true) (hrun : (execOp a.eval o).run P w = .ok (.value (.slice (some ⟨w.heap.size, 0, none⟩) n n)) (w.alloc (.cells cs t (0, 0))))
    (h : ∀ g w1, w.heap.size ≤ g → Blk w1 g t cs → Below w.heap.size w w1 → S w1 ∧ AnyL P md ops Q S tl f l2 (a.put o.dst (.slice (some ⟨g, 0, none⟩) n n)) w1) : AnyL P md ops Q S tl (f + 1) listed a w :=
  draw_one hr hl (op_slice hi hw hrun fun g w1 h1 h2 h3 => ⟨fun _ => (h g w1 h1 h2 h3).1, (h g w1 h1 h2 h3).2⟩)
theorem opIn_of_op {l : Nat} {i : Nat} {K K' : Act → World → Prop} {a : Act} {w : World} (hd : noDefer ops.toList = true) (hQ : ¬ LetsOut Q) (hK : ∀ a w, K a w → K' a w) (h : wpOp P ops Q i K a w) : wpOpIn (Fence.wide.inRound l) 0 P ops Q i K' a w := by
  unfold wpOp at h
  unfold wpOpIn
  cases ho : ops[i]? with
  | none => simp only [ho] at h ⊢; first | exact h | exact hK _ _ h | trivial
  | some o =>
    simp only [ho] at h ⊢
    have hdo : ∀ c, o.op ≠ .defer c := by
      intro c hc
      have hm : o ∈ ops.toList := by
        have := Array.mem_of_getElem? ho
        exact Array.mem_toList_iff.2 this
      have := (List.all_eq_true.1 hd) o hm
      simp [hc] at this
    by_cases hw : Region.wanted o (yielded ops a.tmps) = true
    · rw [if_pos hw] at h ⊢
      rcases h with h | ⟨_, h⟩
      · refine ⟨fun _ _ => trivial, ?_⟩
        rw [Oper.semAt_eq _ _ _ hdo]
        exact upon_mono hK (fun _ _ _ h => h) hQ h
      · exact absurd h hQ
    · rw [if_neg hw] at h ⊢
      exact ⟨fun _ _ => trivial, hK _ _ h⟩
theorem anyIn_of_any {l : Nat} (hd : noDefer ops.toList = true) (hQ : ¬ LetsOut Q) : ∀ (f : Nat) (listed : Array Bool) (a : Act) (w : World), wpAny P md ops Q f listed a w → wpAnyIn (Fence.wide.inRound l) 0 P md ops Q f listed a w
  | 0, _, _, _, h => h
  | f + 1, _, _, _, h => ⟨h.1, fun i hi => opIn_of_op hd hQ (fun a w hk => anyIn_of_any hd hQ f _ a w hk) (h.2 i hi)⟩
/-- The beginning, within a round. -/
theorem draw_beginIn {id l : Nat} {a : Act} {w : World} (S : World → Prop) (tl : Nat → Bool) (hm : P.follows .mixedOrders = true) (hd : noDefer ops.toList = true) (hQ : ¬ LetsOut Q) {n : Nat} {l0 : Array Bool} (hn : ops.size = n) (hl : Array.replicate n false = l0)
    (h : ∀ W : World, W.heap = w.heap → w.grownBy W none → AnyL P .any ops Q S tl n l0 a W) : (Code.region id ops true).wpIn (Fence.wide.inRound l) 0 P Q a w := by
  subst hn; subst hl
  exact wpIn_region_any hm (anyIn_of_any hd hQ _ _ _ _ (any_of_L _ _ _ _ (h { w with drawn := w.drawn + 1 } rfl ⟨rfl, rfl, rfl, Nat.le_refl _, fun _ _ _ => rfl⟩)))
/-- Only the plain end. -/
def onlyN (Q : Exit → Act → World → Prop) : Exit → Act → World → Prop
  | .normal, a, w => Q .normal a w
  | _, _, _ => False
theorem onlyN_to {Q : Exit → Act → World → Prop} (e : Exit) (a : Act) (w : World) (h : onlyN Q e a w) : Q e a w := by cases e <;> first | exact h | exact h.elim
/-- The beginning, where no operation panics. -/
theorem draw_beginN {id : Nat} {a : Act} {w : World} (S : World → Prop) (tl : Nat → Bool) (hm : P.follows .mixedOrders = true) {n : Nat} {l : Array Bool} (hn : ops.size = n) (hl : Array.replicate n false = l)
    (h : ∀ W : World, W.heap = w.heap → w.grownBy W none → AnyL P .any ops (onlyN Q) S tl n l a W) : (Code.region id ops true).wp P Q a w :=
  wp_mono (draw_begin S tl hm hn hl h) onlyN_to
theorem draw_doneN {listed : Array Bool} {a : Act} {w : World} (hr : Region.ready md ops listed = []) (h : Q .normal a w) : AnyL P md ops (onlyN Q) S tl 0 listed a w := ⟨hr, h⟩
/-- The beginning, within a round, where no operation panics. -/
theorem draw_beginInN {id l : Nat} {a : Act} {w : World} (S : World → Prop) (tl : Nat → Bool) (hm : P.follows .mixedOrders = true) (hd : noDefer ops.toList = true) {n : Nat} {l0 : Array Bool} (hn : ops.size = n) (hl : Array.replicate n false = l0)
    (h : ∀ W : World, W.heap = w.heap → w.grownBy W none → AnyL P .any ops (onlyN Q) S tl n l0 a W) : (Code.region id ops true).wpIn (Fence.wide.inRound l) 0 P Q a w :=
  wpIn_mono (draw_beginIn S tl hm hd (fun h => by obtain ⟨_, _, h⟩ := h; exact h) hn hl h) onlyN_to
end
/-- A row of values, as the cells of its block. -/
def treeCells : List (Tree × Option Addr × Nat) → List Value
  | [] => []
  | (t, A, c) :: r => .int .i64 t.f0 :: .int .i64 t.f1 :: .slice A t.f2.length c :: treeCells r
theorem treeCells_at : ∀ (l : List (Tree × Option Addr × Nat)) (j : Nat) (x : Tree × Option Addr × Nat), l[j]? = some x →
    (treeCells l)[j * 3]? = some (.int .i64 x.1.f0) ∧ (treeCells l)[j * 3 + 1]? = some (.int .i64 x.1.f1) ∧ (treeCells l)[j * 3 + 2]? = some (.slice x.2.1 x.1.f2.length x.2.2)
  | [], j, x, h => by simp at h
  | (t, A, c) :: r, 0, x, h => by simp at h; subst h; simp [treeCells]
  | (t, A, c) :: r, j + 1, x, h => by
    have := treeCells_at r j x (by simpa using h)
    rw [show (j + 1) * 3 = j * 3 + 3 from by omega, show j * 3 + 3 + 1 = (j * 3 + 1) + 3 from by omega, show j * 3 + 3 + 2 = (j * 3 + 2) + 3 from by omega]
    simpa [treeCells] using this
/-- Values in a block read as a row. -/
theorem C_row {W : World} {g : Nat} {l : List (Tree × Option Addr × Nat)} {cs : Array Value} (h : Blk W g 26 cs) (hcs : cs.toList = treeCells l) (hl : l.length * 40 ≤ 140737488355328)
    (hC : ∀ x, x ∈ l → x.1.f2.length ≤ x.2.2 ∧ Kd.C k26 W x.2.1 x.1.f2.length x.1.f2) : Kd.C k26 W (some ⟨g, 0, none⟩) (l.map (·.1)).length (l.map (·.1)) := by
  refine ⟨rfl, by simp; omega, fun _ => ⟨_, rfl, fun j p hj => ?_⟩⟩
  rw [List.getElem?_map] at hj
  cases hx : l[j]? with
  | none => rw [hx] at hj; cases hj
  | some x =>
    rw [hx] at hj
    have hp : x.1 = p := by simpa using hj
    subst hp
    obtain ⟨hc, hCx⟩ := hC x (List.mem_of_getElem? hx)
    refine ⟨[.int .i64 x.1.f0, .int .i64 x.1.f1, .slice x.2.1 x.1.f2.length x.2.2], rfl, k26_mk W x.1 hc hCx, fun i u hu => ?_⟩
    have hadd : (⟨g, 0, none⟩ : Addr).add (j * k26.sz + i) = ⟨g, j * 3 + i, none⟩ := by
      have : k26.sz = 3 := rfl
      rw [this]
      unfold Addr.add; split <;> simp_all
    obtain ⟨e0, e1, e2⟩ := treeCells_at l j x hx
    rw [hadd, h.cell, ← Array.getElem?_toList, hcs]
    match i, hu with
    | 0, hu => rw [← hu]; exact e0
    | 1, hu => rw [← hu]; exact e1
    | 2, hu => rw [← hu]; exact e2
    | i + 3, hu => simp at hu
end Go.Proofs.YtfnekpgbfdhnmaaDoor

namespace Go.Proofs.YtfnekpgbfdhnmaaDoor
open Go.RowKit Go.Proofs.YtfnekpgbfdhnmaaDoorW.PrintWords Go.Proofs.YtfnekpgbfdhnmaaDoorW.PrintLast Go.Proofs.YtfnekpgbfdhnmaaDoorW.PrintMore Go.Proofs.YtfnekpgbfdhnmaaDoor.PAll
set_option maxHeartbeats 1000000 in
theorem rint_calls (a : Int) (w : World) :
    Calls Tryd.prog 22 #[.int .i64 a] w fun e w' => e = .returned (.agg #[.int .i64 2, .int .i64 a, .slice none 0 0]) ∧ Below w.heap.size w w' := by
  go_enter Tryd.func22, Tryd.ntmps22
  go_wp2_with (first
    | ((with_reducible refine gate_dst (N := 2) rfl ?_); refine box_event rfl (N := 2) rfl (cs := val0) (t := 26) (by kernel_rfl) ?_; intro g hg w1 hb hbel; have hge : w.heap.size ≤ g := Nat.le_of_eq hg.symm; clear hg)
    | ((with_reducible refine gate_store rfl ?_); refine store_row_event rfl rfl rfl rfl hb (by kernel_rfl) rfl (by kernel_rfl) ?_; intro w2 hb2 hg2; clear hb))
  refine bodyPost_ret (results_cell_row rfl _ _ g 26 #[.int .i64 2, .int .i64 a, .slice none 0 0] (0, 0) _ rfl hb2 Tryd.underlying26 rfl (by kernel_rfl)) rfl ⟨rfl, hbel.grown hg2 hbel.size (by rintro k ⟨⟩; exact hge)⟩
section
variable {P : Program} {ops : Array Oper} {rest : List Oper} {o : Oper} {a : Act} {Q : Exit → Act → World → Prop}
theorem slice_event {W : World} (hgd : o.guard = none) {N : Tmp} (_hd : o.dst = some N) {cs : Array Value} {t : TypeId} {n : Nat}
    (hrun : (execOp a.eval o).run P W = .ok (.value (.slice (some ⟨W.heap.size, 0, none⟩) n n)) (W.alloc (.cells cs t (0, 0))))
    (h : ∀ g, W.heap.size ≤ g → ∀ w1, Blk w1 g t cs → Below W.heap.size W w1 → wpList P ops Q rest (a.put o.dst (.slice (some ⟨g, 0, none⟩) n n)) w1) : wpList P ops Q (o :: rest) a W :=
  Kd.event_run hgd hrun (h _ (Nat.le_refl _) _ (blk_new W _) (below_alloc (Below.refl _ _) _))
end
theorem C_wt1 {W : World} {g : Nat} (h : Blk W g 26 #[.int .i64 2, .int .i64 (-5), .slice none 0 0, .int .i64 1, .int .i64 0, .slice none 0 0]) : Kd.C k26 W (some ⟨g, 0, none⟩) wt1.f2.length wt1.f2 :=
  C_row (l := [(⟨2, -5, []⟩, none, 0), (⟨1, 0, []⟩, none, 0)]) h rfl (by decide) (by
    intro x hx
    simp at hx
    rcases hx with rfl | rfl <;> exact ⟨Nat.le_refl _, Kd.C_nil _ _⟩)
theorem C_wt2 {W : World} {g ga : Nat} (h : Blk W g 26 #[.int .i64 6, .int .i64 0, .slice (some ⟨ga, 0, none⟩) 1 1, .int .i64 2, .int .i64 1, .slice none 0 0]) (h1 : Blk W ga 26 #[.int .i64 4, .int .i64 3, .slice none 0 0]) : Kd.C k26 W (some ⟨g, 0, none⟩) wt2.f2.length wt2.f2 :=
  C_row (l := [(⟨6, 0, [⟨4, 3, []⟩]⟩, some ⟨ga, 0, none⟩, 1), (⟨2, 1, []⟩, none, 0)]) h rfl (by simp) (by
    intro x hx
    simp at hx
    rcases hx with rfl | rfl
    · exact ⟨Nat.le_refl _, C_row (l := [(⟨4, 3, []⟩, none, 0)]) h1 rfl (by simp) (by
        intro x hx
        simp at hx
        rcases hx with rfl
        exact ⟨Nat.le_refl _, Kd.C_nil _ _⟩)⟩
    · exact ⟨Nat.le_refl _, Kd.C_nil _ _⟩)
theorem below_wide {A B C : World} {n : Nat} (h1 : Below A.heap.size A B) (h2 : Below B.heap.size B C) (hn : n ≤ A.heap.size) : Below n A C := (h1.trans (h2.mono h1.size)).mono hn
theorem parse4_calls (w : World) : Calls Tryd.prog 8 #[.string ⟨#[115, 101, 110, 100, 40, 99, 104, 97, 110, 40, 51, 41, 44, 53, 41]⟩] w fun e w' => ∃ A c, e = .returned (.tuple #[.agg #[.int .i64 5, .int .i64 0, .slice A 2 c], .int .i64 0, .int .i64 0]) ∧ 2 ≤ c ∧ Kd.C k26 w' A wt4.f2.length wt4.f2 ∧ Below w.heap.size w w' := by
  have h := Parse_calls ⟨#[115, 101, 110, 100, 40, 99, 104, 97, 110, 40, 51, 41, 44, 53, 41]⟩ (by decide) w
  rw [wt4_parse] at h
  refine h.mono ?_
  rintro e w' ⟨⟨v2, rfl, hR⟩, hB⟩
  obtain ⟨A, c, rfl, hl, hC⟩ := Kd.R_reads hR
  exact ⟨A, c, rfl, hl, hC, hB⟩
theorem C_chan {W : World} {g : Nat} (h : Blk W g 26 #[.int .i64 4, .int .i64 3, .slice none 0 0, .int .i64 2, .int .i64 5, .slice none 0 0]) : Kd.C k26 W (some ⟨g, 0, none⟩) wt4.f2.length wt4.f2 :=
  C_row (l := [(⟨4, 3, []⟩, none, 0), (⟨2, 5, []⟩, none, 0)]) h rfl (by simp) (by
    intro x hx
    simp at hx
    rcases hx with rfl | rfl <;> exact ⟨Nat.le_refl _, Kd.C_nil _ _⟩)
theorem same4_calls (A B : Option Addr) (c d : Nat) (w : World) (hA : Kd.C k26 w A wt4.f2.length wt4.f2) (hc : wt4.f2.length ≤ c) (hB : Kd.C k26 w B wt4.f2.length wt4.f2) (hd : wt4.f2.length ≤ d) :
    Calls Tryd.prog 10 #[.agg #[.int .i64 5, .int .i64 0, .slice A 2 c], .agg #[.int .i64 5, .int .i64 0, .slice B 2 d]] w fun e w' => e = .returned (.bool true) ∧ Below w.heap.size w w' := by
  obtain ⟨k, hk⟩ := wsame1
  exact betrothalref04_Same.calls k 5 0 A c wt4.f2 5 0 B d wt4.f2 true w hA hc hB hd hk
theorem C_empty (W : World) (A : Option Addr) : Kd.C k26 W A 0 [] := ⟨rfl, by simp, fun h => absurd h (Nat.lt_irrefl 0)⟩
theorem same_wi (A : Option Addr) (c : Nat) (w : World) (hA : Kd.C k26 w A 0 []) :
    Calls Tryd.prog 10 #[.agg #[.int .i64 2, .int .i64 1, .slice A 0 c], .agg #[.int .i64 2, .int .i64 1, .slice none 0 0]] w fun e w' => e = .returned (.bool true) ∧ Below w.heap.size w w' :=
  betrothalref04_Same.calls 20 2 1 A c [] 2 1 none 0 [] true w hA (Nat.zero_le _) (Kd.C_nil _ _) (Nat.le_refl _) wsame2
theorem same_wu (A : Option Addr) (c : Nat) (w : World) (hA : Kd.C k26 w A 0 []) :
    Calls Tryd.prog 10 #[.agg #[.int .i64 1, .int .i64 0, .slice A 0 c], .agg #[.int .i64 1, .int .i64 0, .slice none 0 0]] w fun e w' => e = .returned (.bool true) ∧ Below w.heap.size w w' :=
  betrothalref04_Same.calls 20 1 0 A c [] 1 0 none 0 [] true w hA (Nat.zero_le _) (Kd.C_nil _ _) (Nat.le_refl _) wsame3
theorem two_prefix {α : Type} {a b x : α} {pre : List α} (h : (pre ++ [x]) <+: [a, b]) : (pre = [] ∧ x = a) ∨ (pre = [a] ∧ x = b) := by
  match pre with
  | [] => left; simpa using h
  | [y] => right; simpa using h
  | y :: z :: r => have := h.length_le; simp at this
theorem wrong1_calls (w : World) : Calls Tryd.prog 24 #[.string ⟨#[115, 101, 110, 100, 40, 53, 41]⟩, .int .i64 5] w fun e w' => e = .returned (.bool true) ∧ Below w.heap.size w w' := ww1 ▸ wrong_calls ⟨#[115, 101, 110, 100, 40, 53, 41]⟩ 5 (by decide) w
theorem wrong2_calls (w : World) : Calls Tryd.prog 24 #[.string ⟨#[48, 49]⟩, .int .i64 1] w fun e w' => e = .returned (.bool true) ∧ Below w.heap.size w w' := ww2 ▸ wrong_calls ⟨#[48, 49]⟩ 1 (by decide) w
theorem wrong3_calls (w : World) : Calls Tryd.prog 24 #[.string ⟨#[45, 48]⟩, .int .i64 1] w fun e w' => e = .returned (.bool true) ∧ Below w.heap.size w w' := ww3 ▸ wrong_calls ⟨#[45, 48]⟩ 1 (by decide) w
theorem wrong4_calls (w : World) : Calls Tryd.prog 24 #[.string ⟨#[99, 104, 97, 110, 40]⟩, .int .i64 5] w fun e w' => e = .returned (.bool true) ∧ Below w.heap.size w w' := ww4 ▸ wrong_calls ⟨#[99, 104, 97, 110, 40]⟩ 5 (by decide) w
theorem wrong5_calls (w : World) : Calls Tryd.prog 24 #[.string ⟨#[103, 117, 97, 114, 100, 40, 54, 52, 41]⟩, .int .i64 7] w fun e w' => e = .returned (.bool true) ∧ Below w.heap.size w w' := ww5 ▸ wrong_calls ⟨#[103, 117, 97, 114, 100, 40, 54, 52, 41]⟩ 7 (by decide) w
theorem wrong6_calls (w : World) : Calls Tryd.prog 24 #[.string ⟨#[117, 110, 105, 116, 32]⟩, .int .i64 4] w fun e w' => e = .returned (.bool true) ∧ Below w.heap.size w w' := ww6 ▸ wrong_calls ⟨#[117, 110, 105, 116, 32]⟩ 4 (by decide) w
theorem wrong7_calls (w : World) : Calls Tryd.prog 24 #[.string ⟨#[]⟩, .int .i64 0] w fun e w' => e = .returned (.bool true) ∧ Below w.heap.size w w' := ww7 ▸ wrong_calls ⟨#[]⟩ 0 (by decide) w
theorem word4_calls (w : World) : Calls Tryd.prog 12 #[.int .i64 4] w fun e w' => e = .returned (.tuple #[.string ⟨#[99, 104, 97, 110]⟩, .bool true]) ∧ Below w.heap.size w w' := by
  have h := Word_calls 4 w
  rw [wk3] at h
  exact h
theorem kindN_calls (w : World) : Calls Tryd.prog 14 #[.string ⟨#[110, 101, 118, 101, 114]⟩] w fun e w' => e = .returned (.tuple #[.int .i64 8, .bool true]) ∧ Below w.heap.size w w' := by
  have h := Kind_calls ⟨#[110, 101, 118, 101, 114]⟩ w
  rw [wk1] at h
  exact h
theorem kindI_calls (w : World) : Calls Tryd.prog 14 #[.string ⟨#[105, 110, 116]⟩] w fun e w' => e = .returned (.tuple #[.int .i64 (kindOf ⟨#[105, 110, 116]⟩).1, .bool false]) ∧ Below w.heap.size w w' := by
  have h := Kind_calls ⟨#[105, 110, 116]⟩ w
  rw [wk2] at h
  exact h
theorem works_results {W : World} {g : Nat} {tmps : Array Value} {v : Value} (h : Blk W g 4 #[v]) (p : tmps.getD 0 undef = .pointer (some ⟨g, 0, none⟩)) : (results Tryd.f7 tmps).run Tryd.prog W = .ok v W := by
  have e2 := run_loadVar_cell2 (P := Tryd.prog) W 4 h (i := 0) rfl Tryd.underlying4 rfl
  simp only [Array.getD_eq_getD_getElem?] at p
  simp [results, p, asAddr, e2]
theorem Below.setCell_ {n : Nat} {A B : World} (h : Below n A B) {g i : Nat} (hg : n ≤ g) (v : Value) : Below n A (B.setCell ⟨g, i, none⟩ v) :=
  ⟨h.os, h.tape, h.output, by simpa [World.setCell] using h.size, fun k hk => (Below.heap_setCell B _ v k (by simp; omega)).trans (h.block k hk)⟩
set_option maxRecDepth 100000 in
set_option maxHeartbeats 4000000 in
theorem works_calls (w : World) (hT : Tab w) : Calls Tryd.prog 7 #[] w fun e w' => e = .returned (.bool true) ∧ Below w.heap.size w w' := by
  refine calls_of_wp_marks Tryd.func7 rfl ?_
  simp only [Tryd.ntmps7, List.size_toArray, List.length_cons, List.length_nil, Nat.reduceAdd, Nat.reduceSub, Array.replicate_succ, Array.replicate_zero, List.push_toArray, List.append_toArray, List.nil_append, List.cons_append]
  have HT := Lib.hid fun W (hW : Below w.heap.size w W) => hT.below hW
  clear hT
  go_upto_region 3 with (first
    | ((with_reducible refine gate_dst (N := 0) rfl ?_); refine box_event rfl (N := 0) rfl (cs := #[.bool false]) (t := 4) (by kernel_rfl) ?_; intro g0 hg0 w1 hb0 hbel1; have hge0 : w.heap.size ≤ g0 := Nat.le_of_eq hg0.symm; clear hg0)
    | ((with_reducible refine gate_dst (N := 1) rfl ?_); refine box_event rfl (N := 1) rfl (cs := #[.int .i64 0, .int .i64 0, .slice none 0 0]) (t := 26) (by kernel_rfl) ?_; intro g1 hg1 w2 hb1 hbel2; have hge1 : w1.heap.size ≤ g1 := Nat.le_of_eq hg1.symm; clear hg1; have hb02 := blk_below hb0 hbel2)
    | ((with_reducible refine gate_store (t := 26) (p := 1) rfl ?_); refine store_row_event rfl rfl rfl rfl hb1 (by kernel_rfl) rfl (by kernel_rfl) ?_; intro w3 hb13 hg3; have hb03 : Blk w3 g0 4 #[.bool false] := blk_grown hb02 hg3 (by have := blk_lt hb0; have : g0 ≠ g1 := (by omega); simpa using this); have hB3 : Below w.heap.size w w3 := (below_step hbel1 hbel2).grown hg3 (by have := hbel1.size; have := hbel2.size; omega) (by rintro k ⟨⟩; have := hbel1.size; omega))
    | (go_at_call 22; (with_reducible refine (rint_calls _ _).mono ?_); rintro e w4 ⟨rfl, hbel4⟩)
    | ((with_reducible refine gate_dst (N := 25) rfl ?_); refine slice_event rfl (N := 25) rfl (cs := #[.int .i64 2, .int .i64 (-5), .slice none 0 0, .int .i64 1, .int .i64 0, .slice none 0 0]) (t := 26) (n := 2) (by kernel_rfl) ?_; intro g5 hg5 w5 hb55 hbel5; have hB5 : Below w3.heap.size w3 w5 := below_step hbel4 hbel5)
    | (go_at_call 16; (with_reducible refine (text1_calls _ _ _ (HT.out _ (hB3.trans (hB5.mono hB3.size))) (C_wt1 hb55) (by decide)).mono ?_); rintro e w6 ⟨rfl, hbel6⟩; have hB6 : Below w3.heap.size w3 w6 := below_step hB5 hbel6))
  have hb16 := blk_below hb13 hB6
  go_cut [4, 5] from 30 to 39 (fun s4 s5 wd => s4 = .string ⟨#[119, 114, 97, 112, 40, 55, 44, 114, 101, 99, 118, 40, 99, 104, 97, 110, 40, 51, 41, 41, 44, 49, 41]⟩ ∧ s5 = .int .i64 0 ∧ Below w6.heap.size w6 wd)
  case first =>
    refine draw_beginN (fun W' => Below w6.heap.size w6 W') (fun _ => false) (by kernel_rfl) (n := 12) rfl rfl ?_
    intro W0 _hWh hWg
    clear _hWh
    have HS : Below w6.heap.size w6 W0 := below_of_grown0 hWg
    refine draw_take (i := 0) (l2 := #[true, false, false, false, false, false, false, false, false, false, false, false]) (v := .agg #[.int .i64 4, .int .i64 3, .slice none 0 0]) rfl (by kernel_rfl) (by kernel_rfl) (by kernel_rfl) (by kernel_rfl) (by kernel_rfl) (fun _ _ _ h => h) (.inl ⟨by kernel_rfl, fun W' hS => ?_⟩) HS ?_
    · exact run_load_row rfl (by kernel_rfl) (run_loadVar_row (P := Tryd.prog) W' g1 26 26 #[.int .i64 4, .int .i64 3, .slice none 0 0] (0, 0) _ (blk_below hb16 hS) Tryd.underlying26 rfl (by kernel_rfl))
    refine draw_two (i := 1) (j := 3) (by kernel_rfl) (li := #[true, true, false, false, false, false, false, false, false, false, false, false]) (lj := #[true, false, false, true, false, false, false, false, false, false, false, false]) (by kernel_rfl) (by kernel_rfl) ?_ ?_
    · skip
      refine op_slice (n := 1) (cs := #[.int .i64 4, .int .i64 3, .slice none 0 0]) (t := 26) rfl (by kernel_rfl) (by kernel_rfl) ?_
      intro ga W1 hga hba hBa
      have HS1 : Below w6.heap.size w6 W1 := below_step HS hBa
      refine ⟨fun _ => HS1, ?_⟩
      refine draw_take (i := 2) (l2 := #[true, true, true, false, false, false, false, false, false, false, false, false]) (v := .agg #[.int .i64 6, .int .i64 0, .slice (some ⟨ga, 0, none⟩) 1 1]) rfl (by kernel_rfl) (by kernel_rfl) (by kernel_rfl) (by kernel_rfl) (by kernel_rfl) (fun _ _ _ h => h) (.inl ⟨by kernel_rfl, fun W' hS => ?_⟩) HS1 ?_
      · kernel_rfl
      refine draw_call (i := 3) (l2 := #[true, true, true, true, false, false, false, false, false, false, false, false]) ?h1_r ?h1_l (show _ from rfl) ?h1_w ?h1_run (rint_calls 1 _) ?h1_k ?h1_p ?h1_o
      case h1_r => kernel_rfl
      case h1_l => kernel_rfl
      case h1_w => kernel_rfl
      case h1_run => kernel_rfl
      case h1_o => exact (fun W1 h => by cases h.1)
      case h1_p => exact (fun c W1 h => by cases h.1)
      intro v W2 h
      obtain ⟨h1, hB12⟩ := h
      injection h1 with h1
      subst h1
      have HS2 : Below w6.heap.size w6 W2 := below_step HS1 hB12
      have hba2 := blk_below2 hB12 hba
      refine ⟨HS2, ?_⟩
      refine draw_slice (i := 4) (l2 := #[true, true, true, true, true, false, false, false, false, false, false, false]) (n := 2) (cs := #[.int .i64 6, .int .i64 0, .slice (some ⟨ga, 0, none⟩) 1 1, .int .i64 2, .int .i64 1, .slice none 0 0]) (t := 26) (by kernel_rfl) (by kernel_rfl) rfl (by kernel_rfl) (by kernel_rfl) ?_
      intro gb W3 hgb hbb hBb
      have HS3 : Below w6.heap.size w6 W3 := below_step HS2 hBb
      have hba3 := blk_below2 hBb hba2
      have hC3 := C_wt2 hbb hba3
      refine ⟨HS3, ?_⟩
      refine draw_take (i := 5) (l2 := #[true, true, true, true, true, true, false, false, false, false, false, false]) (v := .agg #[.int .i64 10, .int .i64 7, .slice (some ⟨gb, 0, none⟩) 2 2]) rfl (by kernel_rfl) (by kernel_rfl) (by kernel_rfl) (by kernel_rfl) (by kernel_rfl) (fun _ _ _ h => h) (.inl ⟨by kernel_rfl, fun W' hS => ?_⟩) HS3 ?_
      · kernel_rfl
      refine draw_call (i := 6) (l2 := #[true, true, true, true, true, true, true, false, false, false, false, false]) ?h2_r ?h2_l (show _ from rfl) ?h2_w ?h2_run (text2_calls _ _ _ (HT.out _ (hB3.trans (below_wide hB6 HS3 hB3.size))) hC3 (Nat.le_refl _)) ?h2_k ?h2_p ?h2_o
      case h2_r => kernel_rfl
      case h2_l => kernel_rfl
      case h2_w => kernel_rfl
      case h2_run => kernel_rfl
      case h2_o => exact (fun W1 h => by cases h.1)
      case h2_p => exact (fun c W1 h => by cases h.1)
      intro v W4 h
      obtain ⟨h1, hB34⟩ := h
      injection h1 with h1
      subst h1
      have HS4 : Below w6.heap.size w6 W4 := below_step HS3 hB34
      refine ⟨HS4, ?_⟩
      refine draw_take (i := 7) (l2 := #[true, true, true, true, true, true, true, true, false, false, false, false]) (v := .tuple #[.string ⟨#[119, 114, 97, 112, 40, 55, 44, 114, 101, 99, 118, 40, 99, 104, 97, 110, 40, 51, 41, 41, 44, 49, 41]⟩, .int .i64 0]) rfl (by kernel_rfl) (by kernel_rfl) (by kernel_rfl) (by kernel_rfl) (by kernel_rfl) (fun _ _ _ h => h) (.inl ⟨by kernel_rfl, fun W' hS => ?_⟩) HS4 ?_
      · kernel_rfl
      refine draw_take (i := 8) (l2 := #[true, true, true, true, true, true, true, true, true, false, false, false]) (v := .string ⟨#[119, 114, 97, 112, 40, 55, 44, 114, 101, 99, 118, 40, 99, 104, 97, 110, 40, 51, 41, 41, 44, 49, 41]⟩) rfl (by kernel_rfl) (by kernel_rfl) (by kernel_rfl) (by kernel_rfl) (by kernel_rfl) (fun _ _ _ h => h) (.inl ⟨by kernel_rfl, fun W' hS => ?_⟩) HS4 ?_
      · kernel_rfl
      refine draw_take (i := 9) (l2 := #[true, true, true, true, true, true, true, true, true, true, false, false]) (v := .int .i64 0) rfl (by kernel_rfl) (by kernel_rfl) (by kernel_rfl) (by kernel_rfl) (by kernel_rfl) (fun _ _ _ h => h) (.inl ⟨by kernel_rfl, fun W' hS => ?_⟩) HS4 ?_
      · kernel_rfl
      refine draw_take (i := 10) (l2 := #[true, true, true, true, true, true, true, true, true, true, true, false]) (v := .string ⟨#[119, 114, 97, 112, 40, 55, 44, 114, 101, 99, 118, 40, 99, 104, 97, 110, 40, 51, 41, 41, 44, 49, 41]⟩) rfl (by kernel_rfl) (by kernel_rfl) (by kernel_rfl) (by kernel_rfl) (by kernel_rfl) (fun _ _ _ h => h) (.inl ⟨by kernel_rfl, fun W' hS => ?_⟩) HS4 ?_
      · kernel_rfl
      refine draw_take (i := 11) (l2 := #[true, true, true, true, true, true, true, true, true, true, true, true]) (v := .int .i64 0) rfl (by kernel_rfl) (by kernel_rfl) (by kernel_rfl) (by kernel_rfl) (by kernel_rfl) (fun _ _ _ h => h) (.inl ⟨by kernel_rfl, fun W' hS => ?_⟩) HS4 ?_
      · kernel_rfl
      refine draw_doneN (by kernel_rfl) ?_
      clear hC3 hba3 hbb
      go_simp
      go_wp2_with fail
      go_meet
      exact ⟨rfl, rfl, HS4⟩
    · skip
      refine op_call (f := 22) (args := #[.int .i64 1]) rfl (by kernel_rfl) (by kernel_rfl) (rint_calls 1 _) (fun v W1 hcall => ?_) (fun c wn hcall => by cases hcall.1) (fun wn hcall => by cases hcall.1)
      obtain ⟨h1, hB01⟩ := hcall
      injection h1 with h1
      subst h1
      have HS1 : Below w6.heap.size w6 W1 := below_step HS hB01
      refine ⟨fun _ => HS1, ?_⟩
      refine draw_slice (i := 1) (l2 := #[true, true, false, true, false, false, false, false, false, false, false, false]) (n := 1) (cs := #[.int .i64 4, .int .i64 3, .slice none 0 0]) (t := 26) (by kernel_rfl) (by kernel_rfl) rfl (by kernel_rfl) (by kernel_rfl) ?_
      intro ga W2 hga hba2 hBa
      have HS2 : Below w6.heap.size w6 W2 := below_step HS1 hBa
      refine ⟨HS2, ?_⟩
      refine draw_take (i := 2) (l2 := #[true, true, true, true, false, false, false, false, false, false, false, false]) (v := .agg #[.int .i64 6, .int .i64 0, .slice (some ⟨ga, 0, none⟩) 1 1]) rfl (by kernel_rfl) (by kernel_rfl) (by kernel_rfl) (by kernel_rfl) (by kernel_rfl) (fun _ _ _ h => h) (.inl ⟨by kernel_rfl, fun W' hS => ?_⟩) HS2 ?_
      · kernel_rfl
      refine draw_slice (i := 4) (l2 := #[true, true, true, true, true, false, false, false, false, false, false, false]) (n := 2) (cs := #[.int .i64 6, .int .i64 0, .slice (some ⟨ga, 0, none⟩) 1 1, .int .i64 2, .int .i64 1, .slice none 0 0]) (t := 26) (by kernel_rfl) (by kernel_rfl) rfl (by kernel_rfl) (by kernel_rfl) ?_
      intro gb W3 hgb hbb hBb
      have HS3 : Below w6.heap.size w6 W3 := below_step HS2 hBb
      have hba3 := blk_below2 hBb hba2
      have hC3 := C_wt2 hbb hba3
      refine ⟨HS3, ?_⟩
      refine draw_take (i := 5) (l2 := #[true, true, true, true, true, true, false, false, false, false, false, false]) (v := .agg #[.int .i64 10, .int .i64 7, .slice (some ⟨gb, 0, none⟩) 2 2]) rfl (by kernel_rfl) (by kernel_rfl) (by kernel_rfl) (by kernel_rfl) (by kernel_rfl) (fun _ _ _ h => h) (.inl ⟨by kernel_rfl, fun W' hS => ?_⟩) HS3 ?_
      · kernel_rfl
      refine draw_call (i := 6) (l2 := #[true, true, true, true, true, true, true, false, false, false, false, false]) ?h3_r ?h3_l (show _ from rfl) ?h3_w ?h3_run (text2_calls _ _ _ (HT.out _ (hB3.trans (below_wide hB6 HS3 hB3.size))) hC3 (Nat.le_refl _)) ?h3_k ?h3_p ?h3_o
      case h3_r => kernel_rfl
      case h3_l => kernel_rfl
      case h3_w => kernel_rfl
      case h3_run => kernel_rfl
      case h3_o => exact (fun W1 h => by cases h.1)
      case h3_p => exact (fun c W1 h => by cases h.1)
      intro v W4 h
      obtain ⟨h1, hB34⟩ := h
      injection h1 with h1
      subst h1
      have HS4 : Below w6.heap.size w6 W4 := below_step HS3 hB34
      refine ⟨HS4, ?_⟩
      refine draw_take (i := 7) (l2 := #[true, true, true, true, true, true, true, true, false, false, false, false]) (v := .tuple #[.string ⟨#[119, 114, 97, 112, 40, 55, 44, 114, 101, 99, 118, 40, 99, 104, 97, 110, 40, 51, 41, 41, 44, 49, 41]⟩, .int .i64 0]) rfl (by kernel_rfl) (by kernel_rfl) (by kernel_rfl) (by kernel_rfl) (by kernel_rfl) (fun _ _ _ h => h) (.inl ⟨by kernel_rfl, fun W' hS => ?_⟩) HS4 ?_
      · kernel_rfl
      refine draw_take (i := 8) (l2 := #[true, true, true, true, true, true, true, true, true, false, false, false]) (v := .string ⟨#[119, 114, 97, 112, 40, 55, 44, 114, 101, 99, 118, 40, 99, 104, 97, 110, 40, 51, 41, 41, 44, 49, 41]⟩) rfl (by kernel_rfl) (by kernel_rfl) (by kernel_rfl) (by kernel_rfl) (by kernel_rfl) (fun _ _ _ h => h) (.inl ⟨by kernel_rfl, fun W' hS => ?_⟩) HS4 ?_
      · kernel_rfl
      refine draw_take (i := 9) (l2 := #[true, true, true, true, true, true, true, true, true, true, false, false]) (v := .int .i64 0) rfl (by kernel_rfl) (by kernel_rfl) (by kernel_rfl) (by kernel_rfl) (by kernel_rfl) (fun _ _ _ h => h) (.inl ⟨by kernel_rfl, fun W' hS => ?_⟩) HS4 ?_
      · kernel_rfl
      refine draw_take (i := 10) (l2 := #[true, true, true, true, true, true, true, true, true, true, true, false]) (v := .string ⟨#[119, 114, 97, 112, 40, 55, 44, 114, 101, 99, 118, 40, 99, 104, 97, 110, 40, 51, 41, 41, 44, 49, 41]⟩) rfl (by kernel_rfl) (by kernel_rfl) (by kernel_rfl) (by kernel_rfl) (by kernel_rfl) (fun _ _ _ h => h) (.inl ⟨by kernel_rfl, fun W' hS => ?_⟩) HS4 ?_
      · kernel_rfl
      refine draw_take (i := 11) (l2 := #[true, true, true, true, true, true, true, true, true, true, true, true]) (v := .int .i64 0) rfl (by kernel_rfl) (by kernel_rfl) (by kernel_rfl) (by kernel_rfl) (by kernel_rfl) (fun _ _ _ h => h) (.inl ⟨by kernel_rfl, fun W' hS => ?_⟩) HS4 ?_
      · kernel_rfl
      refine draw_doneN (by kernel_rfl) ?_
      clear hC3 hba3 hbb
      go_simp
      go_wp2_with fail
      go_meet
      exact ⟨rfl, rfl, HS4⟩
  obtain ⟨rfl, rfl, hBc⟩ := hcut
  go_upto_region 6 with (first
    | (go_at_call 16; (with_reducible refine (text3_calls none 0 wc (HT.out _ (hB3.trans (below_wide hB6 hBc hB3.size))) (Kd.C_nil _ _) (Nat.le_refl _)).mono ?_); rintro e w7 ⟨rfl, hbel7⟩; have hB7 : Below w6.heap.size w6 w7 := below_step hBc hbel7)
    | (go_at_call 8; (with_reducible refine (parse4_calls _).mono ?_); rintro e w8 ⟨A8, c8, rfl, hl8, hC8, hbel8⟩; have hB8 : Below w6.heap.size w6 w8 := below_step hB7 hbel8)
    | ((with_reducible refine gate_dst (N := 8) rfl ?_); refine box_event rfl (N := 8) rfl (cs := #[.int .i64 0, .int .i64 0, .slice none 0 0]) (t := 26) (by kernel_rfl) ?_; intro g8 hg8 w9 hb8 hbel9; have hge8 : w8.heap.size ≤ g8 := Nat.le_of_eq hg8.symm; clear hg8; have hB9 : Below w6.heap.size w6 w9 := below_step hB8 hbel9)
    | ((with_reducible refine gate_store (t := 26) (p := 8) rfl ?_); refine store_row_event rfl rfl rfl rfl hb8 (by kernel_rfl) rfl (by kernel_rfl) ?_; intro w10 hb810 hg10; have hB10 : Below w6.heap.size w6 w10 := hB9.grown hg10 hB9.size (by rintro k ⟨⟩; have := hB8.size; omega)))
  have hnf : ∀ (g : Nat) (w : World), (binOp .eql 54 (.func (.func 45) #[] #[.pointer (some ⟨g, 0, none⟩)]) .nilFunc).run Tryd.prog w = .ok (.bool false) w := fun _ _ => by kernel_rfl
  have hb110 := blk_below hb16 hB10
  have hC10 : Kd.C k26 w10 A8 wt4.f2.length wt4.f2 := Kd.C_below hC8 (hbel9.grown hg10 hbel9.size (by rintro k ⟨⟩; exact hge8))
  refine draw_beginN (fun W' => Below w10.heap.size w10 W') (fun _ => false) (by kernel_rfl) (n := 37) rfl rfl ?_
  intro W0 _hWh hWg
  clear _hWh
  have HS : Below w10.heap.size w10 W0 := below_of_grown0 hWg
  refine draw_take (i := 0) (l2 := #[true, false, false, false, false, false, false, false, false, false, false, false, false, false, false, false, false, false, false, false, false, false, false, false, false, false, false, false, false, false, false, false, false, false, false, false, false]) (v := .int .i64 0) rfl (by kernel_rfl) (by kernel_rfl) (by kernel_rfl) (by kernel_rfl) (by kernel_rfl) (fun _ _ _ h => h) (.inl ⟨by kernel_rfl, fun W' hS => ?_⟩) HS ?_
  · kernel_rfl
  refine draw_take (i := 2) (l2 := #[true, false, true, false, false, false, false, false, false, false, false, false, false, false, false, false, false, false, false, false, false, false, false, false, false, false, false, false, false, false, false, false, false, false, false, false, false]) (v := .int .i64 0) rfl (by kernel_rfl) (by kernel_rfl) (by kernel_rfl) (by kernel_rfl) (by kernel_rfl) (fun _ _ _ h => h) (.inl ⟨by kernel_rfl, fun W' hS => ?_⟩) HS ?_
  · kernel_rfl
  refine draw_take (i := 5) (l2 := #[true, false, true, false, false, true, false, false, false, false, false, false, false, false, false, false, false, false, false, false, false, false, false, false, false, false, false, false, false, false, false, false, false, false, false, false, false]) (v := .int .i64 0) rfl (by kernel_rfl) (by kernel_rfl) (by kernel_rfl) (by kernel_rfl) (by kernel_rfl) (fun _ _ _ h => h) (.inl ⟨by kernel_rfl, fun W' hS => ?_⟩) HS ?_
  · kernel_rfl
  refine draw_take (i := 8) (l2 := #[true, false, true, false, false, true, false, false, true, false, false, false, false, false, false, false, false, false, false, false, false, false, false, false, false, false, false, false, false, false, false, false, false, false, false, false, false]) (v := .int .i64 0) rfl (by kernel_rfl) (by kernel_rfl) (by kernel_rfl) (by kernel_rfl) (by kernel_rfl) (fun _ _ _ h => h) (.inl ⟨by kernel_rfl, fun W' hS => ?_⟩) HS ?_
  · kernel_rfl
  refine draw_call (i := 1) (l2 := #[true, true, true, false, false, true, false, false, true, false, false, false, false, false, false, false, false, false, false, false, false, false, false, false, false, false, false, false, false, false, false, false, false, false, false, false, false]) ?h4_r ?h4_l (show _ from rfl) ?h4_w ?h4_run (num_calls 0 _) ?h4_k ?h4_p ?h4_o
  case h4_r => kernel_rfl
  case h4_l => kernel_rfl
  case h4_w => kernel_rfl
  case h4_run => kernel_rfl
  case h4_o => exact (fun W1 h => by cases h.1)
  case h4_p => exact (fun c W1 h => by cases h.1)
  intro v W1 h
  obtain ⟨h1, rfl⟩ := h
  injection h1 with h1
  subst h1
  refine ⟨HS, ?_⟩
  refine draw_call (i := 3) (l2 := #[true, true, true, true, false, true, false, false, true, false, false, false, false, false, false, false, false, false, false, false, false, false, false, false, false, false, false, false, false, false, false, false, false, false, false, false, false]) ?h5_r ?h5_l (show _ from rfl) ?h5_w ?h5_run (num_calls 0 _) ?h5_k ?h5_p ?h5_o
  case h5_r => kernel_rfl
  case h5_l => kernel_rfl
  case h5_w => kernel_rfl
  case h5_run => kernel_rfl
  case h5_o => exact (fun W1 h => by cases h.1)
  case h5_p => exact (fun c W1 h => by cases h.1)
  intro v W1 h
  obtain ⟨h1, rfl⟩ := h
  injection h1 with h1
  subst h1
  refine ⟨HS, ?_⟩
  refine draw_take (i := 4) (l2 := #[true, true, true, true, true, true, false, false, true, false, false, false, false, false, false, false, false, false, false, false, false, false, false, false, false, false, false, false, false, false, false, false, false, false, false, false, false]) (v := .int .i64 0) rfl (by kernel_rfl) (by kernel_rfl) (by kernel_rfl) (by kernel_rfl) (by kernel_rfl) (fun _ _ _ h => h) (.inl ⟨by kernel_rfl, fun W' hS => ?_⟩) HS ?_
  · kernel_rfl
  refine draw_call (i := 6) (l2 := #[true, true, true, true, true, true, true, false, true, false, false, false, false, false, false, false, false, false, false, false, false, false, false, false, false, false, false, false, false, false, false, false, false, false, false, false, false]) ?h6_r ?h6_l (show _ from rfl) ?h6_w ?h6_run (num_calls 0 _) ?h6_k ?h6_p ?h6_o
  case h6_r => kernel_rfl
  case h6_l => kernel_rfl
  case h6_w => kernel_rfl
  case h6_run => kernel_rfl
  case h6_o => exact (fun W1 h => by cases h.1)
  case h6_p => exact (fun c W1 h => by cases h.1)
  intro v W1 h
  obtain ⟨h1, rfl⟩ := h
  injection h1 with h1
  subst h1
  refine ⟨HS, ?_⟩
  refine draw_take (i := 7) (l2 := #[true, true, true, true, true, true, true, true, true, false, false, false, false, false, false, false, false, false, false, false, false, false, false, false, false, false, false, false, false, false, false, false, false, false, false, false, false]) (v := .int .i64 0) rfl (by kernel_rfl) (by kernel_rfl) (by kernel_rfl) (by kernel_rfl) (by kernel_rfl) (fun _ _ _ h => h) (.inl ⟨by kernel_rfl, fun W' hS => ?_⟩) HS ?_
  · kernel_rfl
  refine draw_call (i := 9) (l2 := #[true, true, true, true, true, true, true, true, true, true, false, false, false, false, false, false, false, false, false, false, false, false, false, false, false, false, false, false, false, false, false, false, false, false, false, false, false]) ?h7_r ?h7_l (show _ from rfl) ?h7_w ?h7_run (num_calls 0 _) ?h7_k ?h7_p ?h7_o
  case h7_r => kernel_rfl
  case h7_l => kernel_rfl
  case h7_w => kernel_rfl
  case h7_run => kernel_rfl
  case h7_o => exact (fun W1 h => by cases h.1)
  case h7_p => exact (fun c W1 h => by cases h.1)
  intro v W1 h
  obtain ⟨h1, rfl⟩ := h
  injection h1 with h1
  subst h1
  refine ⟨HS, ?_⟩
  refine draw_take (i := 10) (l2 := #[true, true, true, true, true, true, true, true, true, true, true, false, false, false, false, false, false, false, false, false, false, false, false, false, false, false, false, false, false, false, false, false, false, false, false, false, false]) (v := .int .i64 0) rfl (by kernel_rfl) (by kernel_rfl) (by kernel_rfl) (by kernel_rfl) (by kernel_rfl) (fun _ _ _ h => h) (.inl ⟨by kernel_rfl, fun W' hS => ?_⟩) HS ?_
  · kernel_rfl
  refine draw_take (i := 11) (l2 := #[true, true, true, true, true, true, true, true, true, true, true, true, false, false, false, false, false, false, false, false, false, false, false, false, false, false, false, false, false, false, false, false, false, false, false, false, false]) (v := .bool false) rfl (by kernel_rfl) (by kernel_rfl) (by kernel_rfl) (by kernel_rfl) (by kernel_rfl) (fun _ _ _ h => h) (.inl ⟨by kernel_rfl, fun W' hS => ?_⟩) HS ?_
  · kernel_rfl
  refine draw_take (i := 12) (l2 := #[true, true, true, true, true, true, true, true, true, true, true, true, true, false, false, false, false, false, false, false, false, false, false, false, false, false, false, false, false, false, false, false, false, false, false, false, false]) (v := .bool false) rfl (by kernel_rfl) (by kernel_rfl) (by kernel_rfl) (by kernel_rfl) (by kernel_rfl) (fun _ _ _ h => h) (.inl ⟨by kernel_rfl, fun W' hS => ?_⟩) HS ?_
  · kernel_rfl
  refine draw_take (i := 13) (l2 := #[true, true, true, true, true, true, true, true, true, true, true, true, true, true, false, false, false, false, false, false, false, false, false, false, false, false, false, false, false, false, false, false, false, false, false, false, false]) (v := .string ⟨#[112, 97, 105, 114, 40, 45, 53, 44, 117, 110, 105, 116, 41]⟩) rfl (by kernel_rfl) (by kernel_rfl) (by kernel_rfl) (by kernel_rfl) (by kernel_rfl) (fun _ _ _ h => h) (.inl ⟨by kernel_rfl, fun W' hS => ?_⟩) HS ?_
  · kernel_rfl
  refine draw_take (i := 14) (l2 := #[true, true, true, true, true, true, true, true, true, true, true, true, true, true, true, false, false, false, false, false, false, false, false, false, false, false, false, false, false, false, false, false, false, false, false, false, false]) (v := .bool false) rfl (by kernel_rfl) (by kernel_rfl) (by kernel_rfl) (by kernel_rfl) (by kernel_rfl) (fun _ _ _ h => h) (.inl ⟨by kernel_rfl, fun W' hS => ?_⟩) HS ?_
  · kernel_rfl
  refine draw_take (i := 15) (l2 := #[true, true, true, true, true, true, true, true, true, true, true, true, true, true, true, true, false, false, false, false, false, false, false, false, false, false, false, false, false, false, false, false, false, false, false, false, false]) (v := .bool false) rfl (by kernel_rfl) (by kernel_rfl) (by kernel_rfl) (by kernel_rfl) (by kernel_rfl) (fun _ _ _ h => h) (.inl ⟨by kernel_rfl, fun W' hS => ?_⟩) HS ?_
  · kernel_rfl
  refine draw_take (i := 16) (l2 := #[true, true, true, true, true, true, true, true, true, true, true, true, true, true, true, true, true, false, false, false, false, false, false, false, false, false, false, false, false, false, false, false, false, false, false, false, false]) (v := .bool false) rfl (by kernel_rfl) (by kernel_rfl) (by kernel_rfl) (by kernel_rfl) (by kernel_rfl) (fun _ _ _ h => h) (.inl ⟨by kernel_rfl, fun W' hS => ?_⟩) HS ?_
  · kernel_rfl
  refine draw_take (i := 17) (l2 := #[true, true, true, true, true, true, true, true, true, true, true, true, true, true, true, true, true, true, false, false, false, false, false, false, false, false, false, false, false, false, false, false, false, false, false, false, false]) (v := .string ⟨#[119, 114, 97, 112, 40, 55, 44, 114, 101, 99, 118, 40, 99, 104, 97, 110, 40, 51, 41, 41, 44, 49, 41]⟩) rfl (by kernel_rfl) (by kernel_rfl) (by kernel_rfl) (by kernel_rfl) (by kernel_rfl) (fun _ _ _ h => h) (.inl ⟨by kernel_rfl, fun W' hS => ?_⟩) HS ?_
  · kernel_rfl
  refine draw_take (i := 18) (l2 := #[true, true, true, true, true, true, true, true, true, true, true, true, true, true, true, true, true, true, true, false, false, false, false, false, false, false, false, false, false, false, false, false, false, false, false, false, false]) (v := .bool false) rfl (by kernel_rfl) (by kernel_rfl) (by kernel_rfl) (by kernel_rfl) (by kernel_rfl) (fun _ _ _ h => h) (.inl ⟨by kernel_rfl, fun W' hS => ?_⟩) HS ?_
  · kernel_rfl
  refine draw_take (i := 19) (l2 := #[true, true, true, true, true, true, true, true, true, true, true, true, true, true, true, true, true, true, true, true, false, false, false, false, false, false, false, false, false, false, false, false, false, false, false, false, false]) (v := .bool false) rfl (by kernel_rfl) (by kernel_rfl) (by kernel_rfl) (by kernel_rfl) (by kernel_rfl) (fun _ _ _ h => h) (.inl ⟨by kernel_rfl, fun W' hS => ?_⟩) HS ?_
  · kernel_rfl
  refine draw_take (i := 20) (l2 := #[true, true, true, true, true, true, true, true, true, true, true, true, true, true, true, true, true, true, true, true, true, false, false, false, false, false, false, false, false, false, false, false, false, false, false, false, false]) (v := .bool false) rfl (by kernel_rfl) (by kernel_rfl) (by kernel_rfl) (by kernel_rfl) (by kernel_rfl) (fun _ _ _ h => h) (.inl ⟨by kernel_rfl, fun W' hS => ?_⟩) HS ?_
  · kernel_rfl
  refine draw_take (i := 21) (l2 := #[true, true, true, true, true, true, true, true, true, true, true, true, true, true, true, true, true, true, true, true, true, true, false, false, false, false, false, false, false, false, false, false, false, false, false, false, false]) (v := .string ⟨#[99, 104, 111, 111, 115, 101, 40, 41]⟩) rfl (by kernel_rfl) (by kernel_rfl) (by kernel_rfl) (by kernel_rfl) (by kernel_rfl) (fun _ _ _ h => h) (.inl ⟨by kernel_rfl, fun W' hS => ?_⟩) HS ?_
  · kernel_rfl
  refine draw_take (i := 22) (l2 := #[true, true, true, true, true, true, true, true, true, true, true, true, true, true, true, true, true, true, true, true, true, true, true, false, false, false, false, false, false, false, false, false, false, false, false, false, false]) (v := .bool false) rfl (by kernel_rfl) (by kernel_rfl) (by kernel_rfl) (by kernel_rfl) (by kernel_rfl) (fun _ _ _ h => h) (.inl ⟨by kernel_rfl, fun W' hS => ?_⟩) HS ?_
  · kernel_rfl
  refine draw_take (i := 23) (l2 := #[true, true, true, true, true, true, true, true, true, true, true, true, true, true, true, true, true, true, true, true, true, true, true, true, false, false, false, false, false, false, false, false, false, false, false, false, false]) (v := .bool false) rfl (by kernel_rfl) (by kernel_rfl) (by kernel_rfl) (by kernel_rfl) (by kernel_rfl) (fun _ _ _ h => h) (.inl ⟨by kernel_rfl, fun W' hS => ?_⟩) HS ?_
  · kernel_rfl
  refine draw_take (i := 24) (l2 := #[true, true, true, true, true, true, true, true, true, true, true, true, true, true, true, true, true, true, true, true, true, true, true, true, true, false, false, false, false, false, false, false, false, false, false, false, false]) (v := .bool false) rfl (by kernel_rfl) (by kernel_rfl) (by kernel_rfl) (by kernel_rfl) (by kernel_rfl) (fun _ _ _ h => h) (.inl ⟨by kernel_rfl, fun W' hS => ?_⟩) HS ?_
  · kernel_rfl
  refine draw_take (i := 25) (l2 := #[true, true, true, true, true, true, true, true, true, true, true, true, true, true, true, true, true, true, true, true, true, true, true, true, true, true, false, false, false, false, false, false, false, false, false, false, false]) (v := .int .i64 0) rfl (by kernel_rfl) (by kernel_rfl) (by kernel_rfl) (by kernel_rfl) (by kernel_rfl) (fun _ _ _ h => h) (.inl ⟨by kernel_rfl, fun W' hS => ?_⟩) HS ?_
  · kernel_rfl
  refine draw_take (i := 26) (l2 := #[true, true, true, true, true, true, true, true, true, true, true, true, true, true, true, true, true, true, true, true, true, true, true, true, true, true, true, false, false, false, false, false, false, false, false, false, false]) (v := .bool false) rfl (by kernel_rfl) (by kernel_rfl) (by kernel_rfl) (by kernel_rfl) (by kernel_rfl) (fun _ _ _ h => h) (.inl ⟨by kernel_rfl, fun W' hS => ?_⟩) HS ?_
  · kernel_rfl
  refine draw_take (i := 27) (l2 := #[true, true, true, true, true, true, true, true, true, true, true, true, true, true, true, true, true, true, true, true, true, true, true, true, true, true, true, true, false, false, false, false, false, false, false, false, false]) (v := .bool false) rfl (by kernel_rfl) (by kernel_rfl) (by kernel_rfl) (by kernel_rfl) (by kernel_rfl) (fun _ _ _ h => h) (.inl ⟨by kernel_rfl, fun W' hS => ?_⟩) HS ?_
  · kernel_rfl
  refine draw_take (i := 28) (l2 := #[true, true, true, true, true, true, true, true, true, true, true, true, true, true, true, true, true, true, true, true, true, true, true, true, true, true, true, true, true, false, false, false, false, false, false, false, false]) (v := .bool false) rfl (by kernel_rfl) (by kernel_rfl) (by kernel_rfl) (by kernel_rfl) (by kernel_rfl) (fun _ _ _ h => h) (.inl ⟨by kernel_rfl, fun W' hS => ?_⟩) HS ?_
  · kernel_rfl
  refine draw_take (i := 29) (l2 := #[true, true, true, true, true, true, true, true, true, true, true, true, true, true, true, true, true, true, true, true, true, true, true, true, true, true, true, true, true, true, false, false, false, false, false, false, false]) (v := .agg #[.int .i64 5, .int .i64 0, .slice A8 2 c8]) rfl (by kernel_rfl) (by kernel_rfl) (by kernel_rfl) (by kernel_rfl) (by kernel_rfl) (fun _ _ _ h => h) (.inl ⟨by kernel_rfl, fun W' hS => ?_⟩) HS ?_
  · exact run_load_row rfl (by kernel_rfl) (run_loadVar_row (P := Tryd.prog) W' g8 26 26 #[.int .i64 5, .int .i64 0, .slice A8 2 c8] (0, 0) _ (blk_below hb810 hS) Tryd.underlying26 rfl (by kernel_rfl))
  refine draw_take (i := 30) (l2 := #[true, true, true, true, true, true, true, true, true, true, true, true, true, true, true, true, true, true, true, true, true, true, true, true, true, true, true, true, true, true, true, false, false, false, false, false, false]) (v := .agg #[.int .i64 4, .int .i64 3, .slice none 0 0]) rfl (by kernel_rfl) (by kernel_rfl) (by kernel_rfl) (by kernel_rfl) (by kernel_rfl) (fun _ _ _ h => h) (.inl ⟨by kernel_rfl, fun W' hS => ?_⟩) HS ?_
  · exact run_load_row rfl (by kernel_rfl) (run_loadVar_row (P := Tryd.prog) W' g1 26 26 #[.int .i64 4, .int .i64 3, .slice none 0 0] (0, 0) _ (blk_below hb110 hS) Tryd.underlying26 rfl (by kernel_rfl))
  refine draw_call (i := 31) (l2 := #[true, true, true, true, true, true, true, true, true, true, true, true, true, true, true, true, true, true, true, true, true, true, true, true, true, true, true, true, true, true, true, true, false, false, false, false, false]) ?h8_r ?h8_l (show _ from rfl) ?h8_w ?h8_run (rint_calls 5 _) ?h8_k ?h8_p ?h8_o
  case h8_r => kernel_rfl
  case h8_l => kernel_rfl
  case h8_w => kernel_rfl
  case h8_run => kernel_rfl
  case h8_o => exact (fun W1 h => by cases h.1)
  case h8_p => exact (fun c W1 h => by cases h.1)
  intro v W2 h
  obtain ⟨h1, hB12⟩ := h
  injection h1 with h1
  subst h1
  have HS2 : Below w10.heap.size w10 W2 := below_step HS hB12
  refine ⟨HS2, ?_⟩
  refine draw_slice (i := 32) (l2 := #[true, true, true, true, true, true, true, true, true, true, true, true, true, true, true, true, true, true, true, true, true, true, true, true, true, true, true, true, true, true, true, true, true, false, false, false, false]) (n := 2) (cs := #[.int .i64 4, .int .i64 3, .slice none 0 0, .int .i64 2, .int .i64 5, .slice none 0 0]) (t := 26) (by kernel_rfl) (by kernel_rfl) rfl (by kernel_rfl) (by kernel_rfl) ?_
  intro gb W3 hgb hbb hBb
  have HS3 : Below w10.heap.size w10 W3 := below_step HS2 hBb
  have hC3 := C_chan hbb
  refine ⟨HS3, ?_⟩
  refine draw_take (i := 33) (l2 := #[true, true, true, true, true, true, true, true, true, true, true, true, true, true, true, true, true, true, true, true, true, true, true, true, true, true, true, true, true, true, true, true, true, true, false, false, false]) (v := .agg #[.int .i64 5, .int .i64 0, .slice (some ⟨gb, 0, none⟩) 2 2]) rfl (by kernel_rfl) (by kernel_rfl) (by kernel_rfl) (by kernel_rfl) (by kernel_rfl) (fun _ _ _ h => h) (.inl ⟨by kernel_rfl, fun W' hS => ?_⟩) HS3 ?_
  · kernel_rfl
  refine draw_call (i := 34) (l2 := #[true, true, true, true, true, true, true, true, true, true, true, true, true, true, true, true, true, true, true, true, true, true, true, true, true, true, true, true, true, true, true, true, true, true, true, false, false]) ?h9_r ?h9_l (show _ from rfl) ?h9_w ?h9_run (same4_calls A8 (some ⟨gb, 0, none⟩) c8 2 _ (Kd.C_below hC10 HS3) hl8 hC3 (Nat.le_refl _)) ?h9_k ?h9_p ?h9_o
  case h9_r => kernel_rfl
  case h9_l => kernel_rfl
  case h9_w => kernel_rfl
  case h9_run => kernel_rfl
  case h9_o => exact (fun W1 h => by cases h.1)
  case h9_p => exact (fun c W1 h => by cases h.1)
  intro v W4 h
  obtain ⟨h1, hB34⟩ := h
  injection h1 with h1
  subst h1
  have HS4 : Below w10.heap.size w10 W4 := below_step HS3 hB34
  refine ⟨HS4, ?_⟩
  refine draw_take (i := 35) (l2 := #[true, true, true, true, true, true, true, true, true, true, true, true, true, true, true, true, true, true, true, true, true, true, true, true, true, true, true, true, true, true, true, true, true, true, true, true, false]) (v := .bool false) rfl (by kernel_rfl) (by kernel_rfl) (by kernel_rfl) (by kernel_rfl) (by kernel_rfl) (fun _ _ _ h => h) (.inl ⟨by kernel_rfl, fun W' hS => ?_⟩) HS4 ?_
  · kernel_rfl
  refine draw_take (i := 36) (l2 := #[true, true, true, true, true, true, true, true, true, true, true, true, true, true, true, true, true, true, true, true, true, true, true, true, true, true, true, true, true, true, true, true, true, true, true, true, true]) (v := .bool false) rfl (by kernel_rfl) (by kernel_rfl) (by kernel_rfl) (by kernel_rfl) (by kernel_rfl) (fun _ _ _ h => h) (.inl ⟨by kernel_rfl, fun W' hS => ?_⟩) HS4 ?_
  · kernel_rfl
  refine draw_doneN (by kernel_rfl) ?_
  clear hC3 hbb hC10 hC8 hbel9 hg10
  have hB11 : Below w6.heap.size w6 W4 := below_step hB10 HS4
  clear HS HS2 HS3 HS4 hB12 hBb hB34 hWg hB8 hB9 hB10 hB7
  go_simp
  go_wp2_with (first
    | (go_at_call 23; (with_reducible refine (Each_calls _ _).mono ?_); rintro e w12 ⟨gs, hgs, rfl, hbs, hbel12, hs12⟩)
    | ((with_reducible refine gate_dst (N := 12) rfl ?_); refine box_event2 rfl (N := 12) rfl (cs := #[.int .i64 0]) (t := 3) (by kernel_rfl) ?_; intro g12 hg12 w13 hb12 hbel13 hs13)
    | ((with_reducible refine gate_store (t := 3) (p := 12) rfl ?_); refine store_cell_event2 rfl rfl rfl rfl hb12 rfl (by kernel_rfl) rfl rfl ?_; intro w14 hb14 hgr14 hs14))
  have hs14' : w14.heap.size = w12.heap.size + 1 := by rw [hs14.out, hs13.out]
  have hg12' := hg12.out
  have hbs' := blk_lt hbs
  have hbs14 : Blk w14 gs 9 #[.string ⟨#[49, 10, 117, 110, 105, 116, 10, 120, 10, 50]⟩] := blk_grown (blk_below hbs hbel13) hgr14 (by have : gs ≠ g12 := (by omega); simpa using this)
  have h0lt : g0 < w12.heap.size := by have h1 := blk_lt hb03; have h2 := hB6.size; have h3 := hB11.size; have h4 := hbel12.size; omega
  have hb014 : Blk w14 g0 4 #[.bool false] := blk_grown (blk_below (blk_below (blk_below (blk_below hb03 hB6) hB11) hbel12) hbel13) hgr14 (by have : g0 ≠ g12 := (by omega); simpa using this)
  have hB14 : Below w.heap.size w w14 := by
    have h1 : Below w.heap.size w w12 := (hB3.trans (below_wide hB6 (below_step hB11 hbel12) hB3.size))
    exact (h1.trans (hbel13.mono h1.size)).grown hgr14 (by have := h1.size; have := hbel13.size; omega) (by rintro k ⟨⟩; have := h1.size; omega)
  have HTz := HT
  have hl12 : g12 < w14.heap.size := by omega
  have hl0 : g0 < w14.heap.size := by omega
  have h012 : g0 ≠ g12 := by omega
  have hw12 : w.heap.size ≤ g12 := by have := hB3.size; have := hB6.size; have := hB11.size; have := hbel12.size; omega
  have hww := hB14.size
  clear hs14' hg12' hbs' h0lt hg12 hs13 hs14 hs12 hgs
  clear hB3 hB6 hB11 hbel12 hbel13 hgr14 hb03 hb16 hb110 hb810 hbs hb12 hb13 hb55 HT
  refine wp_iterR (gf := 45) (lb := #[.pointer (some ⟨gs, 0, none⟩)]) rfl (enters Tryd.func45 (by kernel_rfl) rfl) (each_said gs [49, 10, 117, 110, 105, 116, 10, 120, 10, 50] (by decide)) (by rintro x A vs ⟨_, _, rfl, _⟩; rfl)
    (fun W' hW' => blk_below hbs14 hW')
    (fun pre A => Blk A g12 3 #[.int .i64 (pre.length : Nat)] ∧ Blk A g0 4 #[.bool false] ∧ Below w.heap.size w A)
    (fun _ _ _ => False)
    (fun k h => h.elim) (fun k h => h.elim) ?hI (fun _ _ _ _ h _ _ => h.elim) ⟨hb14, hb014, hB14⟩ ?round ?done (fun _ _ _ _ _ h _ => h.elim)
  case hI =>
    rintro pre A B ⟨h1, h2, h3⟩ hsz hc
    have hno : ∀ k, loopOwn (fun _ => False) w14.heap.size 5 k → w14.heap.size ≤ k := fun k hk => by
      rcases hk with h | h | h | h
      · omega
      · omega
      · exact h.elim
      · omega
    exact ⟨hc.blk h1 (fun h => by have := hno _ h; omega), hc.blk h2 (fun h => by have := hno _ h; omega), h3.trans (hc.below (fun k hk h => by have := hno _ h; omega) h3.size)⟩
  case round =>
    rintro pre x vs A ⟨h12, h0, hB⟩ hpre hsz ⟨Ad, c, rfl, hl, hC⟩
    rw [w_each] at hpre
    rcases two_prefix hpre with ⟨rfl, rfl⟩ | ⟨rfl, rfl⟩
    · dsimp only at hl hC
      simp only [List.zip_toArray, List.zip_cons_cons, List.zip_nil_right, List.foldl_toArray, List.foldl_cons, List.foldl_nil, List.setIfInBounds_toArray, List.set_cons_succ, List.set_cons_zero]
      refine wpIn_seq ?_
      refine region_inRound (by rintro ⟨_, _, h⟩; exact h) (by kernel_rfl) ?_
      go_wp2
      refine region_inRound (by rintro ⟨_, _, h⟩; exact h) (by kernel_rfl) ?_
      go_wp2_with (first
        | ((with_reducible refine gate_dst (N := 14) rfl ?_); refine box_event2 rfl (N := 14) rfl (cs := #[.int .i64 0, .int .i64 0, .slice none 0 0]) (t := 26) (by kernel_rfl) ?_; intro g14 hg14 A1 hb14 hbelA1 hsA1)
        | ((with_reducible refine gate_store (t := 26) (p := 14) rfl ?_); refine store_row_event rfl rfl rfl rfl hb14 (by kernel_rfl) rfl (by kernel_rfl) ?_; intro A2 hb142 hgA2))
      have hBA : Below A.heap.size A A2 := hbelA1.grown hgA2 hbelA1.size (by rintro k ⟨⟩; rw [hg14.out]; exact Nat.le_refl _)
      refine ⟨Chg.of_below hBA _, fun Az hAz => ?_⟩
      have hsz2 := hBA.size
      have hszz := hAz.size
      have h12a : Blk Az g12 3 #[.int .i64 0] := hAz.blk (blk_below h12 hBA) (by omega)
      have h0a : Blk Az g0 4 #[.bool false] := hAz.blk (blk_below h0 hBA) (by omega)
      have hg14' : w14.heap.size + 7 ≤ g14 := by rw [hg14.out]; exact hsz
      have hb14a : Blk Az g14 26 #[.int .i64 2, .int .i64 1, .slice Ad 0 c] := hAz.blk hb142 (by omega)
      have hCa : Kd.C k26 Az Ad 0 [] := C_empty _ _
      clear hb14 hb142 hgA2 hbelA1 hC hg14
      apply wpIn_block
      refine wpIn_seq ?_
      refine wpIn_seq ?_
      refine draw_beginInN (fun W' => Below Az.heap.size Az W') (fun _ => false) (by kernel_rfl) (by kernel_rfl) (n := 23) rfl rfl ?_
      intro W0 _hWh hWg
      clear _hWh
      have HS : Below Az.heap.size Az W0 := below_of_grown0 hWg
      refine draw_take (i := 0) (l2 := #[true, false, false, false, false, false, false, false, false, false, false, false, false, false, false, false, false, false, false, false, false, false, false]) (v := .int .i64 0) rfl (by kernel_rfl) (by kernel_rfl) (by kernel_rfl) (by kernel_rfl) (by kernel_rfl) (fun _ _ _ h => h) (.inl ⟨by kernel_rfl, fun W' hS => ?_⟩) HS ?_
      · kernel_rfl
      refine draw_take (i := 1) (l2 := #[true, true, false, false, false, false, false, false, false, false, false, false, false, false, false, false, false, false, false, false, false, false, false]) (v := .int .i64 0) rfl (by kernel_rfl) (by kernel_rfl) (by kernel_rfl) (by kernel_rfl) (by kernel_rfl) (fun _ _ _ h => h) (.inl ⟨by kernel_rfl, fun W' hS => ?_⟩) HS ?_
      · exact run_load_cell rfl (by kernel_rfl) (blk_below h12a hS) (i := 0) rfl Tryd.underlying3 rfl
      refine draw_take (i := 2) (l2 := #[true, true, true, false, false, false, false, false, false, false, false, false, false, false, false, false, false, false, false, false, false, false, false]) (v := .bool false) rfl (by kernel_rfl) (by kernel_rfl) (by kernel_rfl) (by kernel_rfl) (by kernel_rfl) (fun _ _ _ h => h) (.inl ⟨by kernel_rfl, fun W' hS => ?_⟩) HS ?_
      · kernel_rfl
      refine draw_take (i := 3) (l2 := #[true, true, true, true, false, false, false, false, false, false, false, false, false, false, false, false, false, false, false, false, false, false, false]) (v := .bool false) rfl (by kernel_rfl) (by kernel_rfl) (by kernel_rfl) (by kernel_rfl) (by kernel_rfl) (fun _ _ _ h => h) (.inl ⟨by kernel_rfl, fun W' hS => ?_⟩) HS ?_
      · kernel_rfl
      refine draw_take (i := 4) (l2 := #[true, true, true, true, true, false, false, false, false, false, false, false, false, false, false, false, false, false, false, false, false, false, false]) (v := .int .i64 0) rfl (by kernel_rfl) (by kernel_rfl) (by kernel_rfl) (by kernel_rfl) (by kernel_rfl) (fun _ _ _ h => h) (.inl ⟨by kernel_rfl, fun W' hS => ?_⟩) HS ?_
      · kernel_rfl
      refine draw_take (i := 5) (l2 := #[true, true, true, true, true, true, false, false, false, false, false, false, false, false, false, false, false, false, false, false, false, false, false]) (v := .bool true) rfl (by kernel_rfl) (by kernel_rfl) (by kernel_rfl) (by kernel_rfl) (by kernel_rfl) (fun _ _ _ h => h) (.inl ⟨by kernel_rfl, fun W' hS => ?_⟩) HS ?_
      · kernel_rfl
      refine draw_take (i := 6) (l2 := #[true, true, true, true, true, true, true, false, false, false, false, false, false, false, false, false, false, false, false, false, false, false, false]) (v := .bool true) rfl (by kernel_rfl) (by kernel_rfl) (by kernel_rfl) (by kernel_rfl) (by kernel_rfl) (fun _ _ _ h => h) (.inl ⟨by kernel_rfl, fun W' hS => ?_⟩) HS ?_
      · kernel_rfl
      refine draw_take (i := 7) (l2 := #[true, true, true, true, true, true, true, true, false, false, false, false, false, false, false, false, false, false, false, false, false, false, false]) (v := .agg #[.int .i64 2, .int .i64 1, .slice Ad 0 c]) rfl (by kernel_rfl) (by kernel_rfl) (by kernel_rfl) (by kernel_rfl) (by kernel_rfl) (fun _ _ _ h => h) (.inl ⟨by kernel_rfl, fun W' hS => ?_⟩) HS ?_
      · exact run_load_row rfl (by kernel_rfl) (run_loadVar_row (P := Tryd.prog) W' g14 26 26 #[.int .i64 2, .int .i64 1, .slice Ad 0 c] (0, 0) _ (blk_below hb14a hS) Tryd.underlying26 rfl (by kernel_rfl))
      refine draw_call (i := 8) (l2 := #[true, true, true, true, true, true, true, true, true, false, false, false, false, false, false, false, false, false, false, false, false, false, false]) ?h10_r ?h10_l (show _ from rfl) ?h10_w ?h10_run (rint_calls 1 _) ?h10_k ?h10_p ?h10_o
      case h10_r => kernel_rfl
      case h10_l => kernel_rfl
      case h10_w => kernel_rfl
      case h10_run => kernel_rfl
      case h10_o => exact (fun W1 h => by cases h.1)
      case h10_p => exact (fun c W1 h => by cases h.1)
      intro v W1 h
      obtain ⟨h1, hB12⟩ := h
      injection h1 with h1
      subst h1
      have HS1 : Below Az.heap.size Az W1 := below_step HS hB12
      refine ⟨HS1, ?_⟩
      refine draw_call (i := 9) (l2 := #[true, true, true, true, true, true, true, true, true, true, false, false, false, false, false, false, false, false, false, false, false, false, false]) ?h11_r ?h11_l (show _ from rfl) ?h11_w ?h11_run (same_wi Ad c _ (Kd.C_below hCa HS1)) ?h11_k ?h11_p ?h11_o
      case h11_r => kernel_rfl
      case h11_l => kernel_rfl
      case h11_w => kernel_rfl
      case h11_run => kernel_rfl
      case h11_o => exact (fun W1 h => by cases h.1)
      case h11_p => exact (fun c W1 h => by cases h.1)
      intro v W2 h
      obtain ⟨h1, hB23⟩ := h
      injection h1 with h1
      subst h1
      have HS2 : Below Az.heap.size Az W2 := below_step HS1 hB23
      refine ⟨HS2, ?_⟩
      refine draw_take (i := 10) (l2 := #[true, true, true, true, true, true, true, true, true, true, true, false, false, false, false, false, false, false, false, false, false, false, false]) (v := .bool false) rfl (by kernel_rfl) (by kernel_rfl) (by kernel_rfl) (by kernel_rfl) (by kernel_rfl) (fun _ _ _ h => h) (.inl ⟨by kernel_rfl, fun W' hS => ?_⟩) HS2 ?_
      · kernel_rfl
      refine draw_take (i := 11) (l2 := #[true, true, true, true, true, true, true, true, true, true, true, true, false, false, false, false, false, false, false, false, false, false, false]) (v := .bool false) rfl (by kernel_rfl) (by kernel_rfl) (by kernel_rfl) (by kernel_rfl) (by kernel_rfl) (fun _ _ _ h => h) (.inl ⟨by kernel_rfl, fun W' hS => ?_⟩) HS2 ?_
      · kernel_rfl
      refine draw_take (i := 12) (l2 := #[true, true, true, true, true, true, true, true, true, true, true, true, true, false, false, false, false, false, false, false, false, false, false]) (v := .bool false) rfl (by kernel_rfl) (by kernel_rfl) (by kernel_rfl) (by kernel_rfl) (by kernel_rfl) (fun _ _ _ h => h) (.inl ⟨by kernel_rfl, fun W' hS => ?_⟩) HS2 ?_
      · kernel_rfl
      refine draw_take (i := 13) (l2 := #[true, true, true, true, true, true, true, true, true, true, true, true, true, true, false, false, false, false, false, false, false, false, false]) (v := .bool false) rfl (by kernel_rfl) (by kernel_rfl) (by kernel_rfl) (by kernel_rfl) (by kernel_rfl) (fun _ _ _ h => h) (.inl ⟨by kernel_rfl, fun W' hS => ?_⟩) HS2 ?_
      · kernel_rfl
      refine draw_take (i := 14) (l2 := #[true, true, true, true, true, true, true, true, true, true, true, true, true, true, true, false, false, false, false, false, false, false, false]) (v := .int .i64 0) rfl (by kernel_rfl) (by kernel_rfl) (by kernel_rfl) (by kernel_rfl) (by kernel_rfl) (fun _ _ _ h => h) (.inl ⟨by kernel_rfl, fun W' hS => ?_⟩) HS2 ?_
      · kernel_rfl
      refine draw_take (i := 15) (l2 := #[true, true, true, true, true, true, true, true, true, true, true, true, true, true, true, true, false, false, false, false, false, false, false]) (v := .bool false) rfl (by kernel_rfl) (by kernel_rfl) (by kernel_rfl) (by kernel_rfl) (by kernel_rfl) (fun _ _ _ h => h) (.inl ⟨by kernel_rfl, fun W' hS => ?_⟩) HS2 ?_
      · kernel_rfl
      refine draw_take (i := 16) (l2 := #[true, true, true, true, true, true, true, true, true, true, true, true, true, true, true, true, true, false, false, false, false, false, false]) (v := .bool false) rfl (by kernel_rfl) (by kernel_rfl) (by kernel_rfl) (by kernel_rfl) (by kernel_rfl) (fun _ _ _ h => h) (.inl ⟨by kernel_rfl, fun W' hS => ?_⟩) HS2 ?_
      · kernel_rfl
      refine draw_take (i := 17) (l2 := #[true, true, true, true, true, true, true, true, true, true, true, true, true, true, true, true, true, true, false, false, false, false, false]) (v := undef) rfl (by kernel_rfl) (by kernel_rfl) (by kernel_rfl) (by kernel_rfl) (by kernel_rfl) (fun _ _ _ h => h) (.inr ⟨by kernel_rfl, rfl⟩) HS2 ?_
      refine draw_take (i := 18) (l2 := #[true, true, true, true, true, true, true, true, true, true, true, true, true, true, true, true, true, true, true, false, false, false, false]) (v := undef) rfl (by kernel_rfl) (by kernel_rfl) (by kernel_rfl) (by kernel_rfl) (by kernel_rfl) (fun _ _ _ h => h) (.inr ⟨by kernel_rfl, rfl⟩) HS2 ?_
      refine draw_off (i := 19) (l2 := #[true, true, true, true, true, true, true, true, true, true, true, true, true, true, true, true, true, true, true, true, false, false, false]) (by kernel_rfl) (by kernel_rfl) rfl (by kernel_rfl) HS2 ?_
      refine draw_take (i := 20) (l2 := #[true, true, true, true, true, true, true, true, true, true, true, true, true, true, true, true, true, true, true, true, true, false, false]) (v := undef) rfl (by kernel_rfl) (by kernel_rfl) (by kernel_rfl) (by kernel_rfl) (by kernel_rfl) (fun _ _ _ h => h) (.inr ⟨by kernel_rfl, rfl⟩) HS2 ?_
      refine draw_take (i := 21) (l2 := #[true, true, true, true, true, true, true, true, true, true, true, true, true, true, true, true, true, true, true, true, true, true, false]) (v := .bool false) rfl (by kernel_rfl) (by kernel_rfl) (by kernel_rfl) (by kernel_rfl) (by kernel_rfl) (fun _ _ _ h => h) (.inl ⟨by kernel_rfl, fun W' hS => ?_⟩) HS2 ?_
      · kernel_rfl
      refine draw_take (i := 22) (l2 := #[true, true, true, true, true, true, true, true, true, true, true, true, true, true, true, true, true, true, true, true, true, true, true]) (v := .bool false) rfl (by kernel_rfl) (by kernel_rfl) (by kernel_rfl) (by kernel_rfl) (by kernel_rfl) (fun _ _ _ h => h) (.inl ⟨by kernel_rfl, fun W' hS => ?_⟩) HS2 ?_
      · kernel_rfl
      refine draw_doneN (by kernel_rfl) ?_
      have h12z := blk_below h12a HS2
      have h0z := blk_below h0a HS2
      have q12 : W2.cell? ⟨g12, 0, none⟩ = some (.int .i64 0) := Blk.cell h12z 0
      have q12f : W2.frozen? ⟨g12, 0, none⟩ = false := Blk.frozen h12z 0
      have hs22 := HS2.size
      have hBz : Below w.heap.size w W2 := (hB.trans ((hBA.mono hB.size).trans (hAz.below (fun k hk h => by omega) (by omega)))).trans (HS2.mono (by omega))
      refine wpIn_cond_false (by kernel_rfl) ?_
      refine wpIn_skip ?_
      show Code.wpIn _ _ _ _ _ _ _
      refine region_inRound (by rintro ⟨_, _, h⟩; exact h) (by kernel_rfl) ?_
      go_wp2
      have hno : ∀ k, loopOwn (fun _ => False) w14.heap.size 5 k → w14.heap.size ≤ k := fun k hk => by
        rcases hk with h | h | h | h
        · omega
        · omega
        · exact h.elim
        · omega
      have c1 : RkOf (fun _ => False) (fun _ => False) w14.heap.size 5 Az W2 := Chg.of_below HS2 _
      have c2 : ∀ v, RkOf (fun _ => False) (fun _ => False) w14.heap.size 5 W2 (W2.setCell ⟨g12, 0, none⟩ v) := fun v => (chg_setCell W2 g12 0 v).mono fun k hk h => h.elim (fun h => h.elim) fun h => by have := hno _ h; omega
      exact ⟨c1.trans (c2 _), blk_put h12z 0 _ (by simp [wrap64]), blk_far h0z h012 _, hBz.trans (Below.setCell_ (Below.refl _ _) hw12 _)⟩
    · dsimp only at hl hC
      simp only [List.zip_toArray, List.zip_cons_cons, List.zip_nil_right, List.foldl_toArray, List.foldl_cons, List.foldl_nil, List.setIfInBounds_toArray, List.set_cons_succ, List.set_cons_zero]
      refine wpIn_seq ?_
      refine region_inRound (by rintro ⟨_, _, h⟩; exact h) (by kernel_rfl) ?_
      go_wp2
      refine region_inRound (by rintro ⟨_, _, h⟩; exact h) (by kernel_rfl) ?_
      go_wp2_with (first
        | ((with_reducible refine gate_dst (N := 14) rfl ?_); refine box_event2 rfl (N := 14) rfl (cs := #[.int .i64 0, .int .i64 0, .slice none 0 0]) (t := 26) (by kernel_rfl) ?_; intro g14 hg14 A1 hb14 hbelA1 hsA1)
        | ((with_reducible refine gate_store (t := 26) (p := 14) rfl ?_); refine store_row_event rfl rfl rfl rfl hb14 (by kernel_rfl) rfl (by kernel_rfl) ?_; intro A2 hb142 hgA2))
      have hBA : Below A.heap.size A A2 := hbelA1.grown hgA2 hbelA1.size (by rintro k ⟨⟩; rw [hg14.out]; exact Nat.le_refl _)
      refine ⟨Chg.of_below hBA _, fun Az hAz => ?_⟩
      have hsz2 := hBA.size
      have hszz := hAz.size
      have h12a : Blk Az g12 3 #[.int .i64 1] := hAz.blk (blk_below h12 hBA) (by omega)
      have h0a : Blk Az g0 4 #[.bool false] := hAz.blk (blk_below h0 hBA) (by omega)
      have hg14' : w14.heap.size + 7 ≤ g14 := by rw [hg14.out]; exact hsz
      have hb14a : Blk Az g14 26 #[.int .i64 1, .int .i64 0, .slice Ad 0 c] := hAz.blk hb142 (by omega)
      have hCa : Kd.C k26 Az Ad 0 [] := C_empty _ _
      clear hb14 hb142 hgA2 hbelA1 hC hg14
      apply wpIn_block
      refine wpIn_seq ?_
      refine wpIn_seq ?_
      refine draw_beginInN (fun W' => Below Az.heap.size Az W') (fun _ => false) (by kernel_rfl) (by kernel_rfl) (n := 23) rfl rfl ?_
      intro W0 _hWh hWg
      clear _hWh
      have HS : Below Az.heap.size Az W0 := below_of_grown0 hWg
      refine draw_take (i := 0) (l2 := #[true, false, false, false, false, false, false, false, false, false, false, false, false, false, false, false, false, false, false, false, false, false, false]) (v := .int .i64 1) rfl (by kernel_rfl) (by kernel_rfl) (by kernel_rfl) (by kernel_rfl) (by kernel_rfl) (fun _ _ _ h => h) (.inl ⟨by kernel_rfl, fun W' hS => ?_⟩) HS ?_
      · kernel_rfl
      refine draw_take (i := 1) (l2 := #[true, true, false, false, false, false, false, false, false, false, false, false, false, false, false, false, false, false, false, false, false, false, false]) (v := .int .i64 1) rfl (by kernel_rfl) (by kernel_rfl) (by kernel_rfl) (by kernel_rfl) (by kernel_rfl) (fun _ _ _ h => h) (.inl ⟨by kernel_rfl, fun W' hS => ?_⟩) HS ?_
      · exact run_load_cell rfl (by kernel_rfl) (blk_below h12a hS) (i := 0) rfl Tryd.underlying3 rfl
      refine draw_take (i := 2) (l2 := #[true, true, true, false, false, false, false, false, false, false, false, false, false, false, false, false, false, false, false, false, false, false, false]) (v := .bool false) rfl (by kernel_rfl) (by kernel_rfl) (by kernel_rfl) (by kernel_rfl) (by kernel_rfl) (fun _ _ _ h => h) (.inl ⟨by kernel_rfl, fun W' hS => ?_⟩) HS ?_
      · kernel_rfl
      refine draw_take (i := 3) (l2 := #[true, true, true, true, false, false, false, false, false, false, false, false, false, false, false, false, false, false, false, false, false, false, false]) (v := .bool false) rfl (by kernel_rfl) (by kernel_rfl) (by kernel_rfl) (by kernel_rfl) (by kernel_rfl) (fun _ _ _ h => h) (.inl ⟨by kernel_rfl, fun W' hS => ?_⟩) HS ?_
      · kernel_rfl
      refine draw_take (i := 4) (l2 := #[true, true, true, true, true, false, false, false, false, false, false, false, false, false, false, false, false, false, false, false, false, false, false]) (v := .int .i64 1) rfl (by kernel_rfl) (by kernel_rfl) (by kernel_rfl) (by kernel_rfl) (by kernel_rfl) (fun _ _ _ h => h) (.inl ⟨by kernel_rfl, fun W' hS => ?_⟩) HS ?_
      · kernel_rfl
      refine draw_take (i := 5) (l2 := #[true, true, true, true, true, true, false, false, false, false, false, false, false, false, false, false, false, false, false, false, false, false, false]) (v := .bool false) rfl (by kernel_rfl) (by kernel_rfl) (by kernel_rfl) (by kernel_rfl) (by kernel_rfl) (fun _ _ _ h => h) (.inl ⟨by kernel_rfl, fun W' hS => ?_⟩) HS ?_
      · kernel_rfl
      refine draw_take (i := 6) (l2 := #[true, true, true, true, true, true, true, false, false, false, false, false, false, false, false, false, false, false, false, false, false, false, false]) (v := .bool false) rfl (by kernel_rfl) (by kernel_rfl) (by kernel_rfl) (by kernel_rfl) (by kernel_rfl) (fun _ _ _ h => h) (.inl ⟨by kernel_rfl, fun W' hS => ?_⟩) HS ?_
      · kernel_rfl
      refine draw_take (i := 7) (l2 := #[true, true, true, true, true, true, true, true, false, false, false, false, false, false, false, false, false, false, false, false, false, false, false]) (v := undef) rfl (by kernel_rfl) (by kernel_rfl) (by kernel_rfl) (by kernel_rfl) (by kernel_rfl) (fun _ _ _ h => h) (.inr ⟨by kernel_rfl, rfl⟩) HS ?_
      refine draw_off (i := 8) (l2 := #[true, true, true, true, true, true, true, true, true, false, false, false, false, false, false, false, false, false, false, false, false, false, false]) (by kernel_rfl) (by kernel_rfl) rfl (by kernel_rfl) HS ?_
      refine draw_off (i := 9) (l2 := #[true, true, true, true, true, true, true, true, true, true, false, false, false, false, false, false, false, false, false, false, false, false, false]) (by kernel_rfl) (by kernel_rfl) rfl (by kernel_rfl) HS ?_
      refine draw_take (i := 10) (l2 := #[true, true, true, true, true, true, true, true, true, true, true, false, false, false, false, false, false, false, false, false, false, false, false]) (v := undef) rfl (by kernel_rfl) (by kernel_rfl) (by kernel_rfl) (by kernel_rfl) (by kernel_rfl) (fun _ _ _ h => h) (.inr ⟨by kernel_rfl, rfl⟩) HS ?_
      refine draw_take (i := 11) (l2 := #[true, true, true, true, true, true, true, true, true, true, true, true, false, false, false, false, false, false, false, false, false, false, false]) (v := .bool false) rfl (by kernel_rfl) (by kernel_rfl) (by kernel_rfl) (by kernel_rfl) (by kernel_rfl) (fun _ _ _ h => h) (.inl ⟨by kernel_rfl, fun W' hS => ?_⟩) HS ?_
      · kernel_rfl
      refine draw_take (i := 12) (l2 := #[true, true, true, true, true, true, true, true, true, true, true, true, true, false, false, false, false, false, false, false, false, false, false]) (v := .bool false) rfl (by kernel_rfl) (by kernel_rfl) (by kernel_rfl) (by kernel_rfl) (by kernel_rfl) (fun _ _ _ h => h) (.inl ⟨by kernel_rfl, fun W' hS => ?_⟩) HS ?_
      · kernel_rfl
      refine draw_take (i := 13) (l2 := #[true, true, true, true, true, true, true, true, true, true, true, true, true, true, false, false, false, false, false, false, false, false, false]) (v := .bool false) rfl (by kernel_rfl) (by kernel_rfl) (by kernel_rfl) (by kernel_rfl) (by kernel_rfl) (fun _ _ _ h => h) (.inl ⟨by kernel_rfl, fun W' hS => ?_⟩) HS ?_
      · kernel_rfl
      refine draw_take (i := 14) (l2 := #[true, true, true, true, true, true, true, true, true, true, true, true, true, true, true, false, false, false, false, false, false, false, false]) (v := .int .i64 1) rfl (by kernel_rfl) (by kernel_rfl) (by kernel_rfl) (by kernel_rfl) (by kernel_rfl) (fun _ _ _ h => h) (.inl ⟨by kernel_rfl, fun W' hS => ?_⟩) HS ?_
      · kernel_rfl
      refine draw_take (i := 15) (l2 := #[true, true, true, true, true, true, true, true, true, true, true, true, true, true, true, true, false, false, false, false, false, false, false]) (v := .bool true) rfl (by kernel_rfl) (by kernel_rfl) (by kernel_rfl) (by kernel_rfl) (by kernel_rfl) (fun _ _ _ h => h) (.inl ⟨by kernel_rfl, fun W' hS => ?_⟩) HS ?_
      · kernel_rfl
      refine draw_take (i := 16) (l2 := #[true, true, true, true, true, true, true, true, true, true, true, true, true, true, true, true, true, false, false, false, false, false, false]) (v := .bool true) rfl (by kernel_rfl) (by kernel_rfl) (by kernel_rfl) (by kernel_rfl) (by kernel_rfl) (fun _ _ _ h => h) (.inl ⟨by kernel_rfl, fun W' hS => ?_⟩) HS ?_
      · kernel_rfl
      refine draw_take (i := 17) (l2 := #[true, true, true, true, true, true, true, true, true, true, true, true, true, true, true, true, true, true, false, false, false, false, false]) (v := .agg #[.int .i64 1, .int .i64 0, .slice Ad 0 c]) rfl (by kernel_rfl) (by kernel_rfl) (by kernel_rfl) (by kernel_rfl) (by kernel_rfl) (fun _ _ _ h => h) (.inl ⟨by kernel_rfl, fun W' hS => ?_⟩) HS ?_
      · exact run_load_row rfl (by kernel_rfl) (run_loadVar_row (P := Tryd.prog) W' g14 26 26 #[.int .i64 1, .int .i64 0, .slice Ad 0 c] (0, 0) _ (blk_below hb14a hS) Tryd.underlying26 rfl (by kernel_rfl))
      refine draw_take (i := 18) (l2 := #[true, true, true, true, true, true, true, true, true, true, true, true, true, true, true, true, true, true, true, false, false, false, false]) (v := .agg #[.int .i64 1, .int .i64 0, .slice none 0 0]) rfl (by kernel_rfl) (by kernel_rfl) (by kernel_rfl) (by kernel_rfl) (by kernel_rfl) (fun _ _ _ h => h) (.inl ⟨by kernel_rfl, fun W' hS => ?_⟩) HS ?_
      · kernel_rfl
      refine draw_call (i := 19) (l2 := #[true, true, true, true, true, true, true, true, true, true, true, true, true, true, true, true, true, true, true, true, false, false, false]) ?h12_r ?h12_l (show _ from rfl) ?h12_w ?h12_run (same_wu Ad c _ (Kd.C_below hCa HS)) ?h12_k ?h12_p ?h12_o
      case h12_r => kernel_rfl
      case h12_l => kernel_rfl
      case h12_w => kernel_rfl
      case h12_run => kernel_rfl
      case h12_o => exact (fun W1 h => by cases h.1)
      case h12_p => exact (fun c W1 h => by cases h.1)
      intro v W2 h
      obtain ⟨h1, hB23⟩ := h
      injection h1 with h1
      subst h1
      have HS2 : Below Az.heap.size Az W2 := below_step HS hB23
      refine ⟨HS2, ?_⟩
      refine draw_take (i := 20) (l2 := #[true, true, true, true, true, true, true, true, true, true, true, true, true, true, true, true, true, true, true, true, true, false, false]) (v := .bool false) rfl (by kernel_rfl) (by kernel_rfl) (by kernel_rfl) (by kernel_rfl) (by kernel_rfl) (fun _ _ _ h => h) (.inl ⟨by kernel_rfl, fun W' hS => ?_⟩) HS2 ?_
      · kernel_rfl
      refine draw_take (i := 21) (l2 := #[true, true, true, true, true, true, true, true, true, true, true, true, true, true, true, true, true, true, true, true, true, true, false]) (v := .bool false) rfl (by kernel_rfl) (by kernel_rfl) (by kernel_rfl) (by kernel_rfl) (by kernel_rfl) (fun _ _ _ h => h) (.inl ⟨by kernel_rfl, fun W' hS => ?_⟩) HS2 ?_
      · kernel_rfl
      refine draw_take (i := 22) (l2 := #[true, true, true, true, true, true, true, true, true, true, true, true, true, true, true, true, true, true, true, true, true, true, true]) (v := .bool false) rfl (by kernel_rfl) (by kernel_rfl) (by kernel_rfl) (by kernel_rfl) (by kernel_rfl) (fun _ _ _ h => h) (.inl ⟨by kernel_rfl, fun W' hS => ?_⟩) HS2 ?_
      · kernel_rfl
      refine draw_doneN (by kernel_rfl) ?_
      have h12z := blk_below h12a HS2
      have h0z := blk_below h0a HS2
      have q12 : W2.cell? ⟨g12, 0, none⟩ = some (.int .i64 1) := Blk.cell h12z 0
      have q12f : W2.frozen? ⟨g12, 0, none⟩ = false := Blk.frozen h12z 0
      have hs22 := HS2.size
      have hBz : Below w.heap.size w W2 := (hB.trans ((hBA.mono hB.size).trans (hAz.below (fun k hk h => by omega) (by omega)))).trans (HS2.mono (by omega))
      refine wpIn_cond_false (by kernel_rfl) ?_
      refine wpIn_skip ?_
      show Code.wpIn _ _ _ _ _ _ _
      refine region_inRound (by rintro ⟨_, _, h⟩; exact h) (by kernel_rfl) ?_
      go_wp2
      have hno : ∀ k, loopOwn (fun _ => False) w14.heap.size 5 k → w14.heap.size ≤ k := fun k hk => by
        rcases hk with h | h | h | h
        · omega
        · omega
        · exact h.elim
        · omega
      have c1 : RkOf (fun _ => False) (fun _ => False) w14.heap.size 5 Az W2 := Chg.of_below HS2 _
      have c2 : ∀ v, RkOf (fun _ => False) (fun _ => False) w14.heap.size 5 W2 (W2.setCell ⟨g12, 0, none⟩ v) := fun v => (chg_setCell W2 g12 0 v).mono fun k hk h => h.elim (fun h => h.elim) fun h => by have := hno _ h; omega
      exact ⟨c1.trans (c2 _), blk_put h12z 0 _ (by simp [wrap64]), blk_far h0z h012 _, hBz.trans (Below.setCell_ (Below.refl _ _) hw12 _)⟩
  case done =>
    rintro W6 ⟨h1, h2, h3⟩ hD
    rw [w_each] at h1
    have hDs := (Array.getElem?_eq_some_iff.1 hD).1
    have hD6 := Lib.hid hD
    clear hD hbs14 hb14 hb014
    have q12 : W6.cell? ⟨g12, 0, none⟩ = some (.int .i64 2) := Blk.cell h1 0
    go_wp2_with (first
    | (go_at_call 12; (with_reducible refine (word4_calls _).mono ?_); rintro e w17 ⟨rfl, hbel17⟩)
    | (go_at_call 14; (with_reducible refine (kindN_calls _).mono ?_); rintro e w18 ⟨rfl, hbel18⟩)
    | (go_at_call 14; (with_reducible refine (kindI_calls _).mono ?_); rintro e w19 ⟨rfl, hbel19⟩; have hB19 : Below W6.heap.size W6 w19 := below_step (below_step hbel17 hbel18) hbel19; have q12b : w19.cell? ⟨g12, 0, none⟩ = some (.int .i64 2) := Blk.cell (blk_below h1 hB19) 0)
    | (go_at_call 24; (with_reducible refine (wrong1_calls _).mono ?_); rintro e w21 ⟨rfl, hbel21⟩)
    | (go_at_call 24; (with_reducible refine (wrong2_calls _).mono ?_); rintro e w22 ⟨rfl, hbel22⟩)
    | (go_at_call 24; (with_reducible refine (wrong3_calls _).mono ?_); rintro e w23 ⟨rfl, hbel23⟩)
    | (go_at_call 24; (with_reducible refine (wrong4_calls _).mono ?_); rintro e w24 ⟨rfl, hbel24⟩)
    | (go_at_call 24; (with_reducible refine (wrong5_calls _).mono ?_); rintro e w25 ⟨rfl, hbel25⟩)
    | (go_at_call 24; (with_reducible refine (wrong6_calls _).mono ?_); rintro e w26 ⟨rfl, hbel26⟩)
    | (go_at_call 24; (with_reducible refine (wrong7_calls _).mono ?_); rintro e w27 ⟨rfl, hbel27⟩)
    | ((with_reducible refine gate_store (t := 4) (p := 0) rfl ?_); refine store_cell_event2 rfl rfl rfl rfl (blk_below h2 (below_step (below_step (below_step (below_step (below_step (below_step (below_step hB19 hbel21) hbel22) hbel23) hbel24) hbel25) hbel26) hbel27)) rfl (by kernel_rfl) rfl rfl ?_; intro w28 hb28 hgr28 hs28))
    have hB27 := below_step (below_step (below_step (below_step (below_step (below_step (below_step hB19 hbel21) hbel22) hbel23) hbel24) hbel25) hbel26) hbel27
    have hs27 := hB27.size
    have hs28' := hgr28.size
    refine leaves_marks (v := .bool true) [w14.heap.size] w28 (by simp) (fun d hd => by rw [List.mem_singleton] at hd; rw [hd, hgr28.block _ (by omega) (by simp; omega), hB27.block _ hDs]; exact hD6.out) (fun w' hw => ⟨works_results (hw.blk hb28 (by simp; omega)) rfl, rfl, ?_⟩)
    have hB28 : Below w.heap.size w w28 := (h3.trans (hB27.mono h3.size)).grown hgr28 (by omega) (by rintro k ⟨⟩; exact hge0)
    exact hB28.trans (hw.below (fun k hk h => by rw [List.mem_singleton] at h; omega) hB28.size)
end Go.Proofs.YtfnekpgbfdhnmaaDoor
