/- Lemmas. -/
import Derived.Test.YtjdnhbnpdbpgbaaR18YN
import Derived.Test.YtjdnhbnpdbpgbaaR18YO
namespace Go.Proofs.Ytjdnhbnpdbpgbaa
open Go.Lg
set_option linter.unusedVariables false
set_option maxRecDepth 100000
set_option maxHeartbeats 8000000
set_option linter.unusedSimpArgs false
theorem step_ok (R : HP) (H : HH) (p : Nat) (kind on at_ cls nn pa pb : Int) (b nil cc b3 nil3 cc3 : Bool) (lo : List EN.T) (so : List Int) (hs : On [R, allP p] H) (hn1 : -9223372036854775808 ≤ nn) (hn2 : nn ≤ 9223372036854775807) (hlo : (lo.length : Int) ≤ 5864062014805) (hso : (so.length : Int) ≤ 17592186043904) (hnn : okW so = true → nil3 = false) : ∃ rs H', Runs pg an 23 [.one (.ptr p 0), .agg [vi kind, vi on, vi at_, vi cls, vi nn, vi pa, vi pb, sv EN b nil cc lo, sv NI b3 nil3 cc3 so]] H rs H' ∧ rs = [.one (vb true)] ∧ On [R, allP p] H' := by
 refine rOF Try.func23 rfl ?_
 obtain ⟨n1, hn1⟩ := lX H
 refine rGz [(0, yp p), (3, yp n1)] (On.new' hn1 (.obj [vi kind, vi on, vi at_, vi cls, vi nn, vi pa, vi pb, sv EN b nil cc lo, sv NI b3 nil3 cc3 so]) hs) (zL 0 (qB 73 [vi kind, vi on, vi at_, vi cls, vi nn, vi pa, vi pb, sv EN b nil cc lo, sv NI b3 nil3 cc3 so] hn1)) fun H2 hs3 => ?_
 obtain ⟨d4, hd4, hd4a, hd4b⟩ : ∃ d, Int.tmod (IntKind.wrap .u64 on) 3 = d ∧ 0 ≤ d ∧ d < 3 := u_rem _ 3 (by decide)
 obtain ⟨d5, hd5, hd5a, hd5b⟩ : ∃ d, Int.tmod (IntKind.wrap .u64 at_) 3 = d ∧ 0 ≤ d ∧ d < 3 := u_rem _ 3 (by decide)
 refine rSz [(0, yp p), (3, yp n1), (5, xi d4), (6, xi d5)] H2 (zA 1 (qL 3 1 (.one (vi on)) (On.at hs3 2 rfl)) (zA 3 (Ja (vals := [.y (.one ((.sc (.int .u64 (IntKind.wrap .u64 on))))), .y (.one ((.sc (.int .u64 3))))]) (H := H2) (op := .binOp .rem 59 (.tmp 0) (.tmp 1) 59) (ty := 0) (r := .y (.one (.sc (.int .u64 (Int.tmod (IntKind.wrap .u64 on) 3))))) (v := .y (.one ((.sc (.int .u64 d4))))) (by kernel_rfl) (congrArg (fun z => X.y (.one (.sc (.int .u64 z)))) hd4)) (zA 4 (Ja (vals := [.y (.one ((.sc (.int .u64 d4))))]) (H := H2) (op := .convert 59 3 (.tmp 0)) (ty := 0) (r := xi (IntKind.wrap .i64 d4)) (v := xi d4) (by kernel_rfl) (congrArg (fun z => xi z) (wrap64 (by omega)))) (zA 6 (qL 3 2 (.one (vi at_)) (On.at hs3 2 rfl)) (zA 8 (Ja (vals := [.y (.one ((.sc (.int .u64 (IntKind.wrap .u64 at_))))), .y (.one ((.sc (.int .u64 3))))]) (H := H2) (op := .binOp .rem 59 (.tmp 0) (.tmp 1) 59) (ty := 0) (r := .y (.one (.sc (.int .u64 (Int.tmod (IntKind.wrap .u64 at_) 3))))) (v := .y (.one ((.sc (.int .u64 d5))))) (by kernel_rfl) (congrArg (fun z => X.y (.one (.sc (.int .u64 z)))) hd5)) (zL 9 (Ja (vals := [.y (.one ((.sc (.int .u64 d5))))]) (H := H2) (op := .convert 59 3 (.tmp 0)) (ty := 0) (r := xi (IntKind.wrap .i64 d5)) (v := xi d5) (by kernel_rfl) (congrArg (fun z => xi z) (wrap64 (by omega)))))))))) ?_
 refine wS ?_
 refine rSz [(0, yp p), (3, yp n1), (5, xi d4), (6, xi d5), (25, xi kind)] H2 (zL 1 (qL 3 0 (.one (vi kind)) (On.at hs3 2 rfl))) ?_
 refine wB ?_
 rcases Decidable.em (kind = 1) with rfl | hk1
 ·
  refine rs0 [(0, yp p), (3, yp n1), (5, xi d4), (6, xi d5), (25, xi 1), (26, xb true)] ?_
  refine wTa ?_
  obtain ⟨_, H17, hr18, ⟨hz12, rfl, hs19⟩ | ⟨hz12, hz13, rfl, hs19⟩ | ⟨hz12, hz13, hz14, rfl, hs19⟩ | ⟨hz12, hz13, hz14, hz15, rfl, hs19⟩ | ⟨hz12, hz13, hz14, hz15, c7, k8, q9, q10, q11, rfl, hs19⟩⟩ := load_s _ (H2 : HH) (On.call [] [0, 1, 2] (by kernel_rfl) hs3) (b := b3) (nn9 := nil3) (cp := cc3) (S := so) (hand := 0) (aa0 := false) (nn0 := true) (pp0 := true) (l0 := ([] : List EN.T)) (aa1 := false) (nn1 := true) (pp1 := true) (l1 := ([] : List EN.T)) (aa2 := false) (nn2 := true) (pp2 := true) (l2 := ([] : List EN.T)) (hzl0 := by first | rfl | omega | (simp only [ek_]; omega) | (simp; done) | (simp; omega)) (hzl1 := by first | rfl | omega | (simp only [ek_]; omega) | (simp; done) | (simp; omega)) (hzl2 := by first | rfl | omega | (simp only [ek_]; omega) | (simp; done) | (simp; omega)) (by omega) hnn
  ·
   have hs20 : On [R, allP p, pts n1 (.obj [vi 1, vi on, vi at_, vi cls, vi nn, vi pa, vi pb, sv EN b nil cc lo, sv NI b3 nil3 cc3 so])] H17 := On.flat hs19
   have hcall21 : Runs pg an 18 [.one (sv NI b3 nil3 cc3 so)] H2 [.one (.sc (.pointer none)), .one (vi 20)] H17 := by
    refine runs_of ?_
    refine rOF Try.func18 rfl ?_
    refine rs0 [(0, .y (.one (sv NI b3 nil3 cc3 so)))] ?_
    refine rSz [(2, .y (.one (.sc (.pointer none)))), (3, xi 20)] H17 (zL 2 (qC3 hr18)) ?_
    refine wE ?_
    exact ⟨Or.inr rfl, [.one (.sc (.pointer none)), .one (vi 20)], (by kernel_rfl), ⟨rfl, rfl⟩⟩
   refine rGz [(0, yp p), (3, yp n1), (5, xi d4), (7, .y (.one (.sc (.pointer none)))), (8, xi 20)] hs20 (zA 1 (qL 22 8 (.one (sv NI b3 nil3 cc3 so)) (On.at hs3 2 rfl)) (zL 2 (qC1 hcall21))) fun H22 hs23 => ?_
   obtain ⟨n24, hn24⟩ := lX H22
   refine rGz [(0, yp p), (5, xi d4), (7, .y (.one (.sc (.pointer none)))), (8, xi 20), (9, yp n24), (10, xi 20)] (On.pick [0, 1, 3] [2] (by kernel_rfl) (On.put (.obj [nilC, vi 0, nilC, nilC, nilC]) (On.new' hn24 (.obj [nilC, vi 0, nilC, nilC, nilC]) hs23) 3 rfl)) (zA 1 (qL 22 8 (.one (sv NI b3 nil3 cc3 so)) (On.at hs23 2 rfl)) (zA 2 (qP1 H22 (rnew_bad b3 nil3 cc3 so (by first | rfl | omega | (simp only [ek_]; omega) | (simp; done) | (simp; omega)) hz12)) (zA 6 (qO 31 [nilC, vi 0, nilC, nilC, nilC] hn24) (zL 7 (qS 31 0 (.agg [nilC, vi 0, nilC, nilC, nilC]) (On.at (On.new' hn24 (.obj [nilC, vi 0, nilC, nilC, nilC]) hs23) 3 rfl)))))) fun H25 hs26 => ?_
   obtain ⟨cl, hl, hsA⟩ := play_half hs26 1 rfl
   replace hsA : On [R, pts n24 (.obj [nilC, vi 0, nilC, nilC, nilC]), pts p (.obj cl), slotsM cl] H25 := hsA
   have hl27 : (splice (0 + d4.toNat * 1) [.sc (.pointer none)] cl).length = 21 := (len_sp (show 0 + d4.toNat * 1 + 1 ≤ _ by omega)).trans hl
   refine rGz [(0, yp p), (5, xi d4), (7, .y (.one (.sc (.pointer none)))), (8, xi 20), (9, yp n24), (10, xi 20)] (On.put (.obj (splice (0 + d4.toNat * 1) [.sc (.pointer none)] cl)) hsA 2 rfl) (zA 5 (ob_index_sym (P := pg) (A := an) (H := H25) (t := 66) (el := 26) (ty := 0) (p := p) (off := 0) (sz := 1) (n := 3) (i := d4) Try.underlying66 (by kernel_rfl) (by omega) (by omega)) (zL 6 (ob_store_at (P := pg) (A := an) (H := H25) (t := 26) (ty := 0) (id := p) (base := 0 + d4.toNat * 1) (cs := cl) (v := .one (.sc (.pointer none))) (On.at hsA 2 rfl) (by kernel_rfl) (by kernel_rfl) (show 0 + d4.toNat * 1 + 1 ≤ _ by omega)))) fun H28 hs29 => ?_
   have hl30 : (splice (3 + d4.toNat * 5) [nilC, vi 0, nilC, nilC, nilC] (splice (0 + d4.toNat * 1) [.sc (.pointer none)] cl)).length = 21 := (len_sp (show 3 + d4.toNat * 5 + 5 ≤ _ by omega)).trans hl27
   refine rGz [(0, yp p), (5, xi d4), (7, .y (.one (.sc (.pointer none)))), (8, xi 20), (10, xi 20)] (On.pick [0, 2, 3] [1] (by kernel_rfl) (On.put (.obj (splice (3 + d4.toNat * 5) [nilC, vi 0, nilC, nilC, nilC] (splice (0 + d4.toNat * 1) [.sc (.pointer none)] cl))) hs29 2 rfl)) (zA 2 (qA 31 (On.at hs29 1 rfl)) (zA 5 (ob_index_sym (P := pg) (A := an) (H := H28) (t := 67) (el := 31) (ty := 0) (p := p) (off := 3) (sz := 5) (n := 3) (i := d4) Try.underlying67 (by kernel_rfl) (by omega) (by omega)) (zL 6 (ob_store_at (P := pg) (A := an) (H := H28) (t := 31) (ty := 0) (id := p) (base := 3 + d4.toNat * 5) (cs := (splice (0 + d4.toNat * 1) [.sc (.pointer none)] cl)) (v := .agg [nilC, vi 0, nilC, nilC, nilC]) (On.at hs29 2 rfl) (by kernel_rfl) (by kernel_rfl) (show 3 + d4.toNat * 5 + 5 ≤ _ by omega))))) fun H31 hs32 => ?_
   have hl33 : (splice (18 + d4.toNat * 1) [vb false] (splice (3 + d4.toNat * 5) [nilC, vi 0, nilC, nilC, nilC] (splice (0 + d4.toNat * 1) [.sc (.pointer none)] cl))).length = 21 := (len_sp (show 18 + d4.toNat * 1 + 1 ≤ _ by omega)).trans hl30
   refine rGz [(7, .y (.one (.sc (.pointer none)))), (8, xi 20), (10, xi 20)] (On.put (.obj (splice (18 + d4.toNat * 1) [vb false] (splice (3 + d4.toNat * 5) [nilC, vi 0, nilC, nilC, nilC] (splice (0 + d4.toNat * 1) [.sc (.pointer none)] cl)))) hs32 1 rfl) (zA 6 (ob_index_sym (P := pg) (A := an) (H := H31) (t := 68) (el := 4) (ty := 0) (p := p) (off := 18) (sz := 1) (n := 3) (i := d4) Try.underlying68 (by kernel_rfl) (by omega) (by omega)) (zL 7 (ob_store_at (P := pg) (A := an) (H := H31) (t := 4) (ty := 0) (id := p) (base := 18 + d4.toNat * 1) (cs := (splice (3 + d4.toNat * 5) [nilC, vi 0, nilC, nilC, nilC] (splice (0 + d4.toNat * 1) [.sc (.pointer none)] cl))) (v := .one (vb false)) (On.at hs32 1 rfl) (by kernel_rfl) (by kernel_rfl) (show 18 + d4.toNat * 1 + 1 ≤ _ by omega)))) fun H34 hs35 => ?_
   refine rs0 [(4, xb true)] ?_
   refine wE ?_
   refine ⟨Or.inr rfl, [.one (vb true)], (by kernel_rfl), ?_⟩
   have hs36 : On [R, allP p] H34 := sH hs35 [1, 2] [0] (fun _ x => all_nil (k := d4.toNat) hl (by omega) x)
   exact ⟨rfl, (On.pick [0, 1] [] (by kernel_rfl) hs36)⟩
  ·
   exact (hz13 List.nodup_nil).elim
  ·
   exfalso; have := okW_len hz12; omega
  ·
   exfalso; simp at hz15
  have hs37 : On [R, allP p, pts n1 (.obj [vi 1, vi on, vi at_, vi cls, vi nn, vi pa, vi pb, sv EN b nil cc lo, sv NI b3 nil3 cc3 so]), pts c7 (.obj (cO k8 so 0 q9 q10 q11)), kP k8 so, gP q9 ([] : List EN.T), gP q10 ([] : List EN.T), gP q11 ([] : List EN.T)] H17 := On.flat hs19
  have hk16 := okW_len hz12
  have hcall38 : Runs pg an 18 [.one (sv NI b3 nil3 cc3 so)] H2 [.one (.ptr c7 0), .one (vi 0)] H17 := by
   refine runs_of ?_
   refine rOF Try.func18 rfl ?_
   refine rs0 [(0, .y (.one (sv NI b3 nil3 cc3 so)))] ?_
   refine rSz [(2, yp c7), (3, xi 0)] H17 (zL 2 (qC3 hr18)) ?_
   refine wE ?_
   exact ⟨Or.inr rfl, [.one (.ptr c7 0), .one (vi 0)], (by kernel_rfl), ⟨rfl, rfl⟩⟩
  refine rGz [(0, yp p), (3, yp n1), (5, xi d4), (7, yp c7), (8, xi 0)] hs37 (zA 1 (qL 22 8 (.one (sv NI b3 nil3 cc3 so)) (On.at hs3 2 rfl)) (zL 2 (qC1 hcall38))) fun H39 hs40 => ?_
  have hk41 := okW_len hz12
  obtain ⟨cp43, hp44⟩ := rnew_ok b3 nil3 cc3 so (by first | rfl | omega | (simp only [ek_]; omega) | (simp; done) | (simp; omega)) hz12 (by omega) (by omega)
  obtain ⟨n46, hn46⟩ := lX H39
  refine rGz [(0, yp p), (5, xi d4), (7, yp c7), (8, xi 0), (9, yp n46), (10, xi 0)] (On.pick [0, 1, 3, 4, 5, 6, 7, 8] [2] (by kernel_rfl) (On.put (.obj [sv NI false false cp43 so, vi 0, nilC, nilC, nilC]) (On.new' hn46 (.obj [nilC, vi 0, nilC, nilC, nilC]) hs40) 8 rfl)) (zA 1 (qL 22 8 (.one (sv NI b3 nil3 cc3 so)) (On.at hs40 2 rfl)) (zA 2 (qP1 H39 hp44) (zA 6 (qO 31 [nilC, vi 0, nilC, nilC, nilC] hn46) (zL 7 (qS 31 0 (.agg [sv NI false false cp43 so, vi 0, nilC, nilC, nilC]) (On.at (On.new' hn46 (.obj [nilC, vi 0, nilC, nilC, nilC]) hs40) 8 rfl)))))) fun H48 hs49 => ?_
  obtain ⟨cl, hl, hsA⟩ := play_half hs49 1 rfl
  replace hsA : On [R, pts c7 (.obj (cO k8 so 0 q9 q10 q11)), kP k8 so, gP q9 ([] : List EN.T), gP q10 ([] : List EN.T), gP q11 ([] : List EN.T), pts n46 (.obj [sv NI false false cp43 so, vi 0, nilC, nilC, nilC]), pts p (.obj cl), slotsM cl] H48 := hsA
  have hl50 : (splice (0 + d4.toNat * 1) [.ptr c7 0] cl).length = 21 := (len_sp (show 0 + d4.toNat * 1 + 1 ≤ _ by omega)).trans hl
  refine rGz [(0, yp p), (5, xi d4), (7, yp c7), (8, xi 0), (9, yp n46), (10, xi 0)] (On.put (.obj (splice (0 + d4.toNat * 1) [.ptr c7 0] cl)) hsA 7 rfl) (zA 5 (ob_index_sym (P := pg) (A := an) (H := H48) (t := 66) (el := 26) (ty := 0) (p := p) (off := 0) (sz := 1) (n := 3) (i := d4) Try.underlying66 (by kernel_rfl) (by omega) (by omega)) (zL 6 (ob_store_at (P := pg) (A := an) (H := H48) (t := 26) (ty := 0) (id := p) (base := 0 + d4.toNat * 1) (cs := cl) (v := .one (.ptr c7 0)) (On.at hsA 7 rfl) (by kernel_rfl) (by kernel_rfl) (show 0 + d4.toNat * 1 + 1 ≤ _ by omega)))) fun H51 hs52 => ?_
  have hl53 : (splice (3 + d4.toNat * 5) [sv NI false false cp43 so, vi 0, nilC, nilC, nilC] (splice (0 + d4.toNat * 1) [.ptr c7 0] cl)).length = 21 := (len_sp (show 3 + d4.toNat * 5 + 5 ≤ _ by omega)).trans hl50
  refine rGz [(0, yp p), (5, xi d4), (7, yp c7), (8, xi 0), (10, xi 0)] (On.pick [0, 1, 2, 3, 4, 5, 7, 8] [6] (by kernel_rfl) (On.put (.obj (splice (3 + d4.toNat * 5) [sv NI false false cp43 so, vi 0, nilC, nilC, nilC] (splice (0 + d4.toNat * 1) [.ptr c7 0] cl))) hs52 7 rfl)) (zA 2 (qA 31 (On.at hs52 6 rfl)) (zA 5 (ob_index_sym (P := pg) (A := an) (H := H51) (t := 67) (el := 31) (ty := 0) (p := p) (off := 3) (sz := 5) (n := 3) (i := d4) Try.underlying67 (by kernel_rfl) (by omega) (by omega)) (zL 6 (ob_store_at (P := pg) (A := an) (H := H51) (t := 31) (ty := 0) (id := p) (base := 3 + d4.toNat * 5) (cs := (splice (0 + d4.toNat * 1) [.ptr c7 0] cl)) (v := .agg [sv NI false false cp43 so, vi 0, nilC, nilC, nilC]) (On.at hs52 7 rfl) (by kernel_rfl) (by kernel_rfl) (show 3 + d4.toNat * 5 + 5 ≤ _ by omega))))) fun H54 hs55 => ?_
  have hl56 : (splice (18 + d4.toNat * 1) [vb true] (splice (3 + d4.toNat * 5) [sv NI false false cp43 so, vi 0, nilC, nilC, nilC] (splice (0 + d4.toNat * 1) [.ptr c7 0] cl))).length = 21 := (len_sp (show 18 + d4.toNat * 1 + 1 ≤ _ by omega)).trans hl53
  refine rGz [(7, yp c7), (8, xi 0), (10, xi 0)] (On.put (.obj (splice (18 + d4.toNat * 1) [vb true] (splice (3 + d4.toNat * 5) [sv NI false false cp43 so, vi 0, nilC, nilC, nilC] (splice (0 + d4.toNat * 1) [.ptr c7 0] cl)))) hs55 6 rfl) (zA 6 (ob_index_sym (P := pg) (A := an) (H := H54) (t := 68) (el := 4) (ty := 0) (p := p) (off := 18) (sz := 1) (n := 3) (i := d4) Try.underlying68 (by kernel_rfl) (by omega) (by omega)) (zL 7 (ob_store_at (P := pg) (A := an) (H := H54) (t := 4) (ty := 0) (id := p) (base := 18 + d4.toNat * 1) (cs := (splice (3 + d4.toNat * 5) [sv NI false false cp43 so, vi 0, nilC, nilC, nilC] (splice (0 + d4.toNat * 1) [.ptr c7 0] cl))) (v := .one (vb true)) (On.at hs55 6 rfl) (by kernel_rfl) (by kernel_rfl) (show 18 + d4.toNat * 1 + 1 ≤ _ by omega)))) fun H57 hs58 => ?_
  refine rs0 [(4, xb true)] ?_
  refine wE ?_
  refine ⟨Or.inr rfl, [.one (vb true)], (by kernel_rfl), ?_⟩
  have hs59 : On [R, allP p] H57 := sH hs58 [6, 7, 1, 2, 3, 4, 5] [0] (fun _ x => all_core (k := d4.toNat) hl (by omega) (⟨hz12, ⟨by omega, by omega⟩, ⟨by simp, by simp, by simp⟩, List.nodup_nil⟩ : CoreOk so 0 [] [] []) x)
  exact ⟨rfl, (On.pick [0, 1] [] (by kernel_rfl) hs59)⟩
 refine rSz [(0, yp p), (3, yp n1), (5, xi d4), (6, xi d5), (25, xi kind), (26, xb false)] H2 (zL 0 (Ja (vals := [xi kind, xi 1]) (H := H2) (op := .binOp .eql 3 (.tmp 0) (.tmp 1) 3) (ty := 0) (r := xb (decide ((kind : Int) = 1))) (v := xb false) (by kernel_rfl) (congrArg (fun z => xb z) (decide_eq_false hk1)))) ?_
 refine wFa ?_
 refine Wp.meet 1 (T := HH × Bool) (fun t => match t with | (H60, tb) => ([(0, yp p), (3, yp n1), (5, xi d4), (6, xi d5), (25, xi kind), (69, xb tb)] : Env)) (fun t => match t with | (H60, tb) => (H60 : HH)) (fun t => match t with | (H60, tb) => (On [R, allP p, pts n1 (.obj [vi kind, vi on, vi at_, vi cls, vi nn, vi pa, vi pb, sv EN b nil cc lo, sv NI b3 nil3 cc3 so])] H60 ∧ (tb = true → (kind = 2 ∨ kind = 3 ∨ kind = 4 ∨ kind = 5 ∨ kind = 6 ∨ kind = 10)) ∧ (tb = false → (kind ≠ 2 ∧ kind ≠ 3)) : Prop)) ?_ ?_
 ·
  rintro ⟨H60, tb⟩ ⟨hs61, hkt1, hkt2⟩
  show Wp _ _ _ _ [(0, yp p), (3, yp n1), (5, xi d4), (6, xi d5), (25, xi kind), (69, xb tb)] H60 _
  rcases Bool.eq_false_or_eq_true tb with rfl | rfl
  ·
   refine wTa ?_
   obtain ⟨_, H63, hr64, rfl, hs65⟩ := one_ok _ (H60 : HH) (On.call [1] [0, 2] (by kernel_rfl) hs61) (p := p) (i := d4) (kind := kind) (on := on) (at_ := at_) (cls := cls) (nn := nn) (pa := pa) (pb := pb) (b := b) (nil := nil) (cc := cc) (b3 := b3) (nil3 := nil3) (cc3 := cc3) (lo := lo) (so := so) (by omega) (by omega) (hkt1 rfl) (by omega) (by omega) (by omega)
   have hs65 : On [R, pts n1 (.obj [vi kind, vi on, vi at_, vi cls, vi nn, vi pa, vi pb, sv EN b nil cc lo, sv NI b3 nil3 cc3 so]), allP p] H63 := On.flat hs65
   refine rGz [(4, xb true)] hs65 (zA 2 (qA 73 (On.at hs61 2 rfl)) (zL 3 (qC3 hr64))) fun H66 hs67 => ?_
   refine wE ?_
   refine ⟨Or.inr rfl, [.one (vb true)], (by kernel_rfl), ?_⟩
   exact ⟨rfl, (On.pick [0, 2] [1] (by kernel_rfl) hs67)⟩
  refine wFa ?_
  by_cases c68 : (kind : Int) = 7
  ·
   refine rSz [(0, yp p), (5, xi d4), (6, xi d5), (25, xi kind), (80, xb true)] H60 (zL 0 (Ja (vals := [xi kind, xi 7]) (H := H60) (op := .binOp .eql 3 (.tmp 0) (.tmp 1) 3) (ty := 0) (r := xb ((kind : Int) == 7)) (v := xb true) (by kernel_rfl) (congrArg (fun z => xb z) (beq_t (by omega))))) ?_
   refine wTa ?_
   obtain ⟨_, H69, hr70, rfl, hs71⟩ := told_ok _ (H60 : HH) (On.call [1] [0, 2] (by kernel_rfl) hs61) (p := p) (i := d4) (by omega) (by omega)
   have hs71 : On [R, pts n1 (.obj [vi kind, vi on, vi at_, vi cls, vi nn, vi pa, vi pb, sv EN b nil cc lo, sv NI b3 nil3 cc3 so]), allP p] H69 := On.flat hs71
   refine rGz [(4, xb true)] hs71 (zL 2 (qC2 hr70)) fun H72 hs73 => ?_
   refine wE ?_
   refine ⟨Or.inr rfl, [.one (vb true)], (by kernel_rfl), ?_⟩
   exact ⟨rfl, (On.pick [0, 2] [1] (by kernel_rfl) hs73)⟩
  refine rSz [(0, yp p), (5, xi d4), (6, xi d5), (25, xi kind), (80, xb false)] H60 (zL 0 (Ja (vals := [xi kind, xi 7]) (H := H60) (op := .binOp .eql 3 (.tmp 0) (.tmp 1) 3) (ty := 0) (r := xb ((kind : Int) == 7)) (v := xb false) (by kernel_rfl) (congrArg (fun z => xb z) (beq_f (by omega))))) ?_
  refine wFa ?_
  by_cases c74 : (kind : Int) = 8
  ·
   refine rSz [(0, yp p), (5, xi d4), (6, xi d5), (25, xi kind), (85, xb true)] H60 (zL 0 (Ja (vals := [xi kind, xi 8]) (H := H60) (op := .binOp .eql 3 (.tmp 0) (.tmp 1) 3) (ty := 0) (r := xb ((kind : Int) == 8)) (v := xb true) (by kernel_rfl) (congrArg (fun z => xb z) (beq_t (by omega))))) ?_
   refine wTa ?_
   rcases play_open hs61 1 rfl (i := d4) (by omega) (by omega) with ⟨cl, hl, ha, hb, hc, hsA⟩ | ⟨cl, c, ks, q0, q1, q2, rc, u0, v0, u1, v1, u2, v2, S, hand, l0, l1, l2, hl, ha, hb, hc, hck, hsA⟩
   ·
    replace hsA : On [R, pts n1 (.obj [vi kind, vi on, vi at_, vi cls, vi nn, vi pa, vi pb, sv EN b nil cc lo, sv NI b3 nil3 cc3 so]), pts p (.obj cl), restM cl d4.toNat] H60 := hsA
    obtain ⟨_, H75, hr76, rfl, hs77⟩ := copy_nil _ (H60 : HH) (On.call [] [0, 1, 2, 3] (by kernel_rfl) hsA)
    have hs77 : On [R, pts n1 (.obj [vi kind, vi on, vi at_, vi cls, vi nn, vi pa, vi pb, sv EN b nil cc lo, sv NI b3 nil3 cc3 so]), pts p (.obj cl), restM cl d4.toNat] H75 := On.flat hs77
    refine rGz [(0, yp p), (5, xi d4), (6, xi d5), (11, .y (.one (.sc (.pointer none))))] hs77 (zA 4 (ob_index_sym (P := pg) (A := an) (H := H60) (t := 66) (el := 26) (ty := 0) (p := p) (off := 0) (sz := 1) (n := 3) (i := d4) Try.underlying66 (by kernel_rfl) (by omega) (by omega)) (zA 5 (ob_load_at (P := pg) (A := an) (H := H60) (t := 26) (ty := 0) (id := p) (base := 0 + d4.toNat * 1) (off := 0) (m := 1) (n := 1) (cs := cl) (ws := [.sc (.pointer none)]) (v := .one (.sc (.pointer none))) (On.at hsA 2 rfl) ha (by omega) (by kernel_rfl) (by kernel_rfl) (by kernel_rfl)) (zL 6 (qC1 hr76)))) fun H78 hs79 => ?_
    have hl80 : (splice (0 + d5.toNat * 1) [.sc (.pointer none)] cl).length = 21 := (len_sp (show 0 + d5.toNat * 1 + 1 ≤ _ by omega)).trans hl
    refine rGz [(0, yp p), (5, xi d4), (6, xi d5), (11, .y (.one (.sc (.pointer none))))] (On.put (.obj (splice (0 + d5.toNat * 1) [.sc (.pointer none)] cl)) hs79 2 rfl) (zA 5 (ob_index_sym (P := pg) (A := an) (H := H78) (t := 66) (el := 26) (ty := 0) (p := p) (off := 0) (sz := 1) (n := 3) (i := d5) Try.underlying66 (by kernel_rfl) (by omega) (by omega)) (zL 6 (ob_store_at (P := pg) (A := an) (H := H78) (t := 26) (ty := 0) (id := p) (base := 0 + d5.toNat * 1) (cs := cl) (v := .one (.sc (.pointer none))) (On.at hs79 2 rfl) (by kernel_rfl) (by kernel_rfl) (show 0 + d5.toNat * 1 + 1 ≤ _ by omega)))) fun H81 hs82 => ?_
    have hb83 : sub (3 + d4.toNat * 5) 5 (splice (0 + d5.toNat * 1) [.sc (.pointer none)] cl) = [nilC, vi 0, nilC, nilC, nilC] := sub_sp hb (show 0 + d5.toNat * 1 + 1 ≤ _ by omega) (show 0 + d5.toNat * 1 + 1 ≤ _ ∨ _ by omega)
    have hl84 : (splice (3 + d5.toNat * 5) [nilC, vi 0, nilC, nilC, nilC] (splice (0 + d5.toNat * 1) [.sc (.pointer none)] cl)).length = 21 := (len_sp (show 3 + d5.toNat * 5 + 5 ≤ _ by omega)).trans hl80
    refine rGz [(0, yp p), (5, xi d4), (6, xi d5), (11, .y (.one (.sc (.pointer none))))] (On.put (.obj (splice (3 + d5.toNat * 5) [nilC, vi 0, nilC, nilC, nilC] (splice (0 + d5.toNat * 1) [.sc (.pointer none)] cl))) hs82 2 rfl) (zA 6 (ob_index_sym (P := pg) (A := an) (H := H81) (t := 67) (el := 31) (ty := 0) (p := p) (off := 3) (sz := 5) (n := 3) (i := d4) Try.underlying67 (by kernel_rfl) (by omega) (by omega)) (zA 7 (ob_load_at (P := pg) (A := an) (H := H81) (t := 31) (ty := 0) (id := p) (base := 3 + d4.toNat * 5) (off := 0) (m := 5) (n := 5) (cs := (splice (0 + d5.toNat * 1) [.sc (.pointer none)] cl)) (ws := [nilC, vi 0, nilC, nilC, nilC]) (v := .agg [nilC, vi 0, nilC, nilC, nilC]) (On.at hs82 2 rfl) hb83 (by omega) (by kernel_rfl) (by kernel_rfl) (by kernel_rfl)) (zA 10 (ob_index_sym (P := pg) (A := an) (H := H81) (t := 67) (el := 31) (ty := 0) (p := p) (off := 3) (sz := 5) (n := 3) (i := d5) Try.underlying67 (by kernel_rfl) (by omega) (by omega)) (zL 11 (ob_store_at (P := pg) (A := an) (H := H81) (t := 31) (ty := 0) (id := p) (base := 3 + d5.toNat * 5) (cs := (splice (0 + d5.toNat * 1) [.sc (.pointer none)] cl)) (v := .agg [nilC, vi 0, nilC, nilC, nilC]) (On.at hs82 2 rfl) (by kernel_rfl) (by kernel_rfl) (show 3 + d5.toNat * 5 + 5 ≤ _ by omega)))))) fun H85 hs86 => ?_
    have hb87 : sub (18 + d4.toNat * 1) 1 (splice (0 + d5.toNat * 1) [.sc (.pointer none)] cl) = [vb false] := sub_sp hc (show 0 + d5.toNat * 1 + 1 ≤ _ by omega) (show 0 + d5.toNat * 1 + 1 ≤ _ ∨ _ by omega)
    have hb88 : sub (18 + d4.toNat * 1) 1 (splice (3 + d5.toNat * 5) [nilC, vi 0, nilC, nilC, nilC] (splice (0 + d5.toNat * 1) [.sc (.pointer none)] cl)) = [vb false] := sub_sp hb87 (show 3 + d5.toNat * 5 + 5 ≤ _ by omega) (show 3 + d5.toNat * 5 + 5 ≤ _ ∨ _ by omega)
    have hl89 : (splice (18 + d5.toNat * 1) [vb false] (splice (3 + d5.toNat * 5) [nilC, vi 0, nilC, nilC, nilC] (splice (0 + d5.toNat * 1) [.sc (.pointer none)] cl))).length = 21 := (len_sp (show 18 + d5.toNat * 1 + 1 ≤ _ by omega)).trans hl84
    refine rGz [(0, yp p), (5, xi d4), (11, .y (.one (.sc (.pointer none))))] (On.put (.obj (splice (18 + d5.toNat * 1) [vb false] (splice (3 + d5.toNat * 5) [nilC, vi 0, nilC, nilC, nilC] (splice (0 + d5.toNat * 1) [.sc (.pointer none)] cl)))) hs86 2 rfl) (zA 6 (ob_index_sym (P := pg) (A := an) (H := H85) (t := 68) (el := 4) (ty := 0) (p := p) (off := 18) (sz := 1) (n := 3) (i := d4) Try.underlying68 (by kernel_rfl) (by omega) (by omega)) (zA 7 (ob_load_at (P := pg) (A := an) (H := H85) (t := 4) (ty := 0) (id := p) (base := 18 + d4.toNat * 1) (off := 0) (m := 1) (n := 1) (cs := (splice (3 + d5.toNat * 5) [nilC, vi 0, nilC, nilC, nilC] (splice (0 + d5.toNat * 1) [.sc (.pointer none)] cl))) (ws := [vb false]) (v := .one (vb false)) (On.at hs86 2 rfl) hb88 (by omega) (by kernel_rfl) (by kernel_rfl) (by kernel_rfl)) (zA 10 (ob_index_sym (P := pg) (A := an) (H := H85) (t := 68) (el := 4) (ty := 0) (p := p) (off := 18) (sz := 1) (n := 3) (i := d5) Try.underlying68 (by kernel_rfl) (by omega) (by omega)) (zL 11 (ob_store_at (P := pg) (A := an) (H := H85) (t := 4) (ty := 0) (id := p) (base := 18 + d5.toNat * 1) (cs := (splice (3 + d5.toNat * 5) [nilC, vi 0, nilC, nilC, nilC] (splice (0 + d5.toNat * 1) [.sc (.pointer none)] cl))) (v := .one (vb false)) (On.at hs86 2 rfl) (by kernel_rfl) (by kernel_rfl) (show 18 + d5.toNat * 1 + 1 ≤ _ by omega)))))) fun H90 hs91 => ?_
    have hb92 : sub (18 + d4.toNat * 1) 1 (splice (18 + d5.toNat * 1) [vb false] (splice (3 + d5.toNat * 5) [nilC, vi 0, nilC, nilC, nilC] (splice (0 + d5.toNat * 1) [.sc (.pointer none)] cl))) = [vb false] := sub_sp1 (by omega) hb88
    refine rSz [(4, xb true)] H90 (zA 6 (ob_index_sym (P := pg) (A := an) (H := H90) (t := 68) (el := 4) (ty := 0) (p := p) (off := 18) (sz := 1) (n := 3) (i := d4) Try.underlying68 (by kernel_rfl) (by omega) (by omega)) (zL 7 (ob_load_at (P := pg) (A := an) (H := H90) (t := 4) (ty := 0) (id := p) (base := 18 + d4.toNat * 1) (off := 0) (m := 1) (n := 1) (cs := (splice (18 + d5.toNat * 1) [vb false] (splice (3 + d5.toNat * 5) [nilC, vi 0, nilC, nilC, nilC] (splice (0 + d5.toNat * 1) [.sc (.pointer none)] cl)))) (ws := [vb false]) (v := .one (vb false)) (On.at hs91 2 rfl) hb92 (by omega) (by kernel_rfl) (by kernel_rfl) (by kernel_rfl)))) ?_
    refine wE ?_
    refine ⟨Or.inr rfl, [.one (vb true)], (by kernel_rfl), ?_⟩
    have hs93 : On [R, pts n1 (.obj [vi kind, vi on, vi at_, vi cls, vi nn, vi pa, vi pb, sv EN b nil cc lo, sv NI b3 nil3 cc3 so]), pts p (.obj (splice (18 + d5.toNat * 1) [vb false] (splice (3 + d5.toNat * 5) [nilC, vi 0, nilC, nilC, nilC] (splice (0 + d5.toNat * 1) [.sc (.pointer none)] cl)))), slotsM cl] H90 := sH hs91 [3] [0, 1, 2] (fun _ x => slots_nil (by omega) (by omega) ha hb hc x)
    have hs94 : On [R, pts n1 (.obj [vi kind, vi on, vi at_, vi cls, vi nn, vi pa, vi pb, sv EN b nil cc lo, sv NI b3 nil3 cc3 so]), allP p] H90 := sH hs93 [2, 3] [0, 1] (fun _ x => all_nil (k := d5.toNat) hl (by omega) x)
    exact ⟨rfl, (On.pick [0, 2] [1] (by kernel_rfl) hs94)⟩
   replace hsA : On [R, pts n1 (.obj [vi kind, vi on, vi at_, vi cls, vi nn, vi pa, vi pb, sv EN b nil cc lo, sv NI b3 nil3 cc3 so]), pts p (.obj cl), restM cl d4.toNat, pts c (.obj (cO ks S hand q0 q1 q2)), kP ks S, gP q0 l0, gP q1 l1, gP q2 l2] H60 := hsA
   obtain ⟨hok, ⟨hh0, hh1⟩, ⟨b0, b1, b2⟩, hld⟩ := id hck
   obtain ⟨hS, hT⟩ := okW_len hok
   obtain ⟨_, H100, hr101, c95, k96, q97, q98, q99, rfl, hs102⟩ := copy_all _ (H60 : HH) (On.call [4, 5, 6, 7, 8] [0, 1, 2, 3] (by kernel_rfl) hsA) (c := c) (ks := ks) (q0 := q0) (q1 := q1) (q2 := q2) (S := S) (hand := hand) (l0 := l0) (l1 := l1) (l2 := l2) (by omega) (by omega) (by first | rfl | omega | (simp only [ek_]; omega) | (simp; done) | (simp; omega)) (by first | rfl | omega | (simp only [ek_]; omega) | (simp; done) | (simp; omega)) (by first | rfl | omega | (simp only [ek_]; omega) | (simp; done) | (simp; omega))
   have hs102 : On [R, pts n1 (.obj [vi kind, vi on, vi at_, vi cls, vi nn, vi pa, vi pb, sv EN b nil cc lo, sv NI b3 nil3 cc3 so]), pts p (.obj cl), restM cl d4.toNat, pts c (.obj (cO ks S hand q0 q1 q2)), kP ks S, gP q0 l0, gP q1 l1, gP q2 l2, pts c95 (.obj (cO k96 S hand q97 q98 q99)), kP k96 S, gP q97 l0, gP q98 l1, gP q99 l2] H100 := On.flat hs102
   refine rGz [(0, yp p), (5, xi d4), (6, xi d5), (11, yp c95)] hs102 (zA 4 (ob_index_sym (P := pg) (A := an) (H := H60) (t := 66) (el := 26) (ty := 0) (p := p) (off := 0) (sz := 1) (n := 3) (i := d4) Try.underlying66 (by kernel_rfl) (by omega) (by omega)) (zA 5 (ob_load_at (P := pg) (A := an) (H := H60) (t := 26) (ty := 0) (id := p) (base := 0 + d4.toNat * 1) (off := 0) (m := 1) (n := 1) (cs := cl) (ws := [.ptr c 0]) (v := .one (.ptr c 0)) (On.at hsA 2 rfl) ha (by omega) (by kernel_rfl) (by kernel_rfl) (by kernel_rfl)) (zL 6 (qC1 hr101)))) fun H103 hs104 => ?_
   have hl105 : (splice (0 + d5.toNat * 1) [.ptr c95 0] cl).length = 21 := (len_sp (show 0 + d5.toNat * 1 + 1 ≤ _ by omega)).trans hl
   refine rGz [(0, yp p), (5, xi d4), (6, xi d5), (11, yp c95)] (On.put (.obj (splice (0 + d5.toNat * 1) [.ptr c95 0] cl)) hs104 2 rfl) (zA 5 (ob_index_sym (P := pg) (A := an) (H := H103) (t := 66) (el := 26) (ty := 0) (p := p) (off := 0) (sz := 1) (n := 3) (i := d5) Try.underlying66 (by kernel_rfl) (by omega) (by omega)) (zL 6 (ob_store_at (P := pg) (A := an) (H := H103) (t := 26) (ty := 0) (id := p) (base := 0 + d5.toNat * 1) (cs := cl) (v := .one (.ptr c95 0)) (On.at hs104 2 rfl) (by kernel_rfl) (by kernel_rfl) (show 0 + d5.toNat * 1 + 1 ≤ _ by omega)))) fun H106 hs107 => ?_
   have hb108 : sub (3 + d4.toNat * 5) 5 (splice (0 + d5.toNat * 1) [.ptr c95 0] cl) = (wC false rc u0 v0 u1 v1 u2 v2 S hand l0 l1 l2) := sub_sp hb (show 0 + d5.toNat * 1 + 1 ≤ _ by omega) (show 0 + d5.toNat * 1 + 1 ≤ _ ∨ _ by omega)
   have hl109 : (splice (3 + d5.toNat * 5) (wC false rc u0 v0 u1 v1 u2 v2 S hand l0 l1 l2) (splice (0 + d5.toNat * 1) [.ptr c95 0] cl)).length = 21 := (len_sp (show 3 + d5.toNat * 5 + 5 ≤ _ by omega)).trans hl105
   refine rGz [(0, yp p), (5, xi d4), (6, xi d5), (11, yp c95)] (On.put (.obj (splice (3 + d5.toNat * 5) (wC false rc u0 v0 u1 v1 u2 v2 S hand l0 l1 l2) (splice (0 + d5.toNat * 1) [.ptr c95 0] cl))) hs107 2 rfl) (zA 6 (ob_index_sym (P := pg) (A := an) (H := H106) (t := 67) (el := 31) (ty := 0) (p := p) (off := 3) (sz := 5) (n := 3) (i := d4) Try.underlying67 (by kernel_rfl) (by omega) (by omega)) (zA 7 (ob_load_at (P := pg) (A := an) (H := H106) (t := 31) (ty := 0) (id := p) (base := 3 + d4.toNat * 5) (off := 0) (m := 5) (n := 5) (cs := (splice (0 + d5.toNat * 1) [.ptr c95 0] cl)) (ws := (wC false rc u0 v0 u1 v1 u2 v2 S hand l0 l1 l2)) (v := .agg (wC false rc u0 v0 u1 v1 u2 v2 S hand l0 l1 l2)) (On.at hs107 2 rfl) hb108 (by omega) (by kernel_rfl) (by kernel_rfl) (by kernel_rfl)) (zA 10 (ob_index_sym (P := pg) (A := an) (H := H106) (t := 67) (el := 31) (ty := 0) (p := p) (off := 3) (sz := 5) (n := 3) (i := d5) Try.underlying67 (by kernel_rfl) (by omega) (by omega)) (zL 11 (ob_store_at (P := pg) (A := an) (H := H106) (t := 31) (ty := 0) (id := p) (base := 3 + d5.toNat * 5) (cs := (splice (0 + d5.toNat * 1) [.ptr c95 0] cl)) (v := .agg (wC false rc u0 v0 u1 v1 u2 v2 S hand l0 l1 l2)) (On.at hs107 2 rfl) (by kernel_rfl) (by kernel_rfl) (show 3 + d5.toNat * 5 + 5 ≤ _ by omega)))))) fun H110 hs111 => ?_
   have hb112 : sub (18 + d4.toNat * 1) 1 (splice (0 + d5.toNat * 1) [.ptr c95 0] cl) = [vb true] := sub_sp hc (show 0 + d5.toNat * 1 + 1 ≤ _ by omega) (show 0 + d5.toNat * 1 + 1 ≤ _ ∨ _ by omega)
   have hb113 : sub (18 + d4.toNat * 1) 1 (splice (3 + d5.toNat * 5) (wC false rc u0 v0 u1 v1 u2 v2 S hand l0 l1 l2) (splice (0 + d5.toNat * 1) [.ptr c95 0] cl)) = [vb true] := sub_sp hb112 (show 3 + d5.toNat * 5 + 5 ≤ _ by omega) (show 3 + d5.toNat * 5 + 5 ≤ _ ∨ _ by omega)
   have hl114 : (splice (18 + d5.toNat * 1) [vb true] (splice (3 + d5.toNat * 5) (wC false rc u0 v0 u1 v1 u2 v2 S hand l0 l1 l2) (splice (0 + d5.toNat * 1) [.ptr c95 0] cl))).length = 21 := (len_sp (show 18 + d5.toNat * 1 + 1 ≤ _ by omega)).trans hl109
   refine rGz [(0, yp p), (5, xi d4), (11, yp c95)] (On.put (.obj (splice (18 + d5.toNat * 1) [vb true] (splice (3 + d5.toNat * 5) (wC false rc u0 v0 u1 v1 u2 v2 S hand l0 l1 l2) (splice (0 + d5.toNat * 1) [.ptr c95 0] cl)))) hs111 2 rfl) (zA 6 (ob_index_sym (P := pg) (A := an) (H := H110) (t := 68) (el := 4) (ty := 0) (p := p) (off := 18) (sz := 1) (n := 3) (i := d4) Try.underlying68 (by kernel_rfl) (by omega) (by omega)) (zA 7 (ob_load_at (P := pg) (A := an) (H := H110) (t := 4) (ty := 0) (id := p) (base := 18 + d4.toNat * 1) (off := 0) (m := 1) (n := 1) (cs := (splice (3 + d5.toNat * 5) (wC false rc u0 v0 u1 v1 u2 v2 S hand l0 l1 l2) (splice (0 + d5.toNat * 1) [.ptr c95 0] cl))) (ws := [vb true]) (v := .one (vb true)) (On.at hs111 2 rfl) hb113 (by omega) (by kernel_rfl) (by kernel_rfl) (by kernel_rfl)) (zA 10 (ob_index_sym (P := pg) (A := an) (H := H110) (t := 68) (el := 4) (ty := 0) (p := p) (off := 18) (sz := 1) (n := 3) (i := d5) Try.underlying68 (by kernel_rfl) (by omega) (by omega)) (zL 11 (ob_store_at (P := pg) (A := an) (H := H110) (t := 4) (ty := 0) (id := p) (base := 18 + d5.toNat * 1) (cs := (splice (3 + d5.toNat * 5) (wC false rc u0 v0 u1 v1 u2 v2 S hand l0 l1 l2) (splice (0 + d5.toNat * 1) [.ptr c95 0] cl))) (v := .one (vb true)) (On.at hs111 2 rfl) (by kernel_rfl) (by kernel_rfl) (show 18 + d5.toNat * 1 + 1 ≤ _ by omega)))))) fun H115 hs116 => ?_
   have hb117 : sub (18 + d4.toNat * 1) 1 (splice (18 + d5.toNat * 1) [vb true] (splice (3 + d5.toNat * 5) (wC false rc u0 v0 u1 v1 u2 v2 S hand l0 l1 l2) (splice (0 + d5.toNat * 1) [.ptr c95 0] cl))) = [vb true] := sub_sp1 (by omega) hb113
   refine rSz [(4, xb true)] H115 (zA 6 (ob_index_sym (P := pg) (A := an) (H := H115) (t := 68) (el := 4) (ty := 0) (p := p) (off := 18) (sz := 1) (n := 3) (i := d4) Try.underlying68 (by kernel_rfl) (by omega) (by omega)) (zL 7 (ob_load_at (P := pg) (A := an) (H := H115) (t := 4) (ty := 0) (id := p) (base := 18 + d4.toNat * 1) (off := 0) (m := 1) (n := 1) (cs := (splice (18 + d5.toNat * 1) [vb true] (splice (3 + d5.toNat * 5) (wC false rc u0 v0 u1 v1 u2 v2 S hand l0 l1 l2) (splice (0 + d5.toNat * 1) [.ptr c95 0] cl)))) (ws := [vb true]) (v := .one (vb true)) (On.at hs116 2 rfl) hb117 (by omega) (by kernel_rfl) (by kernel_rfl) (by kernel_rfl)))) ?_
   refine wE ?_
   refine ⟨Or.inr rfl, [.one (vb true)], (by kernel_rfl), ?_⟩
   have hs118 : On [R, pts n1 (.obj [vi kind, vi on, vi at_, vi cls, vi nn, vi pa, vi pb, sv EN b nil cc lo, sv NI b3 nil3 cc3 so]), pts p (.obj (splice (18 + d5.toNat * 1) [vb true] (splice (3 + d5.toNat * 5) (wC false rc u0 v0 u1 v1 u2 v2 S hand l0 l1 l2) (splice (0 + d5.toNat * 1) [.ptr c95 0] cl)))), pts c95 (.obj (cO k96 S hand q97 q98 q99)), kP k96 S, gP q97 l0, gP q98 l1, gP q99 l2, slotsM cl] H115 := sH hs116 [3, 4, 5, 6, 7, 8] [0, 1, 2, 9, 10, 11, 12, 13] (fun _ x => slots_core (by omega) (by omega) ha hb hc hck x)
   have hs119 : On [R, pts n1 (.obj [vi kind, vi on, vi at_, vi cls, vi nn, vi pa, vi pb, sv EN b nil cc lo, sv NI b3 nil3 cc3 so]), allP p] H115 := sH hs118 [2, 8, 3, 4, 5, 6, 7] [0, 1] (fun _ x => all_core (k := d5.toNat) hl (by omega) hck x)
   exact ⟨rfl, (On.pick [0, 2] [1] (by kernel_rfl) hs119)⟩
  refine rSz [(0, yp p), (5, xi d4), (6, xi d5), (25, xi kind), (85, xb false)] H60 (zL 0 (Ja (vals := [xi kind, xi 8]) (H := H60) (op := .binOp .eql 3 (.tmp 0) (.tmp 1) 3) (ty := 0) (r := xb ((kind : Int) == 8)) (v := xb false) (by kernel_rfl) (congrArg (fun z => xb z) (beq_f (by omega))))) ?_
  refine wFa ?_
  by_cases c120 : (kind : Int) = 9
  ·
   refine rSz [(0, yp p), (5, xi d4), (6, xi d5), (131, xb true)] H60 (zL 0 (Ja (vals := [xi kind, xi 9]) (H := H60) (op := .binOp .eql 3 (.tmp 0) (.tmp 1) 3) (ty := 0) (r := xb ((kind : Int) == 9)) (v := xb true) (by kernel_rfl) (congrArg (fun z => xb z) (beq_t (by omega))))) ?_
   refine wTa ?_
   rcases play_open hs61 1 rfl (i := d4) (by omega) (by omega) with ⟨cl, hl, ha, hb, hc, hsA⟩ | ⟨cl, c, ks, q0, q1, q2, rc, u0, v0, u1, v1, u2, v2, S, hand, l0, l1, l2, hl, ha, hb, hc, hck, hsA⟩
   ·
    replace hsA : On [R, pts n1 (.obj [vi kind, vi on, vi at_, vi cls, vi nn, vi pa, vi pb, sv EN b nil cc lo, sv NI b3 nil3 cc3 so]), pts p (.obj cl), restM cl d4.toNat] H60 := hsA
    refine rSz [(0, yp p), (5, xi d4), (6, xi d5), (138, xb false)] H60 (zA 4 (ob_index_sym (P := pg) (A := an) (H := H60) (t := 68) (el := 4) (ty := 0) (p := p) (off := 18) (sz := 1) (n := 3) (i := d4) Try.underlying68 (by kernel_rfl) (by omega) (by omega)) (zL 5 (ob_load_at (P := pg) (A := an) (H := H60) (t := 4) (ty := 0) (id := p) (base := 18 + d4.toNat * 1) (off := 0) (m := 1) (n := 1) (cs := cl) (ws := [vb false]) (v := .one (vb false)) (On.at hsA 2 rfl) hc (by omega) (by kernel_rfl) (by kernel_rfl) (by kernel_rfl)))) ?_
    refine wFk ?_
    refine rs0 [(4, xb true)] ?_
    refine wE ?_
    refine ⟨Or.inr rfl, [.one (vb true)], (by kernel_rfl), ?_⟩
    have hs121 : On [R, pts n1 (.obj [vi kind, vi on, vi at_, vi cls, vi nn, vi pa, vi pb, sv EN b nil cc lo, sv NI b3 nil3 cc3 so]), allP p] H60 := sH hsA [2, 3] [0, 1] (fun _ x => all_of hl (star_mono (fun _ y => y) (fun _ y => SL_one (slots_nil (by omega) (by omega) ha hb hc y)) x))
    exact ⟨rfl, (On.pick [0, 2] [1] (by kernel_rfl) hs121)⟩
   replace hsA : On [R, pts n1 (.obj [vi kind, vi on, vi at_, vi cls, vi nn, vi pa, vi pb, sv EN b nil cc lo, sv NI b3 nil3 cc3 so]), pts p (.obj cl), restM cl d4.toNat, pts c (.obj (cO ks S hand q0 q1 q2)), kP ks S, gP q0 l0, gP q1 l1, gP q2 l2] H60 := hsA
   obtain ⟨hok, ⟨hh0, hh1⟩, ⟨b0, b1, b2⟩, hld⟩ := id hck
   obtain ⟨hS, hT⟩ := okW_len hok
   refine rSz [(0, yp p), (5, xi d4), (6, xi d5), (138, xb true)] H60 (zA 4 (ob_index_sym (P := pg) (A := an) (H := H60) (t := 68) (el := 4) (ty := 0) (p := p) (off := 18) (sz := 1) (n := 3) (i := d4) Try.underlying68 (by kernel_rfl) (by omega) (by omega)) (zL 5 (ob_load_at (P := pg) (A := an) (H := H60) (t := 4) (ty := 0) (id := p) (base := 18 + d4.toNat * 1) (off := 0) (m := 1) (n := 1) (cs := cl) (ws := [vb true]) (v := .one (vb true)) (On.at hsA 2 rfl) hc (by omega) (by kernel_rfl) (by kernel_rfl) (by kernel_rfl)))) ?_
   refine wTa ?_
   obtain ⟨_, H132, hr133, ⟨hz127, rfl, hs134⟩ | ⟨hz127, hz128, rfl, hs134⟩ | ⟨hz127, hz128, hz129, rfl, hs134⟩ | ⟨hz127, hz128, hz129, hz130, rfl, hs134⟩ | ⟨hz127, hz128, hz129, hz130, c122, k123, q124, q125, q126, rfl, hs134⟩⟩ := load_s _ (H60 : HH) (On.call [] [0, 1, 2, 3, 4, 5, 6, 7, 8] (by kernel_rfl) hsA) (b := false) (nn9 := false) (cp := rc) (S := S) (hand := hand) (aa0 := false) (nn0 := u0) (pp0 := v0) (l0 := l0) (aa1 := false) (nn1 := u1) (pp1 := v1) (l1 := l1) (aa2 := false) (nn2 := u2) (pp2 := v2) (l2 := l2) (hzl0 := by first | rfl | omega | (simp only [ek_]; omega) | (simp; done) | (simp; omega)) (hzl1 := by first | rfl | omega | (simp only [ek_]; omega) | (simp; done) | (simp; omega)) (hzl2 := by first | rfl | omega | (simp only [ek_]; omega) | (simp; done) | (simp; omega)) (by omega) (fun _ => rfl)
   ·
    rw [hok] at hz127; cases hz127
   ·
    exact (hz128 hld).elim
   ·
    exfalso; omega
   ·
    exfalso; omega
   have hs135 : On [R, pts n1 (.obj [vi kind, vi on, vi at_, vi cls, vi nn, vi pa, vi pb, sv EN b nil cc lo, sv NI b3 nil3 cc3 so]), pts p (.obj cl), restM cl d4.toNat, pts c (.obj (cO ks S hand q0 q1 q2)), kP ks S, gP q0 l0, gP q1 l1, gP q2 l2, pts c122 (.obj (cO k123 S hand q124 q125 q126)), kP k123 S, gP q124 l0, gP q125 l1, gP q126 l2] H132 := On.flat hs134
   have hk131 := okW_len hz127
   refine rGz [(0, yp p), (5, xi d4), (6, xi d5), (12, yp c122), (13, xi 0)] hs135 (zA 4 (ob_index_sym (P := pg) (A := an) (H := H60) (t := 67) (el := 31) (ty := 0) (p := p) (off := 3) (sz := 5) (n := 3) (i := d4) Try.underlying67 (by kernel_rfl) (by omega) (by omega)) (zA 6 (ob_load_at (P := pg) (A := an) (H := H60) (t := 22) (ty := 0) (id := p) (base := 3 + d4.toNat * 5) (off := 0) (m := 5) (n := 1) (cs := cl) (ws := (wC false rc u0 v0 u1 v1 u2 v2 S hand l0 l1 l2)) (v := .one (sv NI false false rc S)) (On.at hsA 2 rfl) hb (by omega) (by kernel_rfl) (by kernel_rfl) (by kernel_rfl)) (zA 11 (ob_index_sym (P := pg) (A := an) (H := H60) (t := 67) (el := 31) (ty := 0) (p := p) (off := 3) (sz := 5) (n := 3) (i := d4) Try.underlying67 (by kernel_rfl) (by omega) (by omega)) (zA 13 (ob_load_at (P := pg) (A := an) (H := H60) (t := 3) (ty := 0) (id := p) (base := 3 + d4.toNat * 5) (off := 1) (m := 5) (n := 1) (cs := cl) (ws := (wC false rc u0 v0 u1 v1 u2 v2 S hand l0 l1 l2)) (v := .one (vi hand)) (On.at hsA 2 rfl) hb (by omega) (by kernel_rfl) (by kernel_rfl) (by kernel_rfl)) (zA 18 (ob_index_sym (P := pg) (A := an) (H := H60) (t := 67) (el := 31) (ty := 0) (p := p) (off := 3) (sz := 5) (n := 3) (i := d4) Try.underlying67 (by kernel_rfl) (by omega) (by omega)) (zA 20 (ob_load_at (P := pg) (A := an) (H := H60) (t := 24) (ty := 0) (id := p) (base := 3 + d4.toNat * 5) (off := 2) (m := 5) (n := 3) (cs := cl) (ws := (wC false rc u0 v0 u1 v1 u2 v2 S hand l0 l1 l2)) (v := .agg [sv EN false u0 v0 l0, sv EN false u1 v1 l1, sv EN false u2 v2 l2]) (On.at hsA 2 rfl) hb (by omega) (by kernel_rfl) (by kernel_rfl) (by kernel_rfl)) (zL 21 (qC3 hr133)))))))) fun H136 hs137 => ?_
   have hl138 : (splice (0 + d5.toNat * 1) [.ptr c122 0] cl).length = 21 := (len_sp (show 0 + d5.toNat * 1 + 1 ≤ _ by omega)).trans hl
   refine rGz [(0, yp p), (5, xi d4), (6, xi d5), (12, yp c122), (13, xi 0)] (On.put (.obj (splice (0 + d5.toNat * 1) [.ptr c122 0] cl)) hs137 2 rfl) (zA 5 (ob_index_sym (P := pg) (A := an) (H := H136) (t := 66) (el := 26) (ty := 0) (p := p) (off := 0) (sz := 1) (n := 3) (i := d5) Try.underlying66 (by kernel_rfl) (by omega) (by omega)) (zL 6 (ob_store_at (P := pg) (A := an) (H := H136) (t := 26) (ty := 0) (id := p) (base := 0 + d5.toNat * 1) (cs := cl) (v := .one (.ptr c122 0)) (On.at hs137 2 rfl) (by kernel_rfl) (by kernel_rfl) (show 0 + d5.toNat * 1 + 1 ≤ _ by omega)))) fun H139 hs140 => ?_
   have hb141 : sub (3 + d4.toNat * 5) 5 (splice (0 + d5.toNat * 1) [.ptr c122 0] cl) = (wC false rc u0 v0 u1 v1 u2 v2 S hand l0 l1 l2) := sub_sp hb (show 0 + d5.toNat * 1 + 1 ≤ _ by omega) (show 0 + d5.toNat * 1 + 1 ≤ _ ∨ _ by omega)
   have hl142 : (splice (3 + d5.toNat * 5) (wC false rc u0 v0 u1 v1 u2 v2 S hand l0 l1 l2) (splice (0 + d5.toNat * 1) [.ptr c122 0] cl)).length = 21 := (len_sp (show 3 + d5.toNat * 5 + 5 ≤ _ by omega)).trans hl138
   refine rGz [(0, yp p), (6, xi d5), (12, yp c122), (13, xi 0)] (On.put (.obj (splice (3 + d5.toNat * 5) (wC false rc u0 v0 u1 v1 u2 v2 S hand l0 l1 l2) (splice (0 + d5.toNat * 1) [.ptr c122 0] cl))) hs140 2 rfl) (zA 6 (ob_index_sym (P := pg) (A := an) (H := H139) (t := 67) (el := 31) (ty := 0) (p := p) (off := 3) (sz := 5) (n := 3) (i := d4) Try.underlying67 (by kernel_rfl) (by omega) (by omega)) (zA 7 (ob_load_at (P := pg) (A := an) (H := H139) (t := 31) (ty := 0) (id := p) (base := 3 + d4.toNat * 5) (off := 0) (m := 5) (n := 5) (cs := (splice (0 + d5.toNat * 1) [.ptr c122 0] cl)) (ws := (wC false rc u0 v0 u1 v1 u2 v2 S hand l0 l1 l2)) (v := .agg (wC false rc u0 v0 u1 v1 u2 v2 S hand l0 l1 l2)) (On.at hs140 2 rfl) hb141 (by omega) (by kernel_rfl) (by kernel_rfl) (by kernel_rfl)) (zA 10 (ob_index_sym (P := pg) (A := an) (H := H139) (t := 67) (el := 31) (ty := 0) (p := p) (off := 3) (sz := 5) (n := 3) (i := d5) Try.underlying67 (by kernel_rfl) (by omega) (by omega)) (zL 11 (ob_store_at (P := pg) (A := an) (H := H139) (t := 31) (ty := 0) (id := p) (base := 3 + d5.toNat * 5) (cs := (splice (0 + d5.toNat * 1) [.ptr c122 0] cl)) (v := .agg (wC false rc u0 v0 u1 v1 u2 v2 S hand l0 l1 l2)) (On.at hs140 2 rfl) (by kernel_rfl) (by kernel_rfl) (show 3 + d5.toNat * 5 + 5 ≤ _ by omega)))))) fun H143 hs144 => ?_
   have hl145 : (splice (18 + d5.toNat * 1) [vb true] (splice (3 + d5.toNat * 5) (wC false rc u0 v0 u1 v1 u2 v2 S hand l0 l1 l2) (splice (0 + d5.toNat * 1) [.ptr c122 0] cl))).length = 21 := (len_sp (show 18 + d5.toNat * 1 + 1 ≤ _ by omega)).trans hl142
   refine rGz [(12, yp c122), (13, xi 0)] (On.put (.obj (splice (18 + d5.toNat * 1) [vb true] (splice (3 + d5.toNat * 5) (wC false rc u0 v0 u1 v1 u2 v2 S hand l0 l1 l2) (splice (0 + d5.toNat * 1) [.ptr c122 0] cl)))) hs144 2 rfl) (zA 4 (ob_index_sym (P := pg) (A := an) (H := H143) (t := 68) (el := 4) (ty := 0) (p := p) (off := 18) (sz := 1) (n := 3) (i := d5) Try.underlying68 (by kernel_rfl) (by omega) (by omega)) (zL 5 (ob_store_at (P := pg) (A := an) (H := H143) (t := 4) (ty := 0) (id := p) (base := 18 + d5.toNat * 1) (cs := (splice (3 + d5.toNat * 5) (wC false rc u0 v0 u1 v1 u2 v2 S hand l0 l1 l2) (splice (0 + d5.toNat * 1) [.ptr c122 0] cl))) (v := .one (vb true)) (On.at hs144 2 rfl) (by kernel_rfl) (by kernel_rfl) (show 18 + d5.toNat * 1 + 1 ≤ _ by omega)))) fun H146 hs147 => ?_
   refine rs0 [(4, xb true)] ?_
   refine wE ?_
   refine ⟨Or.inr rfl, [.one (vb true)], (by kernel_rfl), ?_⟩
   have hs148 : On [R, pts n1 (.obj [vi kind, vi on, vi at_, vi cls, vi nn, vi pa, vi pb, sv EN b nil cc lo, sv NI b3 nil3 cc3 so]), pts p (.obj (splice (18 + d5.toNat * 1) [vb true] (splice (3 + d5.toNat * 5) (wC false rc u0 v0 u1 v1 u2 v2 S hand l0 l1 l2) (splice (0 + d5.toNat * 1) [.ptr c122 0] cl)))), pts c122 (.obj (cO k123 S hand q124 q125 q126)), kP k123 S, gP q124 l0, gP q125 l1, gP q126 l2, slotsM cl] H146 := sH hs147 [3, 4, 5, 6, 7, 8] [0, 1, 2, 9, 10, 11, 12, 13] (fun _ x => slots_core (by omega) (by omega) ha hb hc hck x)
   have hs149 : On [R, pts n1 (.obj [vi kind, vi on, vi at_, vi cls, vi nn, vi pa, vi pb, sv EN b nil cc lo, sv NI b3 nil3 cc3 so]), allP p] H146 := sH hs148 [2, 8, 3, 4, 5, 6, 7] [0, 1] (fun _ x => all_core (k := d5.toNat) hl (by omega) hck x)
   exact ⟨rfl, (On.pick [0, 2] [1] (by kernel_rfl) hs149)⟩
  refine rSz [(0, yp p), (5, xi d4), (6, xi d5), (131, xb false)] H60 (zL 0 (Ja (vals := [xi kind, xi 9]) (H := H60) (op := .binOp .eql 3 (.tmp 0) (.tmp 1) 3) (ty := 0) (r := xb ((kind : Int) == 9)) (v := xb false) (by kernel_rfl) (congrArg (fun z => xb z) (beq_f (by omega))))) ?_
  refine wFk ?_
  refine rs0 [(4, xb true)] ?_
  refine wE ?_
  refine ⟨Or.inr rfl, [.one (vb true)], (by kernel_rfl), ?_⟩
  exact ⟨rfl, (On.pick [0, 1] [2] (by kernel_rfl) hs61)⟩
 intro hm62
 refine wS ?_
 by_cases c150 : (kind : Int) = 2
 ·
  refine rSz [(0, yp p), (3, yp n1), (5, xi d4), (6, xi d5), (25, xi kind), (69, xb true)] H2 (zL 0 (Ja (vals := [xi kind, xi 2]) (H := H2) (op := .binOp .eql 3 (.tmp 0) (.tmp 1) 3) (ty := 0) (r := xb ((kind : Int) == 2)) (v := xb true) (by kernel_rfl) (congrArg (fun z => xb z) (beq_t (by omega))))) ?_
  refine wTk ?_
  exact hm62 (H2, true) ⟨(On.pick [0, 1, 2] [] (by kernel_rfl) hs3), by intro hq; first | omega | (cases hq; done), by intro hq; first | omega | (cases hq; done)⟩
 refine rSz [(0, yp p), (3, yp n1), (5, xi d4), (6, xi d5), (25, xi kind), (69, xb false)] H2 (zL 0 (Ja (vals := [xi kind, xi 2]) (H := H2) (op := .binOp .eql 3 (.tmp 0) (.tmp 1) 3) (ty := 0) (r := xb ((kind : Int) == 2)) (v := xb false) (by kernel_rfl) (congrArg (fun z => xb z) (beq_f (by omega))))) ?_
 refine wFa ?_
 by_cases c151 : (kind : Int) = 3
 ·
  refine rSz [(0, yp p), (3, yp n1), (5, xi d4), (6, xi d5), (25, xi kind), (69, xb true)] H2 (zL 0 (Ja (vals := [xi kind, xi 3]) (H := H2) (op := .binOp .eql 3 (.tmp 0) (.tmp 1) 3) (ty := 0) (r := xb ((kind : Int) == 3)) (v := xb true) (by kernel_rfl) (congrArg (fun z => xb z) (beq_t (by omega))))) ?_
  refine wTk ?_
  exact hm62 (H2, true) ⟨(On.pick [0, 1, 2] [] (by kernel_rfl) hs3), by intro hq; first | omega | (cases hq; done), by intro hq; first | omega | (cases hq; done)⟩
 refine rSz [(0, yp p), (3, yp n1), (5, xi d4), (6, xi d5), (25, xi kind), (69, xb false)] H2 (zL 0 (Ja (vals := [xi kind, xi 3]) (H := H2) (op := .binOp .eql 3 (.tmp 0) (.tmp 1) 3) (ty := 0) (r := xb ((kind : Int) == 3)) (v := xb false) (by kernel_rfl) (congrArg (fun z => xb z) (beq_f (by omega))))) ?_
 refine wFa ?_
 by_cases c152 : (kind : Int) = 4
 ·
  refine rSz [(0, yp p), (3, yp n1), (5, xi d4), (6, xi d5), (25, xi kind), (69, xb true)] H2 (zL 0 (Ja (vals := [xi kind, xi 4]) (H := H2) (op := .binOp .eql 3 (.tmp 0) (.tmp 1) 3) (ty := 0) (r := xb ((kind : Int) == 4)) (v := xb true) (by kernel_rfl) (congrArg (fun z => xb z) (beq_t (by omega))))) ?_
  refine wTk ?_
  exact hm62 (H2, true) ⟨(On.pick [0, 1, 2] [] (by kernel_rfl) hs3), by intro hq; first | omega | (cases hq; done), by intro hq; first | omega | (cases hq; done)⟩
 refine rSz [(0, yp p), (3, yp n1), (5, xi d4), (6, xi d5), (25, xi kind), (69, xb false)] H2 (zL 0 (Ja (vals := [xi kind, xi 4]) (H := H2) (op := .binOp .eql 3 (.tmp 0) (.tmp 1) 3) (ty := 0) (r := xb ((kind : Int) == 4)) (v := xb false) (by kernel_rfl) (congrArg (fun z => xb z) (beq_f (by omega))))) ?_
 refine wFa ?_
 by_cases c153 : (kind : Int) = 5
 ·
  refine rSz [(0, yp p), (3, yp n1), (5, xi d4), (6, xi d5), (25, xi kind), (69, xb true)] H2 (zL 0 (Ja (vals := [xi kind, xi 5]) (H := H2) (op := .binOp .eql 3 (.tmp 0) (.tmp 1) 3) (ty := 0) (r := xb ((kind : Int) == 5)) (v := xb true) (by kernel_rfl) (congrArg (fun z => xb z) (beq_t (by omega))))) ?_
  refine wTk ?_
  exact hm62 (H2, true) ⟨(On.pick [0, 1, 2] [] (by kernel_rfl) hs3), by intro hq; first | omega | (cases hq; done), by intro hq; first | omega | (cases hq; done)⟩
 refine rSz [(0, yp p), (3, yp n1), (5, xi d4), (6, xi d5), (25, xi kind), (69, xb false)] H2 (zL 0 (Ja (vals := [xi kind, xi 5]) (H := H2) (op := .binOp .eql 3 (.tmp 0) (.tmp 1) 3) (ty := 0) (r := xb ((kind : Int) == 5)) (v := xb false) (by kernel_rfl) (congrArg (fun z => xb z) (beq_f (by omega))))) ?_
 refine wFa ?_
 by_cases c154 : (kind : Int) = 6
 ·
  refine rSz [(0, yp p), (3, yp n1), (5, xi d4), (6, xi d5), (25, xi kind), (69, xb true)] H2 (zL 0 (Ja (vals := [xi kind, xi 6]) (H := H2) (op := .binOp .eql 3 (.tmp 0) (.tmp 1) 3) (ty := 0) (r := xb ((kind : Int) == 6)) (v := xb true) (by kernel_rfl) (congrArg (fun z => xb z) (beq_t (by omega))))) ?_
  refine wTk ?_
  exact hm62 (H2, true) ⟨(On.pick [0, 1, 2] [] (by kernel_rfl) hs3), by intro hq; first | omega | (cases hq; done), by intro hq; first | omega | (cases hq; done)⟩
 refine rSz [(0, yp p), (3, yp n1), (5, xi d4), (6, xi d5), (25, xi kind), (69, xb false)] H2 (zL 0 (Ja (vals := [xi kind, xi 6]) (H := H2) (op := .binOp .eql 3 (.tmp 0) (.tmp 1) 3) (ty := 0) (r := xb ((kind : Int) == 6)) (v := xb false) (by kernel_rfl) (congrArg (fun z => xb z) (beq_f (by omega))))) ?_
 refine wFa ?_
 by_cases c155 : (kind : Int) = 10
 ·
  refine rRz [(0, yp p), (3, yp n1), (5, xi d4), (6, xi d5), (25, xi kind), (69, xb true)] H2 (zL 0 (Ja (vals := [xi kind, xi 10]) (H := H2) (op := .binOp .eql 3 (.tmp 0) (.tmp 1) 3) (ty := 0) (r := xb ((kind : Int) == 10)) (v := xb true) (by kernel_rfl) (congrArg (fun z => xb z) (beq_t (by omega))))) ?_
  exact hm62 (H2, true) ⟨(On.pick [0, 1, 2] [] (by kernel_rfl) hs3), by intro hq; first | omega | (cases hq; done), by intro hq; first | omega | (cases hq; done)⟩
 refine rRz [(0, yp p), (3, yp n1), (5, xi d4), (6, xi d5), (25, xi kind), (69, xb false)] H2 (zL 0 (Ja (vals := [xi kind, xi 10]) (H := H2) (op := .binOp .eql 3 (.tmp 0) (.tmp 1) 3) (ty := 0) (r := xb ((kind : Int) == 10)) (v := xb false) (by kernel_rfl) (congrArg (fun z => xb z) (beq_f (by omega))))) ?_
 exact hm62 (H2, false) ⟨(On.pick [0, 1, 2] [] (by kernel_rfl) hs3), by intro hq; first | omega | (cases hq; done), by intro hq; first | omega | (cases hq; done)⟩
end Go.Proofs.Ytjdnhbnpdbpgbaa
