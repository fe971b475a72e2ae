/- Lemmas. -/
import Derived.Test.YtjdnhbnpdbpgbaaR18YL
import Derived.Test.YtjdnhbnpdbpgbaaR18YC
import Derived.Test.YtjdnhbnpdbpgbaaR18YD
import Derived.Test.YtjdnhbnpdbpgbaaR18YE
namespace Go.Proofs.Ytjdnhbnpdbpgbaa
open Go.Lg
set_option linter.unusedVariables false
set_option maxRecDepth 100000
set_option maxHeartbeats 8000000
set_option linter.unusedSimpArgs false
theorem fn11 : PureC pg an 11 [] [.one (vb true)] := pure_of 400 (by kernel_rfl)
theorem ld_sub {l0 l1 l2 m0 m1 m2 : List EN.T} (h : LoadOk l0 l1 l2) (a0 : m0.Sublist l0) (a1 : m1.Sublist l1) (a2 : m2.Sublist l2) : LoadOk m0 m1 m2 :=
  List.Nodup.sublist ((a0.map _).append ((a1.map _).append (a2.map _))) h
theorem td_sub {l : List EN.T} {i : Int} : (l.take i.toNat ++ l.drop (i + 1).toNat).Sublist l := by
  have : (l.take i.toNat ++ l.drop i.toNat).Sublist l := by rw [List.take_append_drop]; exact .refl _
  refine List.Sublist.trans ((List.Sublist.refl _).append ?_) this
  rw [show (i + 1).toNat = i.toNat + ((i + 1).toNat - i.toNat) by omega, ← List.drop_drop]
  exact List.drop_sublist _ _
theorem pids_app (a b : List EN.T) : pids (a ++ b) = pids a ++ pids b := List.map_append
theorem pids_pin (l : List EN.T) : pids (pin l) = pids l := by simp [Function.comp_def]
theorem ld_perm {a b c d : List PN.T} (h : (a ++ (b ++ c)).Nodup) (hd : d.Nodup) (e0 : ∀ p ∈ d, p ∉ a) (e1 : ∀ p ∈ d, p ∉ b) (e2 : ∀ p ∈ d, p ∉ c) : ((a ++ d) ++ (b ++ c)).Nodup ∧ (a ++ ((b ++ d) ++ c)).Nodup ∧ (a ++ (b ++ (c ++ d))).Nodup := by
  have n : ((a ++ (b ++ c)) ++ d).Nodup := by
    rw [List.nodup_append]
    refine ⟨h, hd, fun x hx y hy => ?_⟩
    rintro rfl
    rcases List.mem_append.1 hx with hx | hx
    · exact e0 _ hy hx
    · rcases List.mem_append.1 hx with hx | hx
      · exact e1 _ hy hx
      · exact e2 _ hy hx
  refine ⟨n.perm ?_, n.perm ?_, n.perm ?_⟩
  · have := (List.perm_append_comm (l₁ := b ++ c) (l₂ := d)).append_left a
    simpa using this
  · have := ((List.perm_append_comm (l₁ := c) (l₂ := d)).append_left b).append_left a
    simpa using this
  · simp
theorem ld_join {l0 l1 l2 m : List EN.T} (h : LoadOk l0 l1 l2) (j : JoinOk m l0 l1 l2) : LoadOk (l0 ++ pin m) l1 l2 ∧ LoadOk l0 (l1 ++ pin m) l2 ∧ LoadOk l0 l1 (l2 ++ pin m) := by
  have := ld_perm h j.1 j.2.1 j.2.2.1 j.2.2.2
  unfold LoadOk
  rw [show pids (l0 ++ pin m) = pids l0 ++ pids m from by rw [pids_app, pids_pin], show pids (l1 ++ pin m) = pids l1 ++ pids m from by rw [pids_app, pids_pin], show pids (l2 ++ pin m) = pids l2 ++ pids m from by rw [pids_app, pids_pin]]
  exact this
theorem ld_push {l0 l1 l2 : List EN.T} {p : PN.T} (h : LoadOk l0 l1 l2) (h0 : posI p l0 < 0) (h1 : posI p l1 < 0) (h2 : posI p l2 < 0) : LoadOk (l0 ++ [(p, (false, ()))]) l1 l2 ∧ LoadOk l0 (l1 ++ [(p, (false, ()))]) l2 ∧ LoadOk l0 l1 (l2 ++ [(p, (false, ()))]) := by
  have := ld_perm h (d := [p]) (by simp) (by simpa using posI_neg.1 h0) (by simpa using posI_neg.1 h1) (by simpa using posI_neg.1 h2)
  unfold LoadOk
  rw [pids_snoc, pids_snoc, pids_snoc]
  exact this
theorem join_none {m l0 l1 l2 : List EN.T} (h : m.length = 0) : JoinOk m l0 l1 l2 := by
  rw [List.eq_nil_of_length_eq_zero h]
  exact ⟨List.nodup_nil, fun _ h => (nomatch h), fun _ h => (nomatch h), fun _ h => (nomatch h)⟩
theorem push_p (R : HP) (H : HH) (c ks q0 q1 q2 : Nat) (S : List Int) (hand : Int) (l0 l1 l2 : List EN.T) (kk : Int) (p : PN.T) (hs : On [R, pts c (.obj (cO ks S hand q0 q1 q2)), kP ks S, gP q0 l0, gP q1 l1, gP q2 l2] H) (hS : 3 ≤ (S.length : Int)) (hT : (S.length : Int) ≤ 64) (b0 : (l0.length : Int) ≤ 64) (b1 : (l1.length : Int) ≤ 64) (b2 : (l2.length : Int) ≤ 64) : ∃ rs H', Runs pg an 17 [.one (.ptr c 0), .one (vi kk), .agg [vi p.1, vi p.2.1]] H rs H' ∧ (((kk < 0 ∨ 3 ≤ kk ∨ 0 ≤ posI p l0 ∨ 0 ≤ posI p l1 ∨ 0 ≤ posI p l2) ∧ rs = [.one (vi 1)] ∧ On [R, pts c (.obj (cO ks S hand q0 q1 q2)), kP ks S, gP q0 l0, gP q1 l1, gP q2 l2] H') ∨ (((kk = 0 ∧ 64 ≤ (l0.length : Int)) ∨ (kk = 1 ∧ 64 ≤ (l1.length : Int)) ∨ (kk = 2 ∧ 64 ≤ (l2.length : Int))) ∧ posI p l0 < 0 ∧ posI p l1 < 0 ∧ posI p l2 < 0 ∧ rs = [.one (vi 2)] ∧ On [R, pts c (.obj (cO ks S hand q0 q1 q2)), kP ks S, gP q0 l0, gP q1 l1, gP q2 l2] H') ∨ (kk = 0 ∧ posI p l0 < 0 ∧ posI p l1 < 0 ∧ posI p l2 < 0 ∧ (l0.length : Int) < 64 ∧ rs = [.one (vi 0)] ∧ On [R, pts c (.obj (cO ks S hand q0 q1 q2)), kP ks S, gP q0 (l0 ++ [(p, (false, ()))]), gP q1 l1, gP q2 l2] H') ∨ (kk = 1 ∧ posI p l0 < 0 ∧ posI p l1 < 0 ∧ posI p l2 < 0 ∧ (l1.length : Int) < 64 ∧ rs = [.one (vi 0)] ∧ On [R, pts c (.obj (cO ks S hand q0 q1 q2)), kP ks S, gP q0 l0, gP q1 (l1 ++ [(p, (false, ()))]), gP q2 l2] H') ∨ (kk = 2 ∧ posI p l0 < 0 ∧ posI p l1 < 0 ∧ posI p l2 < 0 ∧ (l2.length : Int) < 64 ∧ rs = [.one (vi 0)] ∧ On [R, pts c (.obj (cO ks S hand q0 q1 q2)), kP ks S, gP q0 l0, gP q1 l1, gP q2 (l2 ++ [(p, (false, ()))])] H')) := by
 refine rOF Try.func17 rfl ?_
 obtain ⟨n1, hn1⟩ := lX H
 refine rGz [(0, yp c), (1, xi kk), (5, yp n1)] (On.new' hn1 (.obj [vi p.1, vi p.2.1]) hs) (zL 0 (qB 38 [vi p.1, vi p.2.1] hn1)) fun H2 hs3 => ?_
 refine wS ?_
 by_cases c6 : (0 : Int) ≤ kk
 ·
  by_cases c9 : (kk : Int) < 3
  ·
   have hz12 := posI_bd p l0
   have hz16 := posI_bd p l1
   have hz21 := posI_bd p l2
   obtain ⟨_, H31, hr32, ⟨hz30, rfl, hs33⟩ | ⟨hz27, hz28, hz29, rfl, hs33⟩⟩ := stands_all _ (H2 : HH) (On.call [1, 2, 3, 4, 5] [0, 6] (by kernel_rfl) hs3) (c := c) (ks := ks) (q0 := q0) (q1 := q1) (q2 := q2) (S := S) (hand := hand) (l0 := l0) (l1 := l1) (l2 := l2) (p := p) (by omega) (by omega) (by first | rfl | omega | (simp only [ek_]; omega) | (simp; done) | (simp; omega)) (by first | rfl | omega | (simp only [ek_]; omega) | (simp; done) | (simp; omega)) (by first | rfl | omega | (simp only [ek_]; omega) | (simp; done) | (simp; omega))
   ·
    have hs34 : On [R, pts n1 (.obj [vi p.1, vi p.2.1]), pts c (.obj (cO ks S hand q0 q1 q2)), kP ks S, gP q0 l0, gP q1 l1, gP q2 l2] H31 := On.flat hs33
    have hcall35 : Runs pg an 31 [.one (.ptr c 0)] H2 [.one (vb true)] H2 := by
     refine runs_of ?_
     refine rOF Try.func31 rfl ?_
     refine rs0 [(0, yp c)] ?_
     refine rSz [(2, xb true)] H2 (zA 6 (qL 22 0 (.one (rff ks S)) (On.at hs3 1 rfl)) (zA 7 (Jc (H := H2) (s := NI) (t := 22) (ty := 0) (pu := true) (capd := false) (id := ks) (d := 0) (o := 0) (n := S.length) (l := S) (e := (S.length : Int)) (On.at hs3 2 rfl) (by kernel_rfl) (by first | rfl | omega | (simp only [ek_]; omega) | (simp; done) | (simp; omega))) (zL 8 (qgtrT H2 (S.length : Int) 0)))) ?_
     refine wE ?_
     exact ⟨Or.inr rfl, [.one (vb true)], (by kernel_rfl), ⟨rfl, rfl⟩⟩
    have hcall36 : Runs pg an 40 [.one (vi kk)] H2 [.one (vb true)] H2 := by
     refine runs_of ?_
     refine rOF Try.func40 rfl ?_
     refine rs0 [(0, xi kk)] ?_
     refine rSz [(2, xb true)] H2 (zA 1 (qgeqT H2 kk 0) (zL 4 (qlssT H2 kk 3))) ?_
     refine wE ?_
     exact ⟨Or.inr rfl, [.one (vb true)], (by kernel_rfl), ⟨rfl, rfl⟩⟩
    refine rGz [(0, yp c), (1, xi kk), (5, yp n1), (19, xb true)] hs34 (zA 1 (qC1 hcall35) (zA 5 (qC1 hcall36) (zA 10 (qL 38 0 (.agg [vi p.1, vi p.2.1]) (On.at hs3 6 rfl)) (zL 11 (qC2 hr32))))) fun H37 hs38 => ?_
    refine wTa ?_
    refine rs0 [(6, xi 1)] ?_
    refine wE ?_
    refine ⟨Or.inr rfl, [.one (vi 1)], (by kernel_rfl), ?_⟩
    exact .inl ⟨by omega, rfl, (On.pick [0, 2, 3, 4, 5, 6] [1] (by kernel_rfl) hs38)⟩
   have hs39 : On [R, pts n1 (.obj [vi p.1, vi p.2.1]), pts c (.obj (cO ks S hand q0 q1 q2)), kP ks S, gP q0 l0, gP q1 l1, gP q2 l2] H31 := On.flat hs33
   have hcall40 : Runs pg an 31 [.one (.ptr c 0)] H2 [.one (vb true)] H2 := by
    refine runs_of ?_
    refine rOF Try.func31 rfl ?_
    refine rs0 [(0, yp c)] ?_
    refine rSz [(2, xb true)] H2 (zA 6 (qL 22 0 (.one (rff ks S)) (On.at hs3 1 rfl)) (zA 7 (Jc (H := H2) (s := NI) (t := 22) (ty := 0) (pu := true) (capd := false) (id := ks) (d := 0) (o := 0) (n := S.length) (l := S) (e := (S.length : Int)) (On.at hs3 2 rfl) (by kernel_rfl) (by first | rfl | omega | (simp only [ek_]; omega) | (simp; done) | (simp; omega))) (zL 8 (qgtrT H2 (S.length : Int) 0)))) ?_
    refine wE ?_
    exact ⟨Or.inr rfl, [.one (vb true)], (by kernel_rfl), ⟨rfl, rfl⟩⟩
   have hcall41 : Runs pg an 40 [.one (vi kk)] H2 [.one (vb true)] H2 := by
    refine runs_of ?_
    refine rOF Try.func40 rfl ?_
    refine rs0 [(0, xi kk)] ?_
    refine rSz [(2, xb true)] H2 (zA 1 (qgeqT H2 kk 0) (zL 4 (qlssT H2 kk 3))) ?_
    refine wE ?_
    exact ⟨Or.inr rfl, [.one (vb true)], (by kernel_rfl), ⟨rfl, rfl⟩⟩
   refine rGz [(0, yp c), (1, xi kk), (5, yp n1), (19, xb false)] hs39 (zA 1 (qC1 hcall40) (zA 5 (qC1 hcall41) (zA 10 (qL 38 0 (.agg [vi p.1, vi p.2.1]) (On.at hs3 6 rfl)) (zL 11 (qC2 hr32))))) fun H42 hs43 => ?_
   refine wFk ?_
   rcases (show kk = 0 ∨ kk = 1 ∨ kk = 2 from by omega) with rfl | rfl | rfl
   ·
    by_cases c44 : (64 : Int) ≤ (l0.length : Int)
    ·
     obtain ⟨_, H45, hr46, rfl, hs47⟩ := push_full _ (H42 : HH) (On.call [4] [0, 1, 2, 3, 5, 6] (by kernel_rfl) hs43) (q := q0) (room := 64) (l := l0) (x := (p, (false, ()))) (by first | rfl | omega | (simp only [ek_]; omega) | (simp; done) | (simp; omega))
     have hs47 : On [R, pts n1 (.obj [vi p.1, vi p.2.1]), pts c (.obj (cO ks S hand q0 q1 q2)), kP ks S, gP q1 l1, gP q2 l2, gP q0 l0] H45 := On.flat hs47
     refine rGz [(6, xi 2)] hs47 (zA 6 (qL 78 2 (.one (.ptr q0 0)) (On.at hs43 2 rfl)) (zA 7 (qL 38 0 (.agg [vi p.1, vi p.2.1]) (On.at hs43 1 rfl)) (zL 9 (qC2 hr46)))) fun H48 hs49 => ?_
     refine wE ?_
     refine ⟨Or.inr rfl, [.one (vi 2)], (by kernel_rfl), ?_⟩
     exact .inr (.inl ⟨by omega, by omega, by omega, by omega, rfl, (On.pick [0, 2, 3, 6, 4, 5] [1] (by kernel_rfl) hs49)⟩)
    have hlfz50 : ((l0 ++ [(p, (false, ()))]).length : Int) = ((l0.length : Int) + 1) := by { first | rfl | omega | (simp only [ek_]; omega) | (simp; done) | (simp; omega) }
    obtain ⟨_, H52, hr53, rfl, hs54⟩ := push_ok _ (H42 : HH) (On.call [4] [0, 1, 2, 3, 5, 6] (by kernel_rfl) hs43) (q := q0) (room := 64) (l := l0) (x := (p, (false, ()))) (by first | rfl | omega | (simp only [ek_]; omega) | (simp; done) | (simp; omega))
    have hs54 : On [R, pts n1 (.obj [vi p.1, vi p.2.1]), pts c (.obj (cO ks S hand q0 q1 q2)), kP ks S, gP q1 l1, gP q2 l2, gP q0 (l0 ++ [(p, (false, ()))])] H52 := On.flat hs54
    refine rGz [(6, xi 0)] hs54 (zA 6 (qL 78 2 (.one (.ptr q0 0)) (On.at hs43 2 rfl)) (zA 7 (qL 38 0 (.agg [vi p.1, vi p.2.1]) (On.at hs43 1 rfl)) (zL 9 (qC2 hr53)))) fun H55 hs56 => ?_
    refine wE ?_
    refine ⟨Or.inr rfl, [.one (vi 0)], (by kernel_rfl), ?_⟩
    exact .inr (.inr (.inl ⟨rfl, by omega, by omega, by omega, by omega, rfl, (On.pick [0, 2, 3, 6, 4, 5] [1] (by kernel_rfl) hs56)⟩))
   ·
    by_cases c57 : (64 : Int) ≤ (l1.length : Int)
    ·
     obtain ⟨_, H58, hr59, rfl, hs60⟩ := push_full _ (H42 : HH) (On.call [5] [0, 1, 2, 3, 4, 6] (by kernel_rfl) hs43) (q := q1) (room := 64) (l := l1) (x := (p, (false, ()))) (by first | rfl | omega | (simp only [ek_]; omega) | (simp; done) | (simp; omega))
     have hs60 : On [R, pts n1 (.obj [vi p.1, vi p.2.1]), pts c (.obj (cO ks S hand q0 q1 q2)), kP ks S, gP q0 l0, gP q2 l2, gP q1 l1] H58 := On.flat hs60
     refine rGz [(6, xi 2)] hs60 (zA 6 (qL 78 3 (.one (.ptr q1 0)) (On.at hs43 2 rfl)) (zA 7 (qL 38 0 (.agg [vi p.1, vi p.2.1]) (On.at hs43 1 rfl)) (zL 9 (qC2 hr59)))) fun H61 hs62 => ?_
     refine wE ?_
     refine ⟨Or.inr rfl, [.one (vi 2)], (by kernel_rfl), ?_⟩
     exact .inr (.inl ⟨by omega, by omega, by omega, by omega, rfl, (On.pick [0, 2, 3, 4, 6, 5] [1] (by kernel_rfl) hs62)⟩)
    have hlfz63 : ((l1 ++ [(p, (false, ()))]).length : Int) = ((l1.length : Int) + 1) := by { first | rfl | omega | (simp only [ek_]; omega) | (simp; done) | (simp; omega) }
    obtain ⟨_, H65, hr66, rfl, hs67⟩ := push_ok _ (H42 : HH) (On.call [5] [0, 1, 2, 3, 4, 6] (by kernel_rfl) hs43) (q := q1) (room := 64) (l := l1) (x := (p, (false, ()))) (by first | rfl | omega | (simp only [ek_]; omega) | (simp; done) | (simp; omega))
    have hs67 : On [R, pts n1 (.obj [vi p.1, vi p.2.1]), pts c (.obj (cO ks S hand q0 q1 q2)), kP ks S, gP q0 l0, gP q2 l2, gP q1 (l1 ++ [(p, (false, ()))])] H65 := On.flat hs67
    refine rGz [(6, xi 0)] hs67 (zA 6 (qL 78 3 (.one (.ptr q1 0)) (On.at hs43 2 rfl)) (zA 7 (qL 38 0 (.agg [vi p.1, vi p.2.1]) (On.at hs43 1 rfl)) (zL 9 (qC2 hr66)))) fun H68 hs69 => ?_
    refine wE ?_
    refine ⟨Or.inr rfl, [.one (vi 0)], (by kernel_rfl), ?_⟩
    exact .inr (.inr (.inr (.inl ⟨rfl, by omega, by omega, by omega, by omega, rfl, (On.pick [0, 2, 3, 4, 6, 5] [1] (by kernel_rfl) hs69)⟩)))
   by_cases c70 : (64 : Int) ≤ (l2.length : Int)
   ·
    obtain ⟨_, H71, hr72, rfl, hs73⟩ := push_full _ (H42 : HH) (On.call [6] [0, 1, 2, 3, 4, 5] (by kernel_rfl) hs43) (q := q2) (room := 64) (l := l2) (x := (p, (false, ()))) (by first | rfl | omega | (simp only [ek_]; omega) | (simp; done) | (simp; omega))
    have hs73 : On [R, pts n1 (.obj [vi p.1, vi p.2.1]), pts c (.obj (cO ks S hand q0 q1 q2)), kP ks S, gP q0 l0, gP q1 l1, gP q2 l2] H71 := On.flat hs73
    refine rGz [(6, xi 2)] hs73 (zA 6 (qL 78 4 (.one (.ptr q2 0)) (On.at hs43 2 rfl)) (zA 7 (qL 38 0 (.agg [vi p.1, vi p.2.1]) (On.at hs43 1 rfl)) (zL 9 (qC2 hr72)))) fun H74 hs75 => ?_
    refine wE ?_
    refine ⟨Or.inr rfl, [.one (vi 2)], (by kernel_rfl), ?_⟩
    exact .inr (.inl ⟨by omega, by omega, by omega, by omega, rfl, (On.pick [0, 2, 3, 4, 5, 6] [1] (by kernel_rfl) hs75)⟩)
   have hlfz76 : ((l2 ++ [(p, (false, ()))]).length : Int) = ((l2.length : Int) + 1) := by { first | rfl | omega | (simp only [ek_]; omega) | (simp; done) | (simp; omega) }
   obtain ⟨_, H78, hr79, rfl, hs80⟩ := push_ok _ (H42 : HH) (On.call [6] [0, 1, 2, 3, 4, 5] (by kernel_rfl) hs43) (q := q2) (room := 64) (l := l2) (x := (p, (false, ()))) (by first | rfl | omega | (simp only [ek_]; omega) | (simp; done) | (simp; omega))
   have hs80 : On [R, pts n1 (.obj [vi p.1, vi p.2.1]), pts c (.obj (cO ks S hand q0 q1 q2)), kP ks S, gP q0 l0, gP q1 l1, gP q2 (l2 ++ [(p, (false, ()))])] H78 := On.flat hs80
   refine rGz [(6, xi 0)] hs80 (zA 6 (qL 78 4 (.one (.ptr q2 0)) (On.at hs43 2 rfl)) (zA 7 (qL 38 0 (.agg [vi p.1, vi p.2.1]) (On.at hs43 1 rfl)) (zL 9 (qC2 hr79)))) fun H81 hs82 => ?_
   refine wE ?_
   refine ⟨Or.inr rfl, [.one (vi 0)], (by kernel_rfl), ?_⟩
   exact .inr (.inr (.inr (.inr (⟨rfl, by omega, by omega, by omega, by omega, rfl, (On.pick [0, 2, 3, 4, 5, 6] [1] (by kernel_rfl) hs82)⟩))))
  have hcall83 : Runs pg an 31 [.one (.ptr c 0)] H2 [.one (vb true)] H2 := by
   refine runs_of ?_
   refine rOF Try.func31 rfl ?_
   refine rs0 [(0, yp c)] ?_
   refine rSz [(2, xb true)] H2 (zA 6 (qL 22 0 (.one (rff ks S)) (On.at hs3 1 rfl)) (zA 7 (Jc (H := H2) (s := NI) (t := 22) (ty := 0) (pu := true) (capd := false) (id := ks) (d := 0) (o := 0) (n := S.length) (l := S) (e := (S.length : Int)) (On.at hs3 2 rfl) (by kernel_rfl) (by first | rfl | omega | (simp only [ek_]; omega) | (simp; done) | (simp; omega))) (zL 8 (qgtrT H2 (S.length : Int) 0)))) ?_
   refine wE ?_
   exact ⟨Or.inr rfl, [.one (vb true)], (by kernel_rfl), ⟨rfl, rfl⟩⟩
  have hcall84 : Runs pg an 40 [.one (vi kk)] H2 [.one (vb false)] H2 := by
   refine runs_of ?_
   refine rOF Try.func40 rfl ?_
   refine rs0 [(0, xi kk)] ?_
   refine rSz [(2, xb false)] H2 (zA 1 (qgeqT H2 kk 0) (zL 4 (qlssF H2 kk 3))) ?_
   refine wE ?_
   exact ⟨Or.inr rfl, [.one (vb false)], (by kernel_rfl), ⟨rfl, rfl⟩⟩
  refine rSz [(0, yp c), (1, xi kk), (5, yp n1), (19, xb true)] H2 (zA 1 (qC1 hcall83) (zL 5 (qC1 hcall84))) ?_
  refine wTa ?_
  refine rs0 [(6, xi 1)] ?_
  refine wE ?_
  refine ⟨Or.inr rfl, [.one (vi 1)], (by kernel_rfl), ?_⟩
  exact .inl ⟨by omega, rfl, (On.pick [0, 1, 2, 3, 4, 5] [6] (by kernel_rfl) hs3)⟩
 have hcall85 : Runs pg an 31 [.one (.ptr c 0)] H2 [.one (vb true)] H2 := by
  refine runs_of ?_
  refine rOF Try.func31 rfl ?_
  refine rs0 [(0, yp c)] ?_
  refine rSz [(2, xb true)] H2 (zA 6 (qL 22 0 (.one (rff ks S)) (On.at hs3 1 rfl)) (zA 7 (Jc (H := H2) (s := NI) (t := 22) (ty := 0) (pu := true) (capd := false) (id := ks) (d := 0) (o := 0) (n := S.length) (l := S) (e := (S.length : Int)) (On.at hs3 2 rfl) (by kernel_rfl) (by first | rfl | omega | (simp only [ek_]; omega) | (simp; done) | (simp; omega))) (zL 8 (qgtrT H2 (S.length : Int) 0)))) ?_
  refine wE ?_
  exact ⟨Or.inr rfl, [.one (vb true)], (by kernel_rfl), ⟨rfl, rfl⟩⟩
 have hcall86 : Runs pg an 40 [.one (vi kk)] H2 [.one (vb false)] H2 := by
  refine runs_of ?_
  refine rOF Try.func40 rfl ?_
  refine rs0 [(0, xi kk)] ?_
  refine rSz [(2, xb false)] H2 (zL 1 (qgeqF H2 kk 0)) ?_
  refine wE ?_
  exact ⟨Or.inr rfl, [.one (vb false)], (by kernel_rfl), ⟨rfl, rfl⟩⟩
 refine rSz [(0, yp c), (1, xi kk), (5, yp n1), (19, xb true)] H2 (zA 1 (qC1 hcall85) (zL 5 (qC1 hcall86))) ?_
 refine wTa ?_
 refine rs0 [(6, xi 1)] ?_
 refine wE ?_
 refine ⟨Or.inr rfl, [.one (vi 1)], (by kernel_rfl), ?_⟩
 exact .inl ⟨by omega, rfl, (On.pick [0, 1, 2, 3, 4, 5] [6] (by kernel_rfl) hs3)⟩
theorem rpush_bad (rn rc u0 v0 u1 v1 u2 v2 : Bool) (S : List Int) (hand : Int) (l0 l1 l2 : List EN.T) (kk : Int) (p : PN.T) (b0 : (l0.length : Int) ≤ 64) (b1 : (l1.length : Int) ≤ 64) (b2 : (l2.length : Int) ≤ 64) (h : kk < 0 ∨ 3 ≤ kk ∨ 0 ≤ posI p l0 ∨ 0 ≤ posI p l1 ∨ 0 ≤ posI p l2) : PureC pg an 61 [.agg (wC rn rc u0 v0 u1 v1 u2 v2 S hand l0 l1 l2), .one (vi kk), .agg [vi p.1, vi p.2.1]] [.agg (wC rn rc u0 v0 u1 v1 u2 v2 S hand l0 l1 l2), .one (vi 1)] := by
  by_cases a : kk < 0
  · exact rpush_low rn rc u0 v0 u1 v1 u2 v2 S hand l0 l1 l2 kk p b0 b1 b2 a
  by_cases c : 3 ≤ kk
  · exact rpush_high rn rc u0 v0 u1 v1 u2 v2 S hand l0 l1 l2 kk p b0 b1 b2 c
  rcases rpush rn rc u0 v0 u1 v1 u2 v2 S hand l0 l1 l2 kk p b0 b1 b2 (by omega) (by omega) with ⟨_, e⟩ | ⟨_, _, _, _, _, e⟩ | ⟨_, _, _, _, _, e⟩ | ⟨_, _, _, _, _, e⟩ | ⟨_, _, _, _, _, e⟩ | ⟨_, _, _, _, _, e⟩ | ⟨_, _, _, _, _, e⟩ <;> first | (exfalso; omega) | exact e
theorem rpush_full (rn rc u0 v0 u1 v1 u2 v2 : Bool) (S : List Int) (hand : Int) (l0 l1 l2 : List EN.T) (kk : Int) (p : PN.T) (b0 : (l0.length : Int) ≤ 64) (b1 : (l1.length : Int) ≤ 64) (b2 : (l2.length : Int) ≤ 64) (h : (kk = 0 ∧ 64 ≤ (l0.length : Int)) ∨ (kk = 1 ∧ 64 ≤ (l1.length : Int)) ∨ (kk = 2 ∧ 64 ≤ (l2.length : Int))) (n0 : posI p l0 < 0) (n1 : posI p l1 < 0) (n2 : posI p l2 < 0) : PureC pg an 61 [.agg (wC rn rc u0 v0 u1 v1 u2 v2 S hand l0 l1 l2), .one (vi kk), .agg [vi p.1, vi p.2.1]] [.agg (wC rn rc u0 v0 u1 v1 u2 v2 S hand l0 l1 l2), .one (vi 2)] := by
  rcases rpush rn rc u0 v0 u1 v1 u2 v2 S hand l0 l1 l2 kk p b0 b1 b2 (by omega) (by omega) with ⟨_, e⟩ | ⟨_, _, _, _, _, e⟩ | ⟨_, _, _, _, _, e⟩ | ⟨_, _, _, _, _, e⟩ | ⟨_, _, _, _, _, e⟩ | ⟨_, _, _, _, _, e⟩ | ⟨_, _, _, _, _, e⟩ <;> first | (exfalso; omega) | exact e
theorem rjoin_bad (rn rc u0 v0 u1 v1 u2 v2 : Bool) (S : List Int) (hand : Int) (l0 l1 l2 : List EN.T) (kk : Int) (b nil cc : Bool) (m : List EN.T) (b0 : (l0.length : Int) ≤ 64) (b1 : (l1.length : Int) ≤ 64) (b2 : (l2.length : Int) ≤ 64) (hm : (m.length : Int) ≤ 70368744177664) (hk0 : 0 ≤ kk) (hk1 : kk < 3) (hb : JoinBad m l0 l1 l2) : PureC pg an 64 [.agg (wC rn rc u0 v0 u1 v1 u2 v2 S hand l0 l1 l2), .one (vi kk), .one (sv EN b nil cc m)] [.agg (wC rn rc u0 v0 u1 v1 u2 v2 S hand l0 l1 l2), .one (vi 1)] := by
  rcases rjoin rn rc u0 v0 u1 v1 u2 v2 S hand l0 l1 l2 kk b nil cc m b0 b1 b2 hm (by omega) (by omega) with ⟨_, e⟩ | ⟨_, _, _, e⟩ | ⟨_, _, _, e⟩ | ⟨_, _, _, e⟩ | ⟨_, _, _, e⟩ | ⟨_, _, _, e⟩ | ⟨_, _, _, e⟩ <;> first | (exfalso; omega) | exact e | contradiction
theorem rjoin_full0 (rn rc u0 v0 u1 v1 u2 v2 : Bool) (S : List Int) (hand : Int) (l0 l1 l2 : List EN.T) (b nil cc : Bool) (m : List EN.T) (b0 : (l0.length : Int) ≤ 64) (b1 : (l1.length : Int) ≤ 64) (b2 : (l2.length : Int) ≤ 64) (hm : (m.length : Int) ≤ 70368744177664) (hj : JoinOk m l0 l1 l2) (hf : 64 < (l0.length : Int) + m.length) : PureC pg an 64 [.agg (wC rn rc u0 v0 u1 v1 u2 v2 S hand l0 l1 l2), .one (vi 0), .one (sv EN b nil cc m)] [.agg (wC rn rc u0 v0 u1 v1 u2 v2 S hand l0 l1 l2), .one (vi 2)] := by
  rcases rjoin rn rc u0 v0 u1 v1 u2 v2 S hand l0 l1 l2 0 b nil cc m b0 b1 b2 hm (by omega) (by omega) with ⟨_, e⟩ | ⟨_, _, _, e⟩ | ⟨_, _, _, e⟩ | ⟨_, _, _, e⟩ | ⟨_, _, _, e⟩ | ⟨_, _, _, e⟩ | ⟨_, _, _, e⟩ <;> first | (exfalso; omega) | exact e | contradiction
theorem rjoin_ok0 (rn rc u0 v0 u1 v1 u2 v2 : Bool) (S : List Int) (hand : Int) (l0 l1 l2 : List EN.T) (b nil cc : Bool) (m : List EN.T) (b0 : (l0.length : Int) ≤ 64) (b1 : (l1.length : Int) ≤ 64) (b2 : (l2.length : Int) ≤ 64) (hm : (m.length : Int) ≤ 70368744177664) (hj : JoinOk m l0 l1 l2) (hf : (l0.length : Int) + m.length ≤ 64) : ∃ nl cp : Bool, PureC pg an 64 [.agg (wC rn rc u0 v0 u1 v1 u2 v2 S hand l0 l1 l2), .one (vi 0), .one (sv EN b nil cc m)] [.agg (wC rn rc nl cp u1 v1 u2 v2 S hand (l0 ++ pin m) l1 l2), .one (vi 0)] := by
  rcases rjoin rn rc u0 v0 u1 v1 u2 v2 S hand l0 l1 l2 0 b nil cc m b0 b1 b2 hm (by omega) (by omega) with ⟨_, e⟩ | ⟨_, _, _, e⟩ | ⟨_, _, _, e⟩ | ⟨_, _, _, e⟩ | ⟨_, _, _, e⟩ | ⟨_, _, _, e⟩ | ⟨_, _, _, e⟩ <;> first | (exfalso; omega) | exact e | contradiction
theorem rjoin_full1 (rn rc u0 v0 u1 v1 u2 v2 : Bool) (S : List Int) (hand : Int) (l0 l1 l2 : List EN.T) (b nil cc : Bool) (m : List EN.T) (b0 : (l0.length : Int) ≤ 64) (b1 : (l1.length : Int) ≤ 64) (b2 : (l2.length : Int) ≤ 64) (hm : (m.length : Int) ≤ 70368744177664) (hj : JoinOk m l0 l1 l2) (hf : 64 < (l1.length : Int) + m.length) : PureC pg an 64 [.agg (wC rn rc u0 v0 u1 v1 u2 v2 S hand l0 l1 l2), .one (vi 1), .one (sv EN b nil cc m)] [.agg (wC rn rc u0 v0 u1 v1 u2 v2 S hand l0 l1 l2), .one (vi 2)] := by
  rcases rjoin rn rc u0 v0 u1 v1 u2 v2 S hand l0 l1 l2 1 b nil cc m b0 b1 b2 hm (by omega) (by omega) with ⟨_, e⟩ | ⟨_, _, _, e⟩ | ⟨_, _, _, e⟩ | ⟨_, _, _, e⟩ | ⟨_, _, _, e⟩ | ⟨_, _, _, e⟩ | ⟨_, _, _, e⟩ <;> first | (exfalso; omega) | exact e | contradiction
theorem rjoin_ok1 (rn rc u0 v0 u1 v1 u2 v2 : Bool) (S : List Int) (hand : Int) (l0 l1 l2 : List EN.T) (b nil cc : Bool) (m : List EN.T) (b0 : (l0.length : Int) ≤ 64) (b1 : (l1.length : Int) ≤ 64) (b2 : (l2.length : Int) ≤ 64) (hm : (m.length : Int) ≤ 70368744177664) (hj : JoinOk m l0 l1 l2) (hf : (l1.length : Int) + m.length ≤ 64) : ∃ nl cp : Bool, PureC pg an 64 [.agg (wC rn rc u0 v0 u1 v1 u2 v2 S hand l0 l1 l2), .one (vi 1), .one (sv EN b nil cc m)] [.agg (wC rn rc u0 v0 nl cp u2 v2 S hand l0 (l1 ++ pin m) l2), .one (vi 0)] := by
  rcases rjoin rn rc u0 v0 u1 v1 u2 v2 S hand l0 l1 l2 1 b nil cc m b0 b1 b2 hm (by omega) (by omega) with ⟨_, e⟩ | ⟨_, _, _, e⟩ | ⟨_, _, _, e⟩ | ⟨_, _, _, e⟩ | ⟨_, _, _, e⟩ | ⟨_, _, _, e⟩ | ⟨_, _, _, e⟩ <;> first | (exfalso; omega) | exact e | contradiction
theorem rjoin_full2 (rn rc u0 v0 u1 v1 u2 v2 : Bool) (S : List Int) (hand : Int) (l0 l1 l2 : List EN.T) (b nil cc : Bool) (m : List EN.T) (b0 : (l0.length : Int) ≤ 64) (b1 : (l1.length : Int) ≤ 64) (b2 : (l2.length : Int) ≤ 64) (hm : (m.length : Int) ≤ 70368744177664) (hj : JoinOk m l0 l1 l2) (hf : 64 < (l2.length : Int) + m.length) : PureC pg an 64 [.agg (wC rn rc u0 v0 u1 v1 u2 v2 S hand l0 l1 l2), .one (vi 2), .one (sv EN b nil cc m)] [.agg (wC rn rc u0 v0 u1 v1 u2 v2 S hand l0 l1 l2), .one (vi 2)] := by
  rcases rjoin rn rc u0 v0 u1 v1 u2 v2 S hand l0 l1 l2 2 b nil cc m b0 b1 b2 hm (by omega) (by omega) with ⟨_, e⟩ | ⟨_, _, _, e⟩ | ⟨_, _, _, e⟩ | ⟨_, _, _, e⟩ | ⟨_, _, _, e⟩ | ⟨_, _, _, e⟩ | ⟨_, _, _, e⟩ <;> first | (exfalso; omega) | exact e | contradiction
theorem rjoin_ok2 (rn rc u0 v0 u1 v1 u2 v2 : Bool) (S : List Int) (hand : Int) (l0 l1 l2 : List EN.T) (b nil cc : Bool) (m : List EN.T) (b0 : (l0.length : Int) ≤ 64) (b1 : (l1.length : Int) ≤ 64) (b2 : (l2.length : Int) ≤ 64) (hm : (m.length : Int) ≤ 70368744177664) (hj : JoinOk m l0 l1 l2) (hf : (l2.length : Int) + m.length ≤ 64) : ∃ nl cp : Bool, PureC pg an 64 [.agg (wC rn rc u0 v0 u1 v1 u2 v2 S hand l0 l1 l2), .one (vi 2), .one (sv EN b nil cc m)] [.agg (wC rn rc u0 v0 u1 v1 nl cp S hand l0 l1 (l2 ++ pin m)), .one (vi 0)] := by
  rcases rjoin rn rc u0 v0 u1 v1 u2 v2 S hand l0 l1 l2 2 b nil cc m b0 b1 b2 hm (by omega) (by omega) with ⟨_, e⟩ | ⟨_, _, _, e⟩ | ⟨_, _, _, e⟩ | ⟨_, _, _, e⟩ | ⟨_, _, _, e⟩ | ⟨_, _, _, e⟩ | ⟨_, _, _, e⟩ <;> first | (exfalso; omega) | exact e | contradiction
theorem rpush_any (k : Int) (p : PN.T) : ∃ (rn rc u0 v0 u1 v1 u2 v2 : Bool) (S : List Int) (hand : Int) (l0 l1 l2 : List EN.T) (e : Int), PureC pg an 61 [.agg W0, .one (vi k), .agg [vi p.1, vi p.2.1]] [.agg (wC rn rc u0 v0 u1 v1 u2 v2 S hand l0 l1 l2), .one (vi e)] := by
  by_cases a : k < 0
  · exact ⟨_, _, _, _, _, _, _, _, _, _, _, _, _, _, rpush_low true true true true true true true true [] 0 [] [] [] k p (by simp) (by simp) (by simp) a⟩
  by_cases c : 3 ≤ k
  · exact ⟨_, _, _, _, _, _, _, _, _, _, _, _, _, _, rpush_high true true true true true true true true [] 0 [] [] [] k p (by simp) (by simp) (by simp) c⟩
  rcases rpush true true true true true true true true [] 0 [] [] [] k p (by simp) (by simp) (by simp) (by omega) (by omega) with ⟨_, e⟩ | ⟨_, _, _, _, _, e⟩ | ⟨_, _, _, _, _, nl, cp, e⟩ | ⟨_, _, _, _, _, e⟩ | ⟨_, _, _, _, _, nl, cp, e⟩ | ⟨_, _, _, _, _, e⟩ | ⟨_, _, _, _, _, nl, cp, e⟩ <;> exact ⟨_, _, _, _, _, _, _, _, _, _, _, _, _, _, e⟩
theorem rjoin_any (k : Int) (b nil cc : Bool) (m : List EN.T) (hm : (m.length : Int) ≤ 70368744177664) : ∃ (rn rc u0 v0 u1 v1 u2 v2 : Bool) (S : List Int) (hand : Int) (l0 l1 l2 : List EN.T) (e : Int), PureC pg an 64 [.agg W0, .one (vi k), .one (sv EN b nil cc m)] [.agg (wC rn rc u0 v0 u1 v1 u2 v2 S hand l0 l1 l2), .one (vi e)] := by
  by_cases a : k < 0
  · exact ⟨_, _, _, _, _, _, _, _, _, _, _, _, _, _, rjoin_low true true true true true true true true [] 0 [] [] [] k b nil cc m (by simp) (by simp) (by simp) hm a⟩
  by_cases c : 3 ≤ k
  · exact ⟨_, _, _, _, _, _, _, _, _, _, _, _, _, _, rjoin_high true true true true true true true true [] 0 [] [] [] k b nil cc m (by simp) (by simp) (by simp) hm c⟩
  rcases rjoin true true true true true true true true [] 0 [] [] [] k b nil cc m (by simp) (by simp) (by simp) hm (by omega) (by omega) with ⟨_, e⟩ | ⟨_, _, _, e⟩ | ⟨_, _, _, nl, cp, e⟩ | ⟨_, _, _, e⟩ | ⟨_, _, _, nl, cp, e⟩ | ⟨_, _, _, e⟩ | ⟨_, _, _, nl, cp, e⟩ <;> exact ⟨_, _, _, _, _, _, _, _, _, _, _, _, _, _, e⟩
theorem rcut_any (k i : Int) (hi : i ≤ 9223372036854775807) : ∃ (rn rc u0 v0 u1 v1 u2 v2 : Bool) (S : List Int) (hand : Int) (l0 l1 l2 : List EN.T) (n2 c2 : Bool) (l : List EN.T) (e : Int), PureC pg an 63 [.agg W0, .one (vi k), .one (vi i)] [.agg (wC rn rc u0 v0 u1 v1 u2 v2 S hand l0 l1 l2), .one (sv EN false n2 c2 l), .one (vi e)] := by
  by_cases a : k < 0
  · exact ⟨_, _, _, _, _, _, _, _, _, _, _, _, _, true, true, [], _, rcut_low true true true true true true true true [] 0 [] [] [] k i (by simp) (by simp) (by simp) a⟩
  by_cases c : 3 ≤ k
  · exact ⟨_, _, _, _, _, _, _, _, _, _, _, _, _, true, true, [], _, rcut_high true true true true true true true true [] 0 [] [] [] k i (by simp) (by simp) (by simp) c⟩
  by_cases d : i < 0
  · exact ⟨_, _, _, _, _, _, _, _, _, _, _, _, _, true, true, [], _, rcut_neg true true true true true true true true [] 0 [] [] [] k i (by simp) (by simp) (by simp) (by omega) (by omega) d⟩
  rcases (show k = 0 ∨ k = 1 ∨ k = 2 by omega) with rfl | rfl | rfl
  · by_cases b : 0 < i
    · exact ⟨_, _, _, _, _, _, _, _, _, _, _, _, _, true, true, [], _, rcut_none0 true true true true true true true true [] 0 [] [] [] i (by simp) (by simp) (by simp) (by simpa using b) hi⟩
    · obtain ⟨nl, cp, n2, c2, e⟩ := rcut_ok0 true true true true true true true true [] 0 [] [] [] i (by simp) (by simp) (by simp) (by omega) (by simp; omega)
      exact ⟨_, _, _, _, _, _, _, _, _, _, _, _, _, n2, c2, _, _, e⟩
  · by_cases b : 0 < i
    · exact ⟨_, _, _, _, _, _, _, _, _, _, _, _, _, true, true, [], _, rcut_none1 true true true true true true true true [] 0 [] [] [] i (by simp) (by simp) (by simp) (by simpa using b) hi⟩
    · obtain ⟨nl, cp, n2, c2, e⟩ := rcut_ok1 true true true true true true true true [] 0 [] [] [] i (by simp) (by simp) (by simp) (by omega) (by simp; omega)
      exact ⟨_, _, _, _, _, _, _, _, _, _, _, _, _, n2, c2, _, _, e⟩
  · by_cases b : 0 < i
    · exact ⟨_, _, _, _, _, _, _, _, _, _, _, _, _, true, true, [], _, rcut_none2 true true true true true true true true [] 0 [] [] [] i (by simp) (by simp) (by simp) (by simpa using b) hi⟩
    · obtain ⟨nl, cp, n2, c2, e⟩ := rcut_ok2 true true true true true true true true [] 0 [] [] [] i (by simp) (by simp) (by simp) (by omega) (by simp; omega)
      exact ⟨_, _, _, _, _, _, _, _, _, _, _, _, _, n2, c2, _, _, e⟩
theorem rpick_zero : PureC pg an 14 [.agg W0] [.agg W0, .agg [vi 0, vi 0, vb false], .one (vi 0), .one (vi 20)] := pure_of 200 (by kernel_rfl)
theorem rdrop_zero (p : PN.T) : PureC pg an 62 [.agg W0, .agg [vi p.1, vi p.2.1]] [.agg W0, .one (vi 0), .one (vi 0), .one (vi 3)] := pure_of 200 (by kernel_rfl)
theorem rfind_zero (p : PN.T) : PureC pg an 52 [.agg W0, .agg [vi p.1, vi p.2.1]] [.one (vi 0), .one (vi 0), .one (vi 3)] := pure_of 200 (by kernel_rfl)
theorem empty_all (R : HP) (H : HH) (c ks q0 q1 q2 : Nat) (S : List Int) (hand : Int) (l0 l1 l2 : List EN.T) (hs : On [R, pts c (.obj (cO ks S hand q0 q1 q2)), kP ks S, gP q0 l0, gP q1 l1, gP q2 l2] H) (hS : 3 ≤ (S.length : Int)) (hT : (S.length : Int) ≤ 64) (b0 : (l0.length : Int) ≤ 64) (b1 : (l1.length : Int) ≤ 64) (b2 : (l2.length : Int) ≤ 64) : ∃ rs H', Runs pg an 22 [.one (.ptr c 0)] H rs H' ∧ (((l0.length = 0 ∧ l1.length = 0 ∧ l2.length = 0) ∧ rs = [.one (vb true)] ∧ On [R, pts c (.obj (cO ks S hand q0 q1 q2)), kP ks S, gP q0 l0, gP q1 l1, gP q2 l2] H') ∨ (0 < (l0.length : Int) + l1.length + l2.length ∧ rs = [.one (vb false)] ∧ On [R, pts c (.obj (cO ks S hand q0 q1 q2)), kP ks S, gP q0 l0, gP q1 l1, gP q2 l2] H')) := by
 refine rOF Try.func22 rfl ?_
 refine rs0 [(0, yp c)] ?_
 refine wS ?_
 refine rs0 [(0, yp c), (4, xi 0)] ?_
 refine wB ?_
 refine Wp.loopU [(0, yp c), (4, xi 0)] (some ([0, 4], false)) (List.length H) (by kernel_rfl) ?_
 refine WpL.step ?_
 refine rs0 [(0, yp c), (4, xi 0), (5, xb true)] ?_
 refine wS (wTk ?_)
 refine wS (wB ?_)
 refine rs0 [(0, yp c), (3, xi 0), (4, xi 0)] ?_
 obtain ⟨_, H2, hr3, rfl, hs4⟩ := len_ok _ (H : HH) (On.call [3] [0, 1, 2, 4, 5] (by kernel_rfl) hs) (q := q0) (room := 64) (l := l0)
 have hs4 : On [R, pts c (.obj (cO ks S hand q0 q1 q2)), kP ks S, gP q1 l1, gP q2 l2, gP q0 l0] H2 := On.flat hs4
 by_cases c6 : (0 : Int) < (l0.length : Int)
 ·
  have hcall7 : Runs pg an 31 [.one (.ptr c 0)] H [.one (vb true)] H := by
   refine runs_of ?_
   refine rOF Try.func31 rfl ?_
   refine rs0 [(0, yp c)] ?_
   refine rSz [(2, xb true)] H (zA 6 (qL 22 0 (.one (rff ks S)) (On.at hs 1 rfl)) (zA 7 (Jc (H := H) (s := NI) (t := 22) (ty := 0) (pu := true) (capd := false) (id := ks) (d := 0) (o := 0) (n := S.length) (l := S) (e := (S.length : Int)) (On.at hs 2 rfl) (by kernel_rfl) (by first | rfl | omega | (simp only [ek_]; omega) | (simp; done) | (simp; omega))) (zL 8 (qgtrT H (S.length : Int) 0)))) ?_
   refine wE ?_
   exact ⟨Or.inr rfl, [.one (vb true)], (by kernel_rfl), ⟨rfl, rfl⟩⟩
  refine rGz [(0, yp c), (4, xi 0), (19, xb true)] hs4 (zA 1 (qC1 hcall7) (zA 9 (qL 78 2 (.one (.ptr q0 0)) (On.at hs 1 rfl)) (zA 10 (qC1 hr3) (zL 11 (qgtrT H2 (l0.length : Int) 0))))) fun H8 hs9 => ?_
  refine wTa ?_
  refine rs0 [(2, xb false)] ?_
  refine wE ?_
  refine ⟨Or.inr rfl, [.one (vb false)], (by kernel_rfl), ?_⟩
  exact .inr ⟨by omega, rfl, (On.pick [0, 1, 2, 5, 3, 4] [] (by kernel_rfl) hs9)⟩
 have hcall10 : Runs pg an 31 [.one (.ptr c 0)] H [.one (vb true)] H := by
  refine runs_of ?_
  refine rOF Try.func31 rfl ?_
  refine rs0 [(0, yp c)] ?_
  refine rSz [(2, xb true)] H (zA 6 (qL 22 0 (.one (rff ks S)) (On.at hs 1 rfl)) (zA 7 (Jc (H := H) (s := NI) (t := 22) (ty := 0) (pu := true) (capd := false) (id := ks) (d := 0) (o := 0) (n := S.length) (l := S) (e := (S.length : Int)) (On.at hs 2 rfl) (by kernel_rfl) (by first | rfl | omega | (simp only [ek_]; omega) | (simp; done) | (simp; omega))) (zL 8 (qgtrT H (S.length : Int) 0)))) ?_
  refine wE ?_
  exact ⟨Or.inr rfl, [.one (vb true)], (by kernel_rfl), ⟨rfl, rfl⟩⟩
 refine rGz [(0, yp c), (4, xi 0), (19, xb false)] hs4 (zA 1 (qC1 hcall10) (zA 9 (qL 78 2 (.one (.ptr q0 0)) (On.at hs 1 rfl)) (zA 10 (qC1 hr3) (zL 11 (qgtrF H2 (l0.length : Int) 0))))) fun H11 hs12 => ?_
 refine wFk ?_
 refine rRz [(0, yp c), (4, xi 1)] H11 zN ?_
 refine ⟨_, _, rfl, ?_⟩
 refine WpL.step ?_
 refine rs0 [(0, yp c), (4, xi 1), (5, xb true)] ?_
 refine wS (wTk ?_)
 refine wS (wB ?_)
 refine rs0 [(0, yp c), (3, xi 1), (4, xi 1)] ?_
 obtain ⟨_, H14, hr15, rfl, hs16⟩ := len_ok _ (H11 : HH) (On.call [3] [0, 1, 2, 4, 5] (by kernel_rfl) hs12) (q := q1) (room := 64) (l := l1)
 have hs16 : On [R, pts c (.obj (cO ks S hand q0 q1 q2)), kP ks S, gP q2 l2, gP q0 l0, gP q1 l1] H14 := On.flat hs16
 by_cases c18 : (0 : Int) < (l1.length : Int)
 ·
  have hcall19 : Runs pg an 31 [.one (.ptr c 0)] H11 [.one (vb true)] H11 := by
   refine runs_of ?_
   refine rOF Try.func31 rfl ?_
   refine rs0 [(0, yp c)] ?_
   refine rSz [(2, xb true)] H11 (zA 6 (qL 22 0 (.one (rff ks S)) (On.at hs12 1 rfl)) (zA 7 (Jc (H := H11) (s := NI) (t := 22) (ty := 0) (pu := true) (capd := false) (id := ks) (d := 0) (o := 0) (n := S.length) (l := S) (e := (S.length : Int)) (On.at hs12 2 rfl) (by kernel_rfl) (by first | rfl | omega | (simp only [ek_]; omega) | (simp; done) | (simp; omega))) (zL 8 (qgtrT H11 (S.length : Int) 0)))) ?_
   refine wE ?_
   exact ⟨Or.inr rfl, [.one (vb true)], (by kernel_rfl), ⟨rfl, rfl⟩⟩
  refine rGz [(0, yp c), (4, xi 1), (19, xb true)] hs16 (zA 1 (qC1 hcall19) (zA 9 (qL 78 3 (.one (.ptr q1 0)) (On.at hs12 1 rfl)) (zA 10 (qC1 hr15) (zL 11 (qgtrT H14 (l1.length : Int) 0))))) fun H20 hs21 => ?_
  refine wTa ?_
  refine rs0 [(2, xb false)] ?_
  refine wE ?_
  refine ⟨Or.inr rfl, [.one (vb false)], (by kernel_rfl), ?_⟩
  exact .inr ⟨by omega, rfl, (On.pick [0, 1, 2, 4, 5, 3] [] (by kernel_rfl) hs21)⟩
 have hcall22 : Runs pg an 31 [.one (.ptr c 0)] H11 [.one (vb true)] H11 := by
  refine runs_of ?_
  refine rOF Try.func31 rfl ?_
  refine rs0 [(0, yp c)] ?_
  refine rSz [(2, xb true)] H11 (zA 6 (qL 22 0 (.one (rff ks S)) (On.at hs12 1 rfl)) (zA 7 (Jc (H := H11) (s := NI) (t := 22) (ty := 0) (pu := true) (capd := false) (id := ks) (d := 0) (o := 0) (n := S.length) (l := S) (e := (S.length : Int)) (On.at hs12 2 rfl) (by kernel_rfl) (by first | rfl | omega | (simp only [ek_]; omega) | (simp; done) | (simp; omega))) (zL 8 (qgtrT H11 (S.length : Int) 0)))) ?_
  refine wE ?_
  exact ⟨Or.inr rfl, [.one (vb true)], (by kernel_rfl), ⟨rfl, rfl⟩⟩
 refine rGz [(0, yp c), (4, xi 1), (19, xb false)] hs16 (zA 1 (qC1 hcall22) (zA 9 (qL 78 3 (.one (.ptr q1 0)) (On.at hs12 1 rfl)) (zA 10 (qC1 hr15) (zL 11 (qgtrF H14 (l1.length : Int) 0))))) fun H23 hs24 => ?_
 refine wFk ?_
 refine rRz [(0, yp c), (4, xi 2)] H23 zN ?_
 refine ⟨_, _, rfl, ?_⟩
 refine WpL.step ?_
 refine rs0 [(0, yp c), (4, xi 2), (5, xb true)] ?_
 refine wS (wTk ?_)
 refine wS (wB ?_)
 refine rs0 [(0, yp c), (3, xi 2), (4, xi 2)] ?_
 obtain ⟨_, H26, hr27, rfl, hs28⟩ := len_ok _ (H23 : HH) (On.call [3] [0, 1, 2, 4, 5] (by kernel_rfl) hs24) (q := q2) (room := 64) (l := l2)
 have hs28 : On [R, pts c (.obj (cO ks S hand q0 q1 q2)), kP ks S, gP q0 l0, gP q1 l1, gP q2 l2] H26 := On.flat hs28
 by_cases c30 : (0 : Int) < (l2.length : Int)
 ·
  have hcall31 : Runs pg an 31 [.one (.ptr c 0)] H23 [.one (vb true)] H23 := by
   refine runs_of ?_
   refine rOF Try.func31 rfl ?_
   refine rs0 [(0, yp c)] ?_
   refine rSz [(2, xb true)] H23 (zA 6 (qL 22 0 (.one (rff ks S)) (On.at hs24 1 rfl)) (zA 7 (Jc (H := H23) (s := NI) (t := 22) (ty := 0) (pu := true) (capd := false) (id := ks) (d := 0) (o := 0) (n := S.length) (l := S) (e := (S.length : Int)) (On.at hs24 2 rfl) (by kernel_rfl) (by first | rfl | omega | (simp only [ek_]; omega) | (simp; done) | (simp; omega))) (zL 8 (qgtrT H23 (S.length : Int) 0)))) ?_
   refine wE ?_
   exact ⟨Or.inr rfl, [.one (vb true)], (by kernel_rfl), ⟨rfl, rfl⟩⟩
  refine rGz [(0, yp c), (4, xi 2), (19, xb true)] hs28 (zA 1 (qC1 hcall31) (zA 9 (qL 78 4 (.one (.ptr q2 0)) (On.at hs24 1 rfl)) (zA 10 (qC1 hr27) (zL 11 (qgtrT H26 (l2.length : Int) 0))))) fun H32 hs33 => ?_
  refine wTa ?_
  refine rs0 [(2, xb false)] ?_
  refine wE ?_
  refine ⟨Or.inr rfl, [.one (vb false)], (by kernel_rfl), ?_⟩
  exact .inr ⟨by omega, rfl, (On.pick [0, 1, 2, 3, 4, 5] [] (by kernel_rfl) hs33)⟩
 have hcall34 : Runs pg an 31 [.one (.ptr c 0)] H23 [.one (vb true)] H23 := by
  refine runs_of ?_
  refine rOF Try.func31 rfl ?_
  refine rs0 [(0, yp c)] ?_
  refine rSz [(2, xb true)] H23 (zA 6 (qL 22 0 (.one (rff ks S)) (On.at hs24 1 rfl)) (zA 7 (Jc (H := H23) (s := NI) (t := 22) (ty := 0) (pu := true) (capd := false) (id := ks) (d := 0) (o := 0) (n := S.length) (l := S) (e := (S.length : Int)) (On.at hs24 2 rfl) (by kernel_rfl) (by first | rfl | omega | (simp only [ek_]; omega) | (simp; done) | (simp; omega))) (zL 8 (qgtrT H23 (S.length : Int) 0)))) ?_
  refine wE ?_
  exact ⟨Or.inr rfl, [.one (vb true)], (by kernel_rfl), ⟨rfl, rfl⟩⟩
 refine rGz [(0, yp c), (4, xi 2), (19, xb false)] hs28 (zA 1 (qC1 hcall34) (zA 9 (qL 78 4 (.one (.ptr q2 0)) (On.at hs24 1 rfl)) (zA 10 (qC1 hr27) (zL 11 (qgtrF H26 (l2.length : Int) 0))))) fun H35 hs36 => ?_
 refine wFk ?_
 refine rRz [(0, yp c), (4, xi 3)] H35 zN ?_
 refine ⟨_, _, rfl, ?_⟩
 refine WpL.step ?_
 refine rs0 [(0, yp c), (4, xi 3), (5, xb false)] ?_
 refine wS ?_
 refine wFa ?_
 refine wX ?_
 refine Eq.mpr (if_pos rfl) ?_
 refine rs0 [(2, xb true)] ?_
 refine wE ?_
 refine ⟨Or.inr rfl, [.one (vb true)], (by kernel_rfl), ?_⟩
 exact .inl ⟨by omega, rfl, (On.pick [0, 1, 2, 3, 4, 5] [] (by kernel_rfl) hs36)⟩
theorem copy_all (R : HP) (H : HH) (c ks q0 q1 q2 : Nat) (S : List Int) (hand : Int) (l0 l1 l2 : List EN.T) (hs : On [R, pts c (.obj (cO ks S hand q0 q1 q2)), kP ks S, gP q0 l0, gP q1 l1, gP q2 l2] H) (hS : 3 ≤ (S.length : Int)) (hT : (S.length : Int) ≤ 64) (b0 : (l0.length : Int) ≤ 64) (b1 : (l1.length : Int) ≤ 64) (b2 : (l2.length : Int) ≤ 64) : ∃ rs H', Runs pg an 46 [.one (.ptr c 0)] H rs H' ∧ ∃ c' ks' q0' q1' q2', rs = [.one (.ptr c' 0)] ∧ On [R, pts c (.obj (cO ks S hand q0 q1 q2)), kP ks S, gP q0 l0, gP q1 l1, gP q2 l2, pts c' (.obj (cO ks' S hand q0' q1' q2')), kP ks' S, gP q0' l0, gP q1' l1, gP q2' l2] H' := by
 refine rOF Try.func46 rfl ?_
 refine rs0 [(0, yp c)] ?_
 refine wS ?_
 have hcall1 : Runs pg an 31 [.one (.ptr c 0)] H [.one (vb true)] H := by
  refine runs_of ?_
  refine rOF Try.func31 rfl ?_
  refine rs0 [(0, yp c)] ?_
  refine rSz [(2, xb true)] H (zA 6 (qL 22 0 (.one (rff ks S)) (On.at hs 1 rfl)) (zA 7 (Jc (H := H) (s := NI) (t := 22) (ty := 0) (pu := true) (capd := false) (id := ks) (d := 0) (o := 0) (n := S.length) (l := S) (e := (S.length : Int)) (On.at hs 2 rfl) (by kernel_rfl) (by first | rfl | omega | (simp only [ek_]; omega) | (simp; done) | (simp; omega))) (zL 8 (qgtrT H (S.length : Int) 0)))) ?_
  refine wE ?_
  exact ⟨Or.inr rfl, [.one (vb true)], (by kernel_rfl), ⟨rfl, rfl⟩⟩
 refine rSz [(0, yp c), (7, xb false)] H (zL 1 (qC1 hcall1)) ?_
 refine wFk ?_
 obtain ⟨n3, hn3⟩ := lX (hideH [c] H)
 obtain ⟨n5, hn5⟩ := lX (backH [c] H ((hideH [c] H) ++ [rowO NI true 0 S]))
 have hcall6 : Runs pg an 26 [.one (rff ks S)] (hideH [c] H) [.one (rff n3 S)] ((hideH [c] H) ++ [rowO NI true 0 S]) := by
  refine runs_of ?_
  refine rOF Try.func26 rfl ?_
  refine rs0 [(0, .y (.one (rff ks S)))] ?_
  refine wS ?_
  refine rs0 [(0, .y (.one (rff ks S))), (4, xb false)] ?_
  refine wFk ?_
  refine rSz [(2, .y (.one (rff n3 S)))] ((hideH [c] H) ++ [rowO NI true 0 S]) (zL 2 (Jm (H := (hideH [c] H)) (s := NI) (t := 22) (u := 22) (el := 3) (by_ := 8) (z := [vi 0]) (ty := 0) (b' := false) (nil' := false) (pu := true) (puy := true) (m := S.length) (n' := S.length) (k := n3) (nl := 0) (l := ([] : List Int)) (lm := S) (l' := S) (y := rff ks S) hn3 (by first | rfl | omega | (simp only [ek_]; omega) | (simp; done) | (simp; omega)) (by kernel_rfl) (slCells_rowO (H := (hideH [c] H)) (s := NI) (pu := true) (capd := false) (id := ks) (d := 0) (o := 0) (n := S.length) (l := S) (m := S) (On.at (On.hide1 hs 1 rfl) 2 rfl) (by first | rfl | omega | (simp only [ek_]; omega) | (simp; done) | (simp; omega)) (dt0 rfl (Nat.le_refl _))) (by kernel_rfl) (by kernel_rfl) (by kernel_rfl) (by kernel_rfl) (by kernel_rfl) (by kernel_rfl) (by kernel_rfl) (by first | rfl | omega | (simp only [ek_]; omega) | (simp; done) | (simp; omega)) (by first | rfl | omega | (simp only [ek_]; omega) | (simp; done) | (simp; omega)) (by omega) (by omega) (ea_ _) (by first | rfl | omega | (simp only [ej_, ek_]; omega) | (simp; done) | (simp; omega)))) ?_
  refine wE ?_
  exact ⟨Or.inr rfl, [.one (rff n3 S)], (by kernel_rfl), ⟨rfl, rfl⟩⟩
 refine rSq [(3, .y (.one (rff ks S)), H), (4, .y (.one (rff n3 S)), (backH [c] H ((hideH [c] H) ++ [rowO NI true 0 S]))), (8, xi hand, (backH [c] H ((hideH [c] H) ++ [rowO NI true 0 S]))), (10, yp n5, ((backH [c] H ((hideH [c] H) ++ [rowO NI true 0 S])) ++ [.obj [rff n3 S, vi hand, .sc (.pointer none), .sc (.pointer none), .sc (.pointer none)]]))] [(0, yp c), (3, yp n5)] ((backH [c] H ((hideH [c] H) ++ [rowO NI true 0 S])) ++ [.obj [rff n3 S, vi hand, .sc (.pointer none), .sc (.pointer none), .sc (.pointer none)]])
   (cast (Jai (Jg (t := 22) (off := 0) (v := .one (rff ks S)) (On.at hs 1 rfl) (by kernel_rfl)) (Jai (ob_out (M := [c]) (H := H) (H' := ((hideH [c] H) ++ [rowO NI true 0 S])) (H2 := (backH [c] H ((hideH [c] H) ++ [rowO NI true 0 S]))) (mayHide1 (On.at hs 1 rfl) (by have g0 := lt_of_get (On.at hs 2 rfl); have g1 := ring_lt hs 3 rfl; have g2 := ring_lt hs 4 rfl; have g3 := ring_lt hs 5 rfl; simp [O.inH, C.inH, g0, g1, g2, g3])) (Jp hcall6 (by kernel_rfl)) rfl) (Jai (ob_ins (H := (backH [c] H ((hideH [c] H) ++ [rowO NI true 0 S]))) (Jg (t := 3) (off := 1) (v := .one (vi hand)) (onlyH_at (M := [c]) (by simp) (On.at (On.back1 (On.new' hn3 (rowO NI true 0 S) (On.hide1 hs 1 rfl)) 1 rfl (On.at hs 1 rfl)) 1 rfl)) (by kernel_rfl))) (JZ (Jc1 (H := (backH [c] H ((hideH [c] H) ++ [rowO NI true 0 S]))) (t := 83) (ty := 0) (n := n5) (v := .agg [rff n3 S, vi hand, .sc (.pointer none), .sc (.pointer none), .sc (.pointer none)]) (cs := [rff n3 S, vi hand, .sc (.pointer none), .sc (.pointer none), .sc (.pointer none)]) hn5 (by kernel_rfl) (by kernel_rfl) (by kernel_rfl)))))) (by kernel_rfl)) (by kernel_rfl) ?_
 refine wG (On.new' hn5 (.obj [rff n3 S, vi hand, .sc (.pointer none), .sc (.pointer none), .sc (.pointer none)]) (On.back1 (On.new' hn3 (rowO NI true 0 S) (On.hide1 hs 1 rfl)) 1 rfl (On.at hs 1 rfl))) fun H7 hs8 => ?_
 refine wS ?_
 refine rs0 [(0, yp c), (3, yp n5), (19, xi 0)] ?_
 refine wB ?_
 refine Wp.loopU [(0, yp c), (3, yp n5), (19, xi 0)] (some ([0, 3, 19], false)) (List.length H7) (by kernel_rfl) ?_
 refine WpL.step ?_
 refine rs0 [(0, yp c), (3, yp n5), (19, xi 0), (20, xb true)] ?_
 refine wS (wTk ?_)
 refine wS (wB ?_)
 refine rs0 [(0, yp c), (3, yp n5), (4, xi 0), (19, xi 0)] ?_
 obtain ⟨_, H10, hr11, q9, rfl, hs12⟩ := copy_ok _ (H7 : HH) (On.call [3] [0, 1, 2, 4, 5, 6, 7] (by kernel_rfl) hs8) (q := q0) (room := 64) (l := l0)
 have hs12 : On [R, pts c (.obj (cO ks S hand q0 q1 q2)), kP ks S, gP q1 l1, gP q2 l2, kP n3 S, pts n5 (.obj [rff n3 S, vi hand, .sc (.pointer none), .sc (.pointer none), .sc (.pointer none)]), gP q0 l0, gP q9 l0] H10 := On.flat hs12
 refine rHz [(0, yp c), (3, yp n5), (19, xi 0)] (On.put (.obj [rff n3 S, vi hand, .ptr q9 0, .sc (.pointer none), .sc (.pointer none)]) hs12 6 rfl) (zA 8 (qL 78 2 (.one (.ptr q0 0)) (On.at hs8 1 rfl)) (zA 9 (qC1 hr11) (zL 14 (qS 80 2 (.agg [.ptr q9 0]) (On.at hs12 6 rfl))))) fun H13 hs14 => ?_
 refine wK ?_
 refine rRz [(0, yp c), (3, yp n5), (19, xi 1)] H13 zN ?_
 refine ⟨_, _, rfl, ?_⟩
 refine WpL.step ?_
 refine rs0 [(0, yp c), (3, yp n5), (19, xi 1), (20, xb true)] ?_
 refine wS (wTk ?_)
 refine wS (wB ?_)
 refine rs0 [(0, yp c), (3, yp n5), (4, xi 1), (19, xi 1)] ?_
 obtain ⟨_, H16, hr17, q15, rfl, hs18⟩ := copy_ok _ (H13 : HH) (On.call [3] [0, 1, 2, 4, 5, 6, 7, 8] (by kernel_rfl) hs14) (q := q1) (room := 64) (l := l1)
 have hs18 : On [R, pts c (.obj (cO ks S hand q0 q1 q2)), kP ks S, gP q2 l2, kP n3 S, pts n5 (.obj [rff n3 S, vi hand, .ptr q9 0, .sc (.pointer none), .sc (.pointer none)]), gP q0 l0, gP q9 l0, gP q1 l1, gP q15 l1] H16 := On.flat hs18
 refine rHz [(0, yp c), (3, yp n5), (19, xi 1)] (On.put (.obj [rff n3 S, vi hand, .ptr q9 0, .ptr q15 0, .sc (.pointer none)]) hs18 5 rfl) (zA 8 (qL 78 3 (.one (.ptr q1 0)) (On.at hs14 1 rfl)) (zA 9 (qC1 hr17) (zL 14 (qS 80 3 (.agg [.ptr q15 0]) (On.at hs18 5 rfl))))) fun H19 hs20 => ?_
 refine wK ?_
 refine rRz [(0, yp c), (3, yp n5), (19, xi 2)] H19 zN ?_
 refine ⟨_, _, rfl, ?_⟩
 refine WpL.step ?_
 refine rs0 [(0, yp c), (3, yp n5), (19, xi 2), (20, xb true)] ?_
 refine wS (wTk ?_)
 refine wS (wB ?_)
 refine rs0 [(0, yp c), (3, yp n5), (4, xi 2), (19, xi 2)] ?_
 obtain ⟨_, H22, hr23, q21, rfl, hs24⟩ := copy_ok _ (H19 : HH) (On.call [3] [0, 1, 2, 4, 5, 6, 7, 8, 9] (by kernel_rfl) hs20) (q := q2) (room := 64) (l := l2)
 have hs24 : On [R, pts c (.obj (cO ks S hand q0 q1 q2)), kP ks S, kP n3 S, pts n5 (.obj [rff n3 S, vi hand, .ptr q9 0, .ptr q15 0, .sc (.pointer none)]), gP q0 l0, gP q9 l0, gP q1 l1, gP q15 l1, gP q2 l2, gP q21 l2] H22 := On.flat hs24
 refine rHz [(0, yp c), (3, yp n5), (19, xi 2)] (On.put (.obj (cO n3 S hand q9 q15 q21)) hs24 4 rfl) (zA 8 (qL 78 4 (.one (.ptr q2 0)) (On.at hs20 1 rfl)) (zA 9 (qC1 hr23) (zL 14 (qS 80 4 (.agg [.ptr q21 0]) (On.at hs24 4 rfl))))) fun H25 hs26 => ?_
 refine wK ?_
 refine rRz [(0, yp c), (3, yp n5), (19, xi 3)] H25 zN ?_
 refine ⟨_, _, rfl, ?_⟩
 refine WpL.step ?_
 refine rs0 [(0, yp c), (3, yp n5), (19, xi 3), (20, xb false)] ?_
 refine wS ?_
 refine wFa ?_
 refine wX ?_
 refine Eq.mpr (if_pos rfl) ?_
 refine rs0 [(2, yp n5)] ?_
 refine wE ?_
 refine ⟨Or.inr rfl, [.one (.ptr n5 0)], (by kernel_rfl), ?_⟩
 exact ⟨n5, n3, q9, q15, q21, rfl, (On.pick [0, 1, 2, 5, 7, 9, 4, 3, 6, 8, 10] [] (by kernel_rfl) hs26)⟩
end Go.Proofs.Ytjdnhbnpdbpgbaa
