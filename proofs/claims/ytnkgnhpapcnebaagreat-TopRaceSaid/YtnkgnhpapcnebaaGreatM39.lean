/- The collector's step, by its stage. -/
import Derived.Test.YtnkgnhpapcnebaaGreatM37
import Derived.Test.YtnkgnhpapcnebaaGreatM38
import Derived.Test.YtnkgnhpapcnebaaGreatM23
set_option linter.unusedVariables false
set_option linter.unusedSimpArgs false
set_option maxHeartbeats 8000000
namespace Go.Proofs.YtnkgnhpapcnebaaGreat
open Go.RowKit
attribute [local go_sem] run_store_complex via_ret via_normal via_exit via_panic
section
variable {b : Nat} {y : Yc} {Kt : Thing} {S : Nat → Prop} {w w' : World} {A : CA} {c : Cf} {q : Q} {α : Type} {O' : α → Thing} {p : α → Prop}
set_option maxRecDepth 100000 in
theorem cy_step1 (hst : y.st = 1)
    (hW : ∀ sp w, Does Tryz.prog 43 #[.pointer (some ⟨b, 0, none⟩), .pointer (some ⟨A.b, 0, none⟩)] w (Sep (Core A c q) (Cyc b { y with sp := sp } Kt)) (fun r e => e = .returned (.tuple #[]) ∧ p r) O') :
    ∀ w, Does Tryz.prog 15 #[.pointer (some ⟨b, 0, none⟩), .pointer (some ⟨A.b, 0, none⟩)] w (Sep (Core A c q) (Cyc b y Kt)) (fun r e => e = .returned (.tuple #[]) ∧ p r) O' := by
  intro w S h
  have g0 := Goes.begin h
  have c13 := g0.r.c 13 (v := .int .i64 0) rfl
  have c8 := g0.r.c 8 (v := .int .i64 y.sd) rfl
  have c0 := g0.r.c 0 (v := .int .i64 y.st) rfl
  rw [hst] at c0
  have HW := Lib.hid hW
  clear h hW
  by_cases hsd : 0 < y.sd
  · have c12 := g0.r.c 12 (v := .int .i64 y.sp) rfl
    have f12 := g0.r.fr 12
    have g1 : Goes (Sep (Core A c q) (Cyc b { y with sp := wrap64 (y.sp + 1) } Kt)) S w _ := g0.then fun S h => goesR (fun S h => (Goes.begin h).put 12 (.int .i64 (wrap64 (y.sp + 1))) (cs' := cyCells { y with sp := wrap64 (y.sp + 1) }) rfl) S h
    have HG := Lib.hid g1
    clear g0 g1
    go_enter Tryz.func15, Tryz.ntmps15
    go_upto_region 3 with fail
    generalize World.setCell _ _ _ = w1 at *
    clear c13 c8 c0 c12 f12 hsd
    have c0 := HG.out.r.c 0 (v := .int .i64 y.st) rfl
    rw [hst] at c0
    have HC := Lib.hid ((HW.out _ _).on HG.out)
    clear HG HW
    go_wp2_with fail
    with_reducible refine HC.out.mono ?_
    rintro e w2 ⟨r, ⟨rfl, hp⟩, hg⟩
    have HP := Lib.hid hp
    have HG := Lib.hid hg
    clear HC hp hg c0
    go_wp2_with fail
    first | go_end0 | ((try simp only [Exit.inBlock, Exit.then]); refine bodyPost_ret (results_none rfl _ _ _) rfl ?_)
    exact ⟨r, ⟨rfl, HP.out⟩, HG.out⟩
  · have hd : decide (0 < y.sd) = false := by simpa using hsd
    have HC := Lib.hid ((HW.out y.sp _).on g0)
    clear g0 HW
    go_enter Tryz.func15, Tryz.ntmps15
    go_wp2_with fail
    with_reducible refine HC.out.mono ?_
    rintro e w2 ⟨r, ⟨rfl, hp⟩, hg⟩
    have HP := Lib.hid hp
    have HG := Lib.hid hg
    clear HC hp hg c0 c13 c8
    go_wp2_with fail
    first | go_end0 | ((try simp only [Exit.inBlock, Exit.then]); refine bodyPost_ret (results_none rfl _ _ _) rfl ?_)
    exact ⟨r, ⟨rfl, HP.out⟩, HG.out⟩
set_option maxRecDepth 100000 in
theorem cy_step2 (hst : y.st = 2)
    (hW : ∀ sp w, Does Tryz.prog 44 #[.pointer (some ⟨b, 0, none⟩), .pointer (some ⟨A.b, 0, none⟩), .int .i64 2, .int .i64 3] w (Sep (Core A c q) (Cyc b { y with sp := sp } Kt)) (fun r e => e = .returned (.tuple #[]) ∧ p r) O') :
    ∀ w, Does Tryz.prog 15 #[.pointer (some ⟨b, 0, none⟩), .pointer (some ⟨A.b, 0, none⟩)] w (Sep (Core A c q) (Cyc b y Kt)) (fun r e => e = .returned (.tuple #[]) ∧ p r) O' := by
  intro w S h
  have g0 := Goes.begin h
  have c13 := g0.r.c 13 (v := .int .i64 0) rfl
  have c8 := g0.r.c 8 (v := .int .i64 y.sd) rfl
  have c0 := g0.r.c 0 (v := .int .i64 y.st) rfl
  rw [hst] at c0
  have HW := Lib.hid hW
  clear h hW
  by_cases hsd : 0 < y.sd
  · have c12 := g0.r.c 12 (v := .int .i64 y.sp) rfl
    have f12 := g0.r.fr 12
    have g1 : Goes (Sep (Core A c q) (Cyc b { y with sp := wrap64 (y.sp + 1) } Kt)) S w _ := g0.then fun S h => goesR (fun S h => (Goes.begin h).put 12 (.int .i64 (wrap64 (y.sp + 1))) (cs' := cyCells { y with sp := wrap64 (y.sp + 1) }) rfl) S h
    have HG := Lib.hid g1
    clear g0 g1
    go_enter Tryz.func15, Tryz.ntmps15
    go_upto_region 3 with fail
    generalize World.setCell _ _ _ = w1 at *
    clear c13 c8 c0 c12 f12 hsd
    have c0 := HG.out.r.c 0 (v := .int .i64 y.st) rfl
    rw [hst] at c0
    have HC := Lib.hid ((HW.out _ _).on HG.out)
    clear HG HW
    go_wp2_with fail
    with_reducible refine HC.out.mono ?_
    rintro e w2 ⟨r, ⟨rfl, hp⟩, hg⟩
    have HP := Lib.hid hp
    have HG := Lib.hid hg
    clear HC hp hg c0
    go_wp2_with fail
    first | go_end0 | ((try simp only [Exit.inBlock, Exit.then]); refine bodyPost_ret (results_none rfl _ _ _) rfl ?_)
    exact ⟨r, ⟨rfl, HP.out⟩, HG.out⟩
  · have hd : decide (0 < y.sd) = false := by simpa using hsd
    have HC := Lib.hid ((HW.out y.sp _).on g0)
    clear g0 HW
    go_enter Tryz.func15, Tryz.ntmps15
    go_wp2_with fail
    with_reducible refine HC.out.mono ?_
    rintro e w2 ⟨r, ⟨rfl, hp⟩, hg⟩
    have HP := Lib.hid hp
    have HG := Lib.hid hg
    clear HC hp hg c0 c13 c8
    go_wp2_with fail
    first | go_end0 | ((try simp only [Exit.inBlock, Exit.then]); refine bodyPost_ret (results_none rfl _ _ _) rfl ?_)
    exact ⟨r, ⟨rfl, HP.out⟩, HG.out⟩
set_option maxRecDepth 100000 in
theorem cy_step3 (hst : y.st = 3)
    (hW : ∀ sp w, Does Tryz.prog 44 #[.pointer (some ⟨b, 0, none⟩), .pointer (some ⟨A.b, 0, none⟩), .int .i64 3, .int .i64 4] w (Sep (Core A c q) (Cyc b { y with sp := sp } Kt)) (fun r e => e = .returned (.tuple #[]) ∧ p r) O') :
    ∀ w, Does Tryz.prog 15 #[.pointer (some ⟨b, 0, none⟩), .pointer (some ⟨A.b, 0, none⟩)] w (Sep (Core A c q) (Cyc b y Kt)) (fun r e => e = .returned (.tuple #[]) ∧ p r) O' := by
  intro w S h
  have g0 := Goes.begin h
  have c13 := g0.r.c 13 (v := .int .i64 0) rfl
  have c8 := g0.r.c 8 (v := .int .i64 y.sd) rfl
  have c0 := g0.r.c 0 (v := .int .i64 y.st) rfl
  rw [hst] at c0
  have HW := Lib.hid hW
  clear h hW
  by_cases hsd : 0 < y.sd
  · have c12 := g0.r.c 12 (v := .int .i64 y.sp) rfl
    have f12 := g0.r.fr 12
    have g1 : Goes (Sep (Core A c q) (Cyc b { y with sp := wrap64 (y.sp + 1) } Kt)) S w _ := g0.then fun S h => goesR (fun S h => (Goes.begin h).put 12 (.int .i64 (wrap64 (y.sp + 1))) (cs' := cyCells { y with sp := wrap64 (y.sp + 1) }) rfl) S h
    have HG := Lib.hid g1
    clear g0 g1
    go_enter Tryz.func15, Tryz.ntmps15
    go_upto_region 3 with fail
    generalize World.setCell _ _ _ = w1 at *
    clear c13 c8 c0 c12 f12 hsd
    have c0 := HG.out.r.c 0 (v := .int .i64 y.st) rfl
    rw [hst] at c0
    have HC := Lib.hid ((HW.out _ _).on HG.out)
    clear HG HW
    go_wp2_with fail
    with_reducible refine HC.out.mono ?_
    rintro e w2 ⟨r, ⟨rfl, hp⟩, hg⟩
    have HP := Lib.hid hp
    have HG := Lib.hid hg
    clear HC hp hg c0
    go_wp2_with fail
    first | go_end0 | ((try simp only [Exit.inBlock, Exit.then]); refine bodyPost_ret (results_none rfl _ _ _) rfl ?_)
    exact ⟨r, ⟨rfl, HP.out⟩, HG.out⟩
  · have hd : decide (0 < y.sd) = false := by simpa using hsd
    have HC := Lib.hid ((HW.out y.sp _).on g0)
    clear g0 HW
    go_enter Tryz.func15, Tryz.ntmps15
    go_wp2_with fail
    with_reducible refine HC.out.mono ?_
    rintro e w2 ⟨r, ⟨rfl, hp⟩, hg⟩
    have HP := Lib.hid hp
    have HG := Lib.hid hg
    clear HC hp hg c0 c13 c8
    go_wp2_with fail
    first | go_end0 | ((try simp only [Exit.inBlock, Exit.then]); refine bodyPost_ret (results_none rfl _ _ _) rfl ?_)
    exact ⟨r, ⟨rfl, HP.out⟩, HG.out⟩
set_option maxRecDepth 100000 in
theorem cy_step4 (hst : y.st = 4)
    (hW : ∀ sp w, Does Tryz.prog 45 #[.pointer (some ⟨b, 0, none⟩), .pointer (some ⟨A.b, 0, none⟩)] w (Sep (Core A c q) (Cyc b { y with sp := sp } Kt)) (fun r e => e = .returned (.tuple #[]) ∧ p r) O') :
    ∀ w, Does Tryz.prog 15 #[.pointer (some ⟨b, 0, none⟩), .pointer (some ⟨A.b, 0, none⟩)] w (Sep (Core A c q) (Cyc b y Kt)) (fun r e => e = .returned (.tuple #[]) ∧ p r) O' := by
  intro w S h
  have g0 := Goes.begin h
  have c13 := g0.r.c 13 (v := .int .i64 0) rfl
  have c8 := g0.r.c 8 (v := .int .i64 y.sd) rfl
  have c0 := g0.r.c 0 (v := .int .i64 y.st) rfl
  rw [hst] at c0
  have HW := Lib.hid hW
  clear h hW
  by_cases hsd : 0 < y.sd
  · have c12 := g0.r.c 12 (v := .int .i64 y.sp) rfl
    have f12 := g0.r.fr 12
    have g1 : Goes (Sep (Core A c q) (Cyc b { y with sp := wrap64 (y.sp + 1) } Kt)) S w _ := g0.then fun S h => goesR (fun S h => (Goes.begin h).put 12 (.int .i64 (wrap64 (y.sp + 1))) (cs' := cyCells { y with sp := wrap64 (y.sp + 1) }) rfl) S h
    have HG := Lib.hid g1
    clear g0 g1
    go_enter Tryz.func15, Tryz.ntmps15
    go_upto_region 3 with fail
    generalize World.setCell _ _ _ = w1 at *
    clear c13 c8 c0 c12 f12 hsd
    have c0 := HG.out.r.c 0 (v := .int .i64 y.st) rfl
    rw [hst] at c0
    have HC := Lib.hid ((HW.out _ _).on HG.out)
    clear HG HW
    go_wp2_with fail
    with_reducible refine HC.out.mono ?_
    rintro e w2 ⟨r, ⟨rfl, hp⟩, hg⟩
    have HP := Lib.hid hp
    have HG := Lib.hid hg
    clear HC hp hg c0
    go_wp2_with fail
    first | go_end0 | ((try simp only [Exit.inBlock, Exit.then]); refine bodyPost_ret (results_none rfl _ _ _) rfl ?_)
    exact ⟨r, ⟨rfl, HP.out⟩, HG.out⟩
  · have hd : decide (0 < y.sd) = false := by simpa using hsd
    have HC := Lib.hid ((HW.out y.sp _).on g0)
    clear g0 HW
    go_enter Tryz.func15, Tryz.ntmps15
    go_wp2_with fail
    with_reducible refine HC.out.mono ?_
    rintro e w2 ⟨r, ⟨rfl, hp⟩, hg⟩
    have HP := Lib.hid hp
    have HG := Lib.hid hg
    clear HC hp hg c0 c13 c8
    go_wp2_with fail
    first | go_end0 | ((try simp only [Exit.inBlock, Exit.then]); refine bodyPost_ret (results_none rfl _ _ _) rfl ?_)
    exact ⟨r, ⟨rfl, HP.out⟩, HG.out⟩
set_option maxRecDepth 100000 in
theorem cy_step5 (hst : y.st = 5)
    (hW : ∀ sp w, Does Tryz.prog 46 #[.pointer (some ⟨b, 0, none⟩), .pointer (some ⟨A.b, 0, none⟩)] w (Sep (Core A c q) (Cyc b { y with sp := sp } Kt)) (fun r e => e = .returned (.tuple #[]) ∧ p r) O') :
    ∀ w, Does Tryz.prog 15 #[.pointer (some ⟨b, 0, none⟩), .pointer (some ⟨A.b, 0, none⟩)] w (Sep (Core A c q) (Cyc b y Kt)) (fun r e => e = .returned (.tuple #[]) ∧ p r) O' := by
  intro w S h
  have g0 := Goes.begin h
  have c13 := g0.r.c 13 (v := .int .i64 0) rfl
  have c8 := g0.r.c 8 (v := .int .i64 y.sd) rfl
  have c0 := g0.r.c 0 (v := .int .i64 y.st) rfl
  rw [hst] at c0
  have HW := Lib.hid hW
  clear h hW
  by_cases hsd : 0 < y.sd
  · have c12 := g0.r.c 12 (v := .int .i64 y.sp) rfl
    have f12 := g0.r.fr 12
    have g1 : Goes (Sep (Core A c q) (Cyc b { y with sp := wrap64 (y.sp + 1) } Kt)) S w _ := g0.then fun S h => goesR (fun S h => (Goes.begin h).put 12 (.int .i64 (wrap64 (y.sp + 1))) (cs' := cyCells { y with sp := wrap64 (y.sp + 1) }) rfl) S h
    have HG := Lib.hid g1
    clear g0 g1
    go_enter Tryz.func15, Tryz.ntmps15
    go_upto_region 3 with fail
    generalize World.setCell _ _ _ = w1 at *
    clear c13 c8 c0 c12 f12 hsd
    have c0 := HG.out.r.c 0 (v := .int .i64 y.st) rfl
    rw [hst] at c0
    have HC := Lib.hid ((HW.out _ _).on HG.out)
    clear HG HW
    go_wp2_with fail
    with_reducible refine HC.out.mono ?_
    rintro e w2 ⟨r, ⟨rfl, hp⟩, hg⟩
    have HP := Lib.hid hp
    have HG := Lib.hid hg
    clear HC hp hg c0
    go_wp2_with fail
    first | go_end0 | ((try simp only [Exit.inBlock, Exit.then]); refine bodyPost_ret (results_none rfl _ _ _) rfl ?_)
    exact ⟨r, ⟨rfl, HP.out⟩, HG.out⟩
  · have hd : decide (0 < y.sd) = false := by simpa using hsd
    have HC := Lib.hid ((HW.out y.sp _).on g0)
    clear g0 HW
    go_enter Tryz.func15, Tryz.ntmps15
    go_wp2_with fail
    with_reducible refine HC.out.mono ?_
    rintro e w2 ⟨r, ⟨rfl, hp⟩, hg⟩
    have HP := Lib.hid hp
    have HG := Lib.hid hg
    clear HC hp hg c0 c13 c8
    go_wp2_with fail
    first | go_end0 | ((try simp only [Exit.inBlock, Exit.then]); refine bodyPost_ret (results_none rfl _ _ _) rfl ?_)
    exact ⟨r, ⟨rfl, HP.out⟩, HG.out⟩
set_option maxRecDepth 100000 in
theorem cy_step6 (hst : y.st = 6)
    (hW : ∀ sp w, Does Tryz.prog 47 #[.pointer (some ⟨b, 0, none⟩), .pointer (some ⟨A.b, 0, none⟩)] w (Sep (Core A c q) (Cyc b { y with sp := sp } Kt)) (fun r e => e = .returned (.tuple #[]) ∧ p r) O') :
    ∀ w, Does Tryz.prog 15 #[.pointer (some ⟨b, 0, none⟩), .pointer (some ⟨A.b, 0, none⟩)] w (Sep (Core A c q) (Cyc b y Kt)) (fun r e => e = .returned (.tuple #[]) ∧ p r) O' := by
  intro w S h
  have g0 := Goes.begin h
  have c13 := g0.r.c 13 (v := .int .i64 0) rfl
  have c8 := g0.r.c 8 (v := .int .i64 y.sd) rfl
  have c0 := g0.r.c 0 (v := .int .i64 y.st) rfl
  rw [hst] at c0
  have HW := Lib.hid hW
  clear h hW
  by_cases hsd : 0 < y.sd
  · have c12 := g0.r.c 12 (v := .int .i64 y.sp) rfl
    have f12 := g0.r.fr 12
    have g1 : Goes (Sep (Core A c q) (Cyc b { y with sp := wrap64 (y.sp + 1) } Kt)) S w _ := g0.then fun S h => goesR (fun S h => (Goes.begin h).put 12 (.int .i64 (wrap64 (y.sp + 1))) (cs' := cyCells { y with sp := wrap64 (y.sp + 1) }) rfl) S h
    have HG := Lib.hid g1
    clear g0 g1
    go_enter Tryz.func15, Tryz.ntmps15
    go_upto_region 3 with fail
    generalize World.setCell _ _ _ = w1 at *
    clear c13 c8 c0 c12 f12 hsd
    have c0 := HG.out.r.c 0 (v := .int .i64 y.st) rfl
    rw [hst] at c0
    have HC := Lib.hid ((HW.out _ _).on HG.out)
    clear HG HW
    go_wp2_with fail
    with_reducible refine HC.out.mono ?_
    rintro e w2 ⟨r, ⟨rfl, hp⟩, hg⟩
    have HP := Lib.hid hp
    have HG := Lib.hid hg
    clear HC hp hg c0
    go_wp2_with fail
    first | go_end0 | ((try simp only [Exit.inBlock, Exit.then]); refine bodyPost_ret (results_none rfl _ _ _) rfl ?_)
    exact ⟨r, ⟨rfl, HP.out⟩, HG.out⟩
  · have hd : decide (0 < y.sd) = false := by simpa using hsd
    have HC := Lib.hid ((HW.out y.sp _).on g0)
    clear g0 HW
    go_enter Tryz.func15, Tryz.ntmps15
    go_wp2_with fail
    with_reducible refine HC.out.mono ?_
    rintro e w2 ⟨r, ⟨rfl, hp⟩, hg⟩
    have HP := Lib.hid hp
    have HG := Lib.hid hg
    clear HC hp hg c0 c13 c8
    go_wp2_with fail
    first | go_end0 | ((try simp only [Exit.inBlock, Exit.then]); refine bodyPost_ret (results_none rfl _ _ _) rfl ?_)
    exact ⟨r, ⟨rfl, HP.out⟩, HG.out⟩
set_option maxRecDepth 100000 in
theorem cy_step7 (hst : y.st = 7)
    (hW : ∀ sp w, Does Tryz.prog 48 #[.pointer (some ⟨b, 0, none⟩), .pointer (some ⟨A.b, 0, none⟩)] w (Sep (Core A c q) (Cyc b { y with sp := sp } Kt)) (fun r e => e = .returned (.tuple #[]) ∧ p r) O') :
    ∀ w, Does Tryz.prog 15 #[.pointer (some ⟨b, 0, none⟩), .pointer (some ⟨A.b, 0, none⟩)] w (Sep (Core A c q) (Cyc b y Kt)) (fun r e => e = .returned (.tuple #[]) ∧ p r) O' := by
  intro w S h
  have g0 := Goes.begin h
  have c13 := g0.r.c 13 (v := .int .i64 0) rfl
  have c8 := g0.r.c 8 (v := .int .i64 y.sd) rfl
  have c0 := g0.r.c 0 (v := .int .i64 y.st) rfl
  rw [hst] at c0
  have HW := Lib.hid hW
  clear h hW
  by_cases hsd : 0 < y.sd
  · have c12 := g0.r.c 12 (v := .int .i64 y.sp) rfl
    have f12 := g0.r.fr 12
    have g1 : Goes (Sep (Core A c q) (Cyc b { y with sp := wrap64 (y.sp + 1) } Kt)) S w _ := g0.then fun S h => goesR (fun S h => (Goes.begin h).put 12 (.int .i64 (wrap64 (y.sp + 1))) (cs' := cyCells { y with sp := wrap64 (y.sp + 1) }) rfl) S h
    have HG := Lib.hid g1
    clear g0 g1
    go_enter Tryz.func15, Tryz.ntmps15
    go_upto_region 3 with fail
    generalize World.setCell _ _ _ = w1 at *
    clear c13 c8 c0 c12 f12 hsd
    have c0 := HG.out.r.c 0 (v := .int .i64 y.st) rfl
    rw [hst] at c0
    have HC := Lib.hid ((HW.out _ _).on HG.out)
    clear HG HW
    go_wp2_with fail
    with_reducible refine HC.out.mono ?_
    rintro e w2 ⟨r, ⟨rfl, hp⟩, hg⟩
    have HP := Lib.hid hp
    have HG := Lib.hid hg
    clear HC hp hg c0
    go_wp2_with fail
    first | go_end0 | ((try simp only [Exit.inBlock, Exit.then]); refine bodyPost_ret (results_none rfl _ _ _) rfl ?_)
    exact ⟨r, ⟨rfl, HP.out⟩, HG.out⟩
  · have hd : decide (0 < y.sd) = false := by simpa using hsd
    have HC := Lib.hid ((HW.out y.sp _).on g0)
    clear g0 HW
    go_enter Tryz.func15, Tryz.ntmps15
    go_wp2_with fail
    with_reducible refine HC.out.mono ?_
    rintro e w2 ⟨r, ⟨rfl, hp⟩, hg⟩
    have HP := Lib.hid hp
    have HG := Lib.hid hg
    clear HC hp hg c0 c13 c8
    go_wp2_with fail
    first | go_end0 | ((try simp only [Exit.inBlock, Exit.then]); refine bodyPost_ret (results_none rfl _ _ _) rfl ?_)
    exact ⟨r, ⟨rfl, HP.out⟩, HG.out⟩
set_option maxRecDepth 100000 in
theorem cy_step8 (hst : y.st = 8)
    (hW : ∀ sp w, Does Tryz.prog 49 #[.pointer (some ⟨b, 0, none⟩), .pointer (some ⟨A.b, 0, none⟩)] w (Sep (Core A c q) (Cyc b { y with sp := sp } Kt)) (fun r e => e = .returned (.tuple #[]) ∧ p r) O') :
    ∀ w, Does Tryz.prog 15 #[.pointer (some ⟨b, 0, none⟩), .pointer (some ⟨A.b, 0, none⟩)] w (Sep (Core A c q) (Cyc b y Kt)) (fun r e => e = .returned (.tuple #[]) ∧ p r) O' := by
  intro w S h
  have g0 := Goes.begin h
  have c13 := g0.r.c 13 (v := .int .i64 0) rfl
  have c8 := g0.r.c 8 (v := .int .i64 y.sd) rfl
  have c0 := g0.r.c 0 (v := .int .i64 y.st) rfl
  rw [hst] at c0
  have HW := Lib.hid hW
  clear h hW
  by_cases hsd : 0 < y.sd
  · have c12 := g0.r.c 12 (v := .int .i64 y.sp) rfl
    have f12 := g0.r.fr 12
    have g1 : Goes (Sep (Core A c q) (Cyc b { y with sp := wrap64 (y.sp + 1) } Kt)) S w _ := g0.then fun S h => goesR (fun S h => (Goes.begin h).put 12 (.int .i64 (wrap64 (y.sp + 1))) (cs' := cyCells { y with sp := wrap64 (y.sp + 1) }) rfl) S h
    have HG := Lib.hid g1
    clear g0 g1
    go_enter Tryz.func15, Tryz.ntmps15
    go_upto_region 3 with fail
    generalize World.setCell _ _ _ = w1 at *
    clear c13 c8 c0 c12 f12 hsd
    have c0 := HG.out.r.c 0 (v := .int .i64 y.st) rfl
    rw [hst] at c0
    have HC := Lib.hid ((HW.out _ _).on HG.out)
    clear HG HW
    go_wp2_with fail
    with_reducible refine HC.out.mono ?_
    rintro e w2 ⟨r, ⟨rfl, hp⟩, hg⟩
    have HP := Lib.hid hp
    have HG := Lib.hid hg
    clear HC hp hg c0
    go_wp2_with fail
    first | go_end0 | ((try simp only [Exit.inBlock, Exit.then]); refine bodyPost_ret (results_none rfl _ _ _) rfl ?_)
    exact ⟨r, ⟨rfl, HP.out⟩, HG.out⟩
  · have hd : decide (0 < y.sd) = false := by simpa using hsd
    have HC := Lib.hid ((HW.out y.sp _).on g0)
    clear g0 HW
    go_enter Tryz.func15, Tryz.ntmps15
    go_wp2_with fail
    with_reducible refine HC.out.mono ?_
    rintro e w2 ⟨r, ⟨rfl, hp⟩, hg⟩
    have HP := Lib.hid hp
    have HG := Lib.hid hg
    clear HC hp hg c0 c13 c8
    go_wp2_with fail
    first | go_end0 | ((try simp only [Exit.inBlock, Exit.then]); refine bodyPost_ret (results_none rfl _ _ _) rfl ?_)
    exact ⟨r, ⟨rfl, HP.out⟩, HG.out⟩
set_option maxRecDepth 100000 in
theorem cy_step9 (hst : y.st = 9)
    (hW : ∀ sp w, Does Tryz.prog 50 #[.pointer (some ⟨b, 0, none⟩), .pointer (some ⟨A.b, 0, none⟩)] w (Sep (Core A c q) (Cyc b { y with sp := sp } Kt)) (fun r e => e = .returned (.tuple #[]) ∧ p r) O') :
    ∀ w, Does Tryz.prog 15 #[.pointer (some ⟨b, 0, none⟩), .pointer (some ⟨A.b, 0, none⟩)] w (Sep (Core A c q) (Cyc b y Kt)) (fun r e => e = .returned (.tuple #[]) ∧ p r) O' := by
  intro w S h
  have g0 := Goes.begin h
  have c13 := g0.r.c 13 (v := .int .i64 0) rfl
  have c8 := g0.r.c 8 (v := .int .i64 y.sd) rfl
  have c0 := g0.r.c 0 (v := .int .i64 y.st) rfl
  rw [hst] at c0
  have HW := Lib.hid hW
  clear h hW
  by_cases hsd : 0 < y.sd
  · have c12 := g0.r.c 12 (v := .int .i64 y.sp) rfl
    have f12 := g0.r.fr 12
    have g1 : Goes (Sep (Core A c q) (Cyc b { y with sp := wrap64 (y.sp + 1) } Kt)) S w _ := g0.then fun S h => goesR (fun S h => (Goes.begin h).put 12 (.int .i64 (wrap64 (y.sp + 1))) (cs' := cyCells { y with sp := wrap64 (y.sp + 1) }) rfl) S h
    have HG := Lib.hid g1
    clear g0 g1
    go_enter Tryz.func15, Tryz.ntmps15
    go_upto_region 3 with fail
    generalize World.setCell _ _ _ = w1 at *
    clear c13 c8 c0 c12 f12 hsd
    have c0 := HG.out.r.c 0 (v := .int .i64 y.st) rfl
    rw [hst] at c0
    have HC := Lib.hid ((HW.out _ _).on HG.out)
    clear HG HW
    go_wp2_with fail
    with_reducible refine HC.out.mono ?_
    rintro e w2 ⟨r, ⟨rfl, hp⟩, hg⟩
    have HP := Lib.hid hp
    have HG := Lib.hid hg
    clear HC hp hg c0
    go_wp2_with fail
    first | go_end0 | ((try simp only [Exit.inBlock, Exit.then]); refine bodyPost_ret (results_none rfl _ _ _) rfl ?_)
    exact ⟨r, ⟨rfl, HP.out⟩, HG.out⟩
  · have hd : decide (0 < y.sd) = false := by simpa using hsd
    have HC := Lib.hid ((HW.out y.sp _).on g0)
    clear g0 HW
    go_enter Tryz.func15, Tryz.ntmps15
    go_wp2_with fail
    with_reducible refine HC.out.mono ?_
    rintro e w2 ⟨r, ⟨rfl, hp⟩, hg⟩
    have HP := Lib.hid hp
    have HG := Lib.hid hg
    clear HC hp hg c0 c13 c8
    go_wp2_with fail
    first | go_end0 | ((try simp only [Exit.inBlock, Exit.then]); refine bodyPost_ret (results_none rfl _ _ _) rfl ?_)
    exact ⟨r, ⟨rfl, HP.out⟩, HG.out⟩
set_option maxRecDepth 100000 in
theorem cy_step10 (h0 : ¬ y.st = 0) (h1 : ¬ y.st = 1) (h2 : ¬ y.st = 2) (h3 : ¬ y.st = 3) (h4 : ¬ y.st = 4) (h5 : ¬ y.st = 5) (h6 : ¬ y.st = 6) (h7 : ¬ y.st = 7) (h8 : ¬ y.st = 8) (h9 : ¬ y.st = 9)
    (hW : ∀ sp w, Does Tryz.prog 51 #[.pointer (some ⟨b, 0, none⟩), .pointer (some ⟨A.b, 0, none⟩)] w (Sep (Core A c q) (Cyc b { y with sp := sp } Kt)) (fun r e => e = .returned (.tuple #[]) ∧ p r) O') :
    ∀ w, Does Tryz.prog 15 #[.pointer (some ⟨b, 0, none⟩), .pointer (some ⟨A.b, 0, none⟩)] w (Sep (Core A c q) (Cyc b y Kt)) (fun r e => e = .returned (.tuple #[]) ∧ p r) O' := by
  intro w S h
  have g0 := Goes.begin h
  have c13 := g0.r.c 13 (v := .int .i64 0) rfl
  have c8 := g0.r.c 8 (v := .int .i64 y.sd) rfl
  have c0 := g0.r.c 0 (v := .int .i64 y.st) rfl
  skip
  have HW := Lib.hid hW
  clear h hW
  by_cases hsd : 0 < y.sd
  · have c12 := g0.r.c 12 (v := .int .i64 y.sp) rfl
    have f12 := g0.r.fr 12
    have g1 : Goes (Sep (Core A c q) (Cyc b { y with sp := wrap64 (y.sp + 1) } Kt)) S w _ := g0.then fun S h => goesR (fun S h => (Goes.begin h).put 12 (.int .i64 (wrap64 (y.sp + 1))) (cs' := cyCells { y with sp := wrap64 (y.sp + 1) }) rfl) S h
    have HG := Lib.hid g1
    clear g0 g1
    go_enter Tryz.func15, Tryz.ntmps15
    go_upto_region 3 with fail
    generalize World.setCell _ _ _ = w1 at *
    clear c13 c8 c0 c12 f12 hsd
    have c0 := HG.out.r.c 0 (v := .int .i64 y.st) rfl
    skip
    have HC := Lib.hid ((HW.out _ _).on HG.out)
    clear HG HW
    go_wp2_with fail
    with_reducible refine HC.out.mono ?_
    rintro e w2 ⟨r, ⟨rfl, hp⟩, hg⟩
    have HP := Lib.hid hp
    have HG := Lib.hid hg
    clear HC hp hg c0
    go_wp2_with fail
    first | go_end0 | ((try simp only [Exit.inBlock, Exit.then]); refine bodyPost_ret (results_none rfl _ _ _) rfl ?_)
    exact ⟨r, ⟨rfl, HP.out⟩, HG.out⟩
  · have hd : decide (0 < y.sd) = false := by simpa using hsd
    have HC := Lib.hid ((HW.out y.sp _).on g0)
    clear g0 HW
    go_enter Tryz.func15, Tryz.ntmps15
    go_wp2_with fail
    with_reducible refine HC.out.mono ?_
    rintro e w2 ⟨r, ⟨rfl, hp⟩, hg⟩
    have HP := Lib.hid hp
    have HG := Lib.hid hg
    clear HC hp hg c0 c13 c8
    go_wp2_with fail
    first | go_end0 | ((try simp only [Exit.inBlock, Exit.then]); refine bodyPost_ret (results_none rfl _ _ _) rfl ?_)
    exact ⟨r, ⟨rfl, HP.out⟩, HG.out⟩
set_option maxRecDepth 100000 in
theorem cy_step0 (hst : y.st = 0) (h : (Sep (Core A c q) (Cyc b y Kt)).at_ S w) :
    Calls Tryz.prog 15 #[.pointer (some ⟨b, 0, none⟩), .pointer (some ⟨A.b, 0, none⟩)] w fun e w' => ∃ y' : Yc, (e = .returned (.tuple #[]) ∧ ((∃ sp, y' = { y with sp := sp }) ∨ (∃ sp, y' = ({ y with sp := sp } : Yc).to 1))) ∧ Goes (Sep (Core A c q) (Cyc b y' Kt)) S w w' := by
  have g0 := Goes.begin h
  have c13 := g0.r.c 13 (v := .int .i64 0) rfl
  have c8 := g0.r.c 8 (v := .int .i64 y.sd) rfl
  have c0 := g0.r.c 0 (v := .int .i64 y.st) rfl
  rw [hst] at c0
  clear h
  by_cases hsd : 0 < y.sd
  · have c12 := g0.r.c 12 (v := .int .i64 y.sp) rfl
    have f12 := g0.r.fr 12
    have g1 : Goes (Sep (Core A c q) (Cyc b { y with sp := wrap64 (y.sp + 1) } Kt)) S w _ := g0.then fun S h => goesR (fun S h => (Goes.begin h).put 12 (.int .i64 (wrap64 (y.sp + 1))) (cs' := cyCells { y with sp := wrap64 (y.sp + 1) }) rfl) S h
    have HG := Lib.hid g1
    clear g0 g1
    go_enter Tryz.func15, Tryz.ntmps15
    go_upto_region 3 with fail
    generalize World.setCell _ _ _ = w1 at *
    clear c13 c8 c0 c12 f12 hsd
    have c0 := HG.out.r.c 0 (v := .int .i64 y.st) rfl
    rw [hst] at c0
    have k11 := HG.out.l.c 11 (v := .pointer (some ⟨A.bsp, 0, none⟩)) rfl
    have HWN := Lib.hid ((core_spR (sp_wants _)).l.on HG.out)
    clear HG
    go_wp2_with fail
    with_reducible refine HWN.out.mono ?_
    rintro e w2 ⟨r, ⟨rfl, _⟩, hgx⟩
    have hg : Goes (Sep (Core A c q) (Cyc b { y with sp := wrap64 (y.sp + 1) } Kt)) S w w2 := hgx
    clear HWN hgx k11 c0
    cases r with
    | false =>
      have HG := Lib.hid hg
      clear hg
      go_wp2_with fail
      first | go_end0 | ((try simp only [Exit.inBlock, Exit.then]); refine bodyPost_ret (results_none rfl _ _ _) rfl ?_)
      exact ⟨_, ⟨rfl, .inl ⟨_, rfl⟩⟩, HG.out⟩
    | true =>
      have HE := Lib.hid (hg.call (sepR fun S h => cy_enters 1 h))
      clear hg
      go_wp2_with fail
      with_reducible refine HE.out.mono ?_
      rintro e w3 ⟨rfl, hg⟩
      have HG := Lib.hid hg
      clear HE hg
      go_wp2_with fail
      first | go_end0 | ((try simp only [Exit.inBlock, Exit.then]); refine bodyPost_ret (results_none rfl _ _ _) rfl ?_)
      exact ⟨_, ⟨rfl, .inr ⟨_, rfl⟩⟩, HG.out⟩
  · have hd : decide (0 < y.sd) = false := by simpa using hsd
    have HG := Lib.hid g0
    clear g0
    go_enter Tryz.func15, Tryz.ntmps15
    have k11 := HG.out.l.c 11 (v := .pointer (some ⟨A.bsp, 0, none⟩)) rfl
    have HWN := Lib.hid ((core_spR (sp_wants _)).l.on HG.out)
    clear HG
    go_wp2_with fail
    with_reducible refine HWN.out.mono ?_
    rintro e w2 ⟨r, ⟨rfl, _⟩, hgx⟩
    have hg : Goes (Sep (Core A c q) (Cyc b { y with sp := y.sp } Kt)) S w w2 := hgx
    clear HWN hgx k11 c0 c8 c13
    cases r with
    | false =>
      have HG := Lib.hid hg
      clear hg
      go_wp2_with fail
      first | go_end0 | ((try simp only [Exit.inBlock, Exit.then]); refine bodyPost_ret (results_none rfl _ _ _) rfl ?_)
      exact ⟨_, ⟨rfl, .inl ⟨_, rfl⟩⟩, HG.out⟩
    | true =>
      have HE := Lib.hid (hg.call (sepR fun S h => cy_enters 1 h))
      clear hg
      go_wp2_with fail
      with_reducible refine HE.out.mono ?_
      rintro e w3 ⟨rfl, hg⟩
      have HG := Lib.hid hg
      clear HE hg
      go_wp2_with fail
      first | go_end0 | ((try simp only [Exit.inBlock, Exit.then]); refine bodyPost_ret (results_none rfl _ _ _) rfl ?_)
      exact ⟨_, ⟨rfl, .inr ⟨_, rfl⟩⟩, HG.out⟩
end
end Go.Proofs.YtnkgnhpapcnebaaGreat
/- The collector's step: what is so of it is so behind it. -/
namespace Go.Proofs.YtnkgnhpapcnebaaGreat
open Go.RowKit
/-- What is so of the collector between its steps. -/
structure CyOk (c : Cf) (bn : Bool) (y : Yc) (K : Thing) : Prop where
  mv : y.mv = 0
  roots : y.st = 4 → (y.at_ = 0 ∧ 0 ≤ y.i ∧ y.i ≤ 9) ∨ y.at_ = 1 ∨ (y.at_ = 3 ∧ y.head = (c.F : Int) ∧ 0 ≤ y.i ∧ y.i ≤ 8)
  marks : y.st = 5 → y.at_ = 4 → bn = true ∧ ∃ tb, y.tr = .pointer (some ⟨tb, 0, none⟩) ∧ TrK c tb K
  hauls : y.st = 7 → y.at_ = 2 ∨ y.h = .pointer none
section
variable {b : Nat} {y : Yc} {Kt : Thing} {S : Nat → Prop} {w w' : World} {A : CA} {c : Cf} {q : Q} {bn : Bool}
set_option maxRecDepth 100000 in
theorem CyOk.to (s : Int) {y' : Yc} (z : Yc) (e : y' = z.to s) (h : z.mv = 0) (h7 : s = 7 → z.h = .pointer none) : CyOk c bn y' Kt := by
  subst e
  exact ⟨h, fun _ => .inl ⟨rfl, by simp [Yc.to], by simp [Yc.to]⟩, fun _ h => by simp [Yc.to] at h, fun hs => .inr (h7 hs)⟩
set_option maxRecDepth 100000 in
theorem wrap_small {i : Int} (h0 : 0 ≤ i) (h9 : i ≤ 8) : wrap64 (i + 1) = i + 1 := by unfold wrap64; omega
set_option maxRecDepth 100000 in
/-- Steps that leave the stage, but for these four. -/
theorem CyOk.other {y' : Yc} (hk : CyOk c bn y Kt) (hm : y'.mv = y.mv) (hs : y'.st = y.st) (h4 : y.st ≠ 4) (h5 : y.st ≠ 5) (h7 : y.st ≠ 7) : CyOk c bn y' Kt where
  mv := hm.trans hk.mv
  roots := fun h => absurd (hs.symm.trans h) h4
  marks := fun h => absurd (hs.symm.trans h) h5
  hauls := fun h => absurd (hs.symm.trans h) h7
/-- What a step of the collector does to the hands. -/
def HqOk (q : Q) (h : Hq) : Prop := 0 ≤ h.st ∧ h.st ≤ 4 ∧ h.own = q.h.own
set_option maxRecDepth 100000 in
theorem HqOk.of (s : Int) {h : Hq} (h0 : 0 ≤ s) (h4 : s ≤ 4) (e : h.st = s) (eo : h.own = q.h.own) : HqOk q h := ⟨by rw [e]; exact h0, by rw [e]; exact h4, eo⟩
set_option maxRecDepth 100000 in
theorem HqOk.same (g : Gi c q) : HqOk q q.h := ⟨g.st0, g.st4, rfl⟩
/-- A step of the collector. -/
def CyDoes (A : CA) (c : Cf) (q : Q) (b : Nat) (y : Yc) (Kt : Thing) : Prop :=
  ∀ w, Does Tryz.prog 15 #[.pointer (some ⟨b, 0, none⟩), .pointer (some ⟨A.b, 0, none⟩)] w (Sep (Core A c q) (Cyc b y Kt)) (fun (r : Hq × Yc × Thing) e => e = .returned (.tuple #[]) ∧ HqOk q r.1 ∧ CyOk c q.bn r.2.1 r.2.2) (fun r => Sep (Core A c { q with h := r.1 }) (Cyc b r.2.1 r.2.2))
set_option maxRecDepth 100000 in
theorem cy_pack {h' : Hq} {y' : Yc} {K' : Thing} {e : Ending} (hg : Goes (Sep (Core A c { q with h := h' }) (Cyc b y' K')) S w w') (he : e = .returned (.tuple #[])) (a : HqOk q h') (k : CyOk c q.bn y' K') :
    ∃ r : Hq × Yc × Thing, (e = .returned (.tuple #[]) ∧ HqOk q r.1 ∧ CyOk c q.bn r.2.1 r.2.2) ∧ Goes (Sep (Core A c { q with h := r.1 }) (Cyc b r.2.1 r.2.2)) S w w' := ⟨(h', y', K'), ⟨he, a, k⟩, hg⟩
set_option maxRecDepth 100000 in
theorem cy_pack0 {y' : Yc} {K' : Thing} {e : Ending} (g : Gi c q) (hg : Goes (Sep (Core A c q) (Cyc b y' K')) S w w') (he : e = .returned (.tuple #[])) (k : CyOk c q.bn y' K') :
    ∃ r : Hq × Yc × Thing, (e = .returned (.tuple #[]) ∧ HqOk q r.1 ∧ CyOk c q.bn r.2.1 r.2.2) ∧ Goes (Sep (Core A c { q with h := r.1 }) (Cyc b r.2.1 r.2.2)) S w w' := cy_pack (h' := q.h) hg he (HqOk.same g) k
set_option maxRecDepth 100000 in
theorem cy_step (hc : c.ok) (hs : c.shapes[0]? = some (false, l3)) (hl : c.l0 = l3) (hF : c.F ≤ 16) (g : Gi c q) (k : CyOk c q.bn y Kt) : CyDoes A c q b y Kt := by
  by_cases h0 : y.st = 0
  · intro w S h
    refine (cy_step0 h0 h).mono ?_
    rintro e w' ⟨y', ⟨he, hy⟩, hg⟩
    refine cy_pack0 g hg he ?_
    rcases hy with ⟨sp, rfl⟩ | ⟨sp, rfl⟩
    · exact k.other rfl rfl (by omega) (by omega) (by omega)
    · exact CyOk.to 1 _ rfl k.mv (by omega)
  by_cases h1 : y.st = 1
  · refine cy_step1 h1 fun sp w S h => ?_
    by_cases ha : y.at_ = 0
    · exact (cy_starts0 (y := { y with sp := sp }) ha h).mono fun e w' ⟨he, hg⟩ => cy_pack0 g hg he (k.other (y' := { y with sp := sp, at_ := 2 }) rfl rfl (by omega) (by omega) (by omega))
    · exact (cy_starts1 (y := { y with sp := sp }) ha h).mono fun e w' ⟨he, hg⟩ => cy_pack hg he (HqOk.of 1 (by decide) (by decide) rfl rfl) (CyOk.to 2 _ rfl k.mv (by omega))
  by_cases h2 : y.st = 2
  · refine cy_step2 h2 fun sp w S h => ?_
    by_cases ha : y.at_ = 0
    · exact (cy_hands0 (y := { y with sp := sp }) 2 3 hc ha h).mono fun e w' ⟨a, i, he, hg⟩ => cy_pack0 g hg he (k.other (y' := { y with sp := sp, at_ := a, i := i }) rfl rfl (by omega) (by omega) (by omega))
    · exact (cy_hands1 (y := { y with sp := sp }) 2 3 (by decide) (by decide) ha h).mono fun e w' ⟨he, hg⟩ => cy_pack hg he (HqOk.of 2 (by decide) (by decide) rfl rfl) (CyOk.to 3 _ rfl k.mv (by omega))
  by_cases h3 : y.st = 3
  · refine cy_step3 h3 fun sp w S h => ?_
    by_cases ha : y.at_ = 0
    · exact (cy_hands0 (y := { y with sp := sp }) 3 4 hc ha h).mono fun e w' ⟨a, i, he, hg⟩ => cy_pack0 g hg he (k.other (y' := { y with sp := sp, at_ := a, i := i }) rfl rfl (by omega) (by omega) (by omega))
    · exact (cy_hands1 (y := { y with sp := sp }) 3 4 (by decide) (by decide) ha h).mono fun e w' ⟨he, hg⟩ => cy_pack hg he (HqOk.of 3 (by decide) (by decide) rfl rfl) (CyOk.to 4 _ rfl k.mv (by omega))
  by_cases h4 : y.st = 4
  · refine cy_step4 h4 fun sp w S h => ?_
    rcases k.roots h4 with ⟨ha, hi0, hi9⟩ | ha | ⟨ha, hh, hi0, hi8⟩
    · by_cases hge : (c.globals : Int) ≤ y.i
      · refine (cy_roots0p (y := { y with sp := sp }) hc ha hge h).mono ?_
        rintro e w' ⟨y', ⟨he, i, hy⟩, hg⟩
        refine cy_pack0 g hg he ?_
        rcases hy with rfl | rfl
        · exact ⟨k.mv, fun _ => .inr (.inl rfl), fun h => by simp [h4] at h, fun h => by simp [h4] at h⟩
        · exact CyOk.to 5 _ rfl k.mv (by omega)
      · have hgl := hc.globals
        refine (cy_roots0 (y := { y with sp := sp }) (N := y.i.toNat) hc hF ha (show y.i = ((y.i.toNat : Nat) : Int) by omega) (by omega) h).mono ?_
        rintro e w' ⟨y', ⟨he, hy⟩, hg⟩
        refine cy_pack0 g hg he ?_
        rcases hy with rfl | ⟨ix, rfl⟩
        · exact ⟨k.mv, fun _ => .inr (.inr ⟨rfl, rfl, hi0, by show y.i ≤ 8; omega⟩), fun h => by simp [h4] at h, fun h => by simp [h4] at h⟩
        · have hw := wrap_small (i := y.i) hi0 (by omega)
          exact ⟨k.mv, fun _ => .inl ⟨rfl, by show 0 ≤ wrap64 (y.i + 1); omega, by show wrap64 (y.i + 1) ≤ 9; omega⟩, fun h => by simp [h4] at h, fun h => by simp [h4] at h⟩
    · refine (cy_roots1 (y := { y with sp := sp }) hc ha h).mono ?_
      rintro e w' ⟨y', ⟨he, i, hy⟩, hg⟩
      refine cy_pack0 g hg he ?_
      rcases hy with rfl | rfl
      · exact ⟨k.mv, fun _ => .inr (.inl rfl), fun h => by simp [h4] at h, fun h => by simp [h4] at h⟩
      · exact CyOk.to 5 _ rfl k.mv (by omega)
    · refine (cy_roots3 (y := { y with sp := sp }) ha hh h).mono ?_
      rintro e w' ⟨he, hg⟩
      have hw := wrap_small (i := y.i) hi0 (by omega)
      refine cy_pack0 g hg he ?_
      exact ⟨k.mv, fun _ => .inl ⟨rfl, by show 0 ≤ wrap64 (y.i + 1); omega, by show wrap64 (y.i + 1) ≤ 9; omega⟩, fun h => by simp [h4] at h, fun h => by simp [h4] at h⟩
  by_cases h5 : y.st = 5
  · refine cy_step5 h5 fun sp w S h => ?_
    have m45 : ∀ {y' : Yc} {K' : Thing}, y'.mv = y.mv → y'.st = 5 → (y'.at_ = 4 → q.bn = true ∧ ∃ tb, y'.tr = .pointer (some ⟨tb, 0, none⟩) ∧ TrK c tb K') → CyOk c q.bn y' K' := fun hm hs hk =>
      ⟨hm.trans k.mv, fun h => by omega, fun _ h => hk h, fun h => by omega⟩
    by_cases a4 : y.at_ = 4
    · obtain ⟨hbn, tb, htr, hK⟩ := k.marks h5 a4
      refine (cy_marks4 (y := { y with sp := sp }) (tb := tb) hc hs hl (g.bn hbn) hK htr a4 h).mono ?_
      rintro e w' ⟨y', K', ⟨he, hy⟩, hg⟩
      refine cy_pack0 g hg he ?_
      rcases hy with ⟨rfl, hK'⟩ | ⟨rfl, a, ha, i, rfl⟩
      · exact m45 rfl h5 fun _ => ⟨hbn, tb, htr, hK'⟩
      · refine m45 rfl h5 fun h => ?_
        have h' : a = 4 := h
        rcases ha with rfl | rfl <;> omega
    by_cases a5 : y.at_ = 5
    · refine (cy_marks5 (y := { y with sp := sp }) a5 h).mono ?_
      rintro e w' ⟨y', ⟨he, hy⟩, hg⟩
      refine cy_pack0 g hg he ?_
      rcases hy with rfl | rfl
      · exact CyOk.to 6 _ rfl k.mv (by omega)
      · exact m45 rfl h5 fun h => absurd h (by show ¬ (6 : Int) = 4; decide)
    by_cases a6 : y.at_ = 6
    · refine (cy_marks6 (y := { y with sp := sp }) hc a6 h).mono ?_
      rintro e w' ⟨y', K', ⟨he, hy⟩, hg⟩
      refine cy_pack0 g hg he ?_
      rcases hy with ⟨rfl, a, ha, i, rfl⟩ | ⟨hbn, tb, g', cap', rfl, rfl⟩
      · refine m45 rfl h5 fun h => ?_
        have h' : a = 4 := h
        rcases ha with rfl | rfl <;> omega
      · exact m45 rfl h5 fun _ => ⟨hbn, tb, rfl, g', cap', .inl ⟨_, 0, rfl⟩⟩
    · refine (cy_marks0 (y := { y with sp := sp }) hc a4 a5 a6 h).mono ?_
      rintro e w' ⟨y', K', ⟨he, hy⟩, hg⟩
      refine cy_pack0 g hg he ?_
      rcases hy with ⟨hd, rfl, rfl⟩ | ⟨hbn, tb, g', cap', rfl, rfl⟩
      · exact m45 rfl h5 fun h => absurd h (by show ¬ (5 : Int) = 4; decide)
      · exact m45 rfl h5 fun _ => ⟨hbn, tb, rfl, g', cap', .inl ⟨_, 0, rfl⟩⟩
  by_cases h6 : y.st = 6
  · refine cy_step6 h6 fun sp w S h => ?_
    by_cases ha : y.at_ = 0
    · exact (cy_turns0 (y := { y with sp := sp }) hc ha h).mono fun e w' ⟨he, hg⟩ => cy_pack0 g hg he (k.other (y' := { y with sp := sp, at_ := 2 }) rfl rfl (by omega) (by omega) (by omega))
    by_cases ha2 : y.at_ = 2
    · exact (cy_turns1 (y := { y with sp := sp }) ha2 h).mono fun e w' ⟨he, hg⟩ => cy_pack hg he (HqOk.of 4 (by decide) (by decide) rfl rfl) (k.other (y' := { y with sp := sp, at_ := 1 }) rfl rfl (by omega) (by omega) (by omega))
    · refine (cy_turns2 (y := { y with sp := sp }) hc ha ha2 h).mono ?_
      rintro e w' ⟨y', ⟨he, hy⟩, hg⟩
      refine cy_pack0 g hg he ?_
      rcases hy with ⟨i, rfl⟩ | ⟨i, rfl⟩
      · exact k.other rfl rfl (by omega) (by omega) (by omega)
      · exact ⟨k.mv, fun h => absurd h (by show ¬ (7 : Int) = 4; decide), fun h => absurd h (by show ¬ (7 : Int) = 5; decide), fun _ => .inr rfl⟩
  by_cases h7 : y.st = 7
  · refine cy_step7 h7 fun sp w S h => ?_
    by_cases ha : y.at_ = 2
    · exact (cy_hauls1 (y := { y with sp := sp }) ha h).mono fun e w' ⟨he, hg⟩ => cy_pack hg he (HqOk.of 0 (by decide) (by decide) rfl rfl) (CyOk.to 8 _ rfl k.mv (by omega))
    · have hh := (k.hauls h7).resolve_left ha
      refine (cy_hauls0 (y := { y with sp := sp }) hc ha hh k.mv h).mono ?_
      rintro e w' ⟨hv, he, hg⟩
      refine cy_pack0 g hg he ?_
      exact ⟨k.mv, fun h => by simp [h7] at h, fun h => by simp [h7] at h, fun _ => .inl rfl⟩
  by_cases h8 : y.st = 8
  · refine cy_step8 h8 fun sp w S h => ?_
    by_cases ha : y.at_ = 0
    · exact (cy_settles0 (y := { y with sp := sp }) hc ha h).mono fun e w' ⟨a, i, he, hg⟩ => cy_pack0 g hg he (k.other (y' := { y with sp := sp, at_ := a, i := i }) rfl rfl (by omega) (by omega) (by omega))
    · exact (cy_settles1 (y := { y with sp := sp }) ha h).mono fun e w' ⟨he, hg⟩ => cy_pack0 g hg he (CyOk.to 9 _ rfl k.mv (by omega))
  by_cases h9 : y.st = 9
  · refine cy_step9 h9 fun sp w S h => ?_
    refine (cy_sweeps (y := { y with sp := sp }) hc h).mono ?_
    rintro e w' ⟨y', ⟨he, hy⟩, hg⟩
    refine cy_pack0 g hg he ?_
    rcases hy with ⟨i, f, rfl⟩ | ⟨i, f, rfl⟩
    · exact k.other rfl rfl (by omega) (by omega) (by omega)
    · exact CyOk.to 10 _ rfl k.mv (by omega)
  · refine cy_step10 h0 h1 h2 h3 h4 h5 h6 h7 h8 h9 fun sp w S h => ?_
    by_cases ha : y.at_ = 0
    · exact (cy_serves0 (y := { y with sp := sp }) ha h).mono fun e w' ⟨he, hg⟩ => cy_pack0 g hg he (k.other (y' := { y with sp := sp, at_ := 7 }) rfl rfl (by omega) (by omega) (by omega))
    · exact (cy_serves1 (y := { y with sp := sp }) ha h).mono fun e w' ⟨he, hg⟩ => cy_pack0 g hg he (CyOk.to 0 _ rfl k.mv (by omega))
end
end Go.Proofs.YtnkgnhpapcnebaaGreat
