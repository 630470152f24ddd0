/- A thread: it looks, and shades what it holds. -/
import Derived.Test.YtnkgnhpapcnebaaGreatM14
import Derived.Maps.OwnSet
import Derived.Test.YtnkgnhpapcnebaaGreatM12
set_option linter.unusedVariables false
set_option linter.unusedSimpArgs false
set_option maxHeartbeats 8000000
namespace Go.Proofs.YtnkgnhpapcnebaaGreat
open Go.RowKit
attribute [local go_sem] run_store_complex via_ret via_normal via_exit via_panic
section
variable {b t : Nat} {ov lv : Value} {x : Tc} {X : Thing} {S : Nat → Prop} {w w' : World} {A : CA} {c : Cf} {q : Q} {lg n : Nat} {l : Nat → Lc}
set_option maxRecDepth 100000 in
theorem lthr_cells (h : Goes (LThr b t ov lg n x l X) S w w') {j : Nat} (hj : j < n) : w'.cell? ⟨lg, j * 2, none⟩ = some (.bool (l j).ref) ∧ w'.cell? ⟨lg, j * 2 + 1, none⟩ = some (.complex .f64 (fl (l j).k) (fl (l j).i)) := by
  have h0 := vals_cell (j := j * 2) h.r.l.is (by omega)
  have h1 := vals_cell (j := j * 2 + 1) h.r.l.is (by omega)
  rw [locM0] at h0
  rw [locM1] at h1
  exact ⟨h0, h1⟩
set_option maxRecDepth 100000 in
theorem act_looks_trace0 (hq : q.h.st = 3) (hst : ¬ (3 : Int) = x.st) (hl : LocOk c.F n l) (hn : n ≤ 8) (hh : holds l = false) (h : (Sep (Core A c q) (LThr b t ov lg n x l X)).at_ S w) :
    Calls Tryz.prog 106 #[.pointer (some ⟨b, 0, none⟩), .pointer (some ⟨A.b, 0, none⟩)] w fun e w' => e = .returned (.bool false) ∧ Goes (Sep (Core A c q) (LThr b t ov lg n { x with seen := 3, grey := .slice none 0 0, pc := 2 } l X)) S w w' := by
  have g0 := Goes.begin h
  have k12 := g0.l.c 12 (v := .pointer (some ⟨A.bh, 0, none⟩)) rfl
  have HL := Lib.hid ((core_hnR (hni_look _)).l.on g0)
  rw [hq] at HL
  have HLO := Lib.hid hl
  have hh1 := Lib.hid hh
  clear g0 h hl hh
  go_enter Tryz.func106, Tryz.ntmps106
  go_wp2_with fail
  with_reducible refine HL.out.mono ?_
  rintro e w1 ⟨_, rfl, hg⟩
  have c4 := hg.r.c 4 (v := .int .i64 x.st) rfl
  have c8 := hg.r.c 8 (v := .int .i64 x.seen) rfl
  have f8 := hg.r.fr 8
  have g1 : Goes (Sep (Core A c q) (LThr b t ov lg n { x with seen := 3 } l X)) S w _ := hg.then fun S h => goesR (fun S h => (Goes.begin h).put 8 (.int .i64 3) (cs' := thCells t ov (.slice (some ⟨lg, 0, none⟩) n n) { x with seen := 3 }) rfl) S h
  have c9 := g1.r.c 9 (v := x.grey) rfl
  have f9 := g1.r.fr 9
  have g2 : Goes (Sep (Core A c q) (LThr b t ov lg n { x with seen := 3, grey := .slice none 0 0 } l X)) S w _ := g1.then fun S h => goesR (fun S h => (Goes.begin h).put 9 (.slice none 0 0) (cs' := thCells t ov (.slice (some ⟨lg, 0, none⟩) n n) { x with seen := 3, grey := .slice none 0 0 }) rfl) S h
  have c7 := g2.r.c 7 (v := .int .i64 x.pc) rfl
  have f7 := g2.r.fr 7
  have g3 : Goes (Sep (Core A c q) (LThr b t ov lg n { x with seen := 3, grey := .slice none 0 0, pc := 2 } l X)) S w _ := g2.then fun S h => goesR (fun S h => (Goes.begin h).put 7 (.int .i64 2) (cs' := thCells t ov (.slice (some ⟨lg, 0, none⟩) n n) { x with seen := 3, grey := .slice none 0 0, pc := 2 }) rfl) S h
  have G3 := Lib.hid g3
  clear HL hg g1 g2 g3 k12
  have hst2 : ((3 : Int) == x.st) = false := by simpa using hst
  have hst3 : decide ((3 : Int) = x.st) = false := by simpa using hst
  go_upto_region 5 with fail
  (try rw [hst2])
  (try rw [hst3])
  generalize World.setCell _ _ _ = w2 at *
  clear c4 c8 f8 c9 f9 c7 f7 hst hst2 hst3
  have c2 := G3.out.r.c 2 (v := .slice (some ⟨lg, 0, none⟩) n n) rfl
  go_wp2_with fail
  clear c2
  go_loopw [8, 9, 10, 49] (fun _ _ _ i wr => ∃ j : Nat, j ≤ n ∧ i = .int .i64 j ∧ Goes (Sep (Core A c q) (LThr b t ov lg n { x with seen := 3, grey := .slice none 0 0, pc := 2 } l X)) S w wr) (fun _ _ _ i _ => n - (intOf i).toNat)
  case atStart => exact ⟨0, Nat.zero_le _, rfl, G3.out⟩
  case round =>
    clear G3
    obtain ⟨j, hj, rfl, hs⟩ := hrel
    by_cases hlt : j < n
    · obtain ⟨d0, d1⟩ := lthr_cells hs.r hlt
      have hi := HLO.out.small j hlt
      have HI := Lib.hid fun w => word_index (l j).k (l j).i w hi.1 hi.2
      have hno : (l j).ref = true → ixB (l j).k (l j).i = false := by
        intro hr
        by_cases e : j = 0
        · subst e
          have := hh1.out
          unfold holds at this
          rw [hr] at this
          simp at this
          unfold ixB
          simp [this]
        · rw [HLO.out.num j (by omega) hlt] at hr; simp at hr
      have HS := Lib.hid (hs.alloc_ (.cells #[.bool (l j).ref, .complex .f64 (fl (l j).k) (fl (l j).i)] 39))
      unfold cx at HI
      generalize fl (l j).k = z1 at *
      generalize fl (l j).i = z2 at *
      generalize ixI (l j).k (l j).i = iv at *
      generalize ixB (l j).k (l j).i = ib at *
      clear hs hi
      cases hr : (l j).ref with
      | false =>
        rw [hr] at d0 HS
        clear hno
        go_wp2_with fail
        with_reducible refine (HI.out _).mono ?_
        rintro e w3 ⟨rfl, rfl⟩
        go_wp2_with fail
        go_round
        case rel => exact ⟨j + 1, by omega, by go_num, HS.out⟩
        case measure => simp [intOf]; omega
      | true =>
        rw [hr] at d0 HS
        obtain rfl := hno hr
        go_wp2_with fail
        with_reducible refine (HI.out _).mono ?_
        rintro e w3 ⟨rfl, rfl⟩
        go_wp2_with fail
        go_round
        case rel => exact ⟨j + 1, by omega, by go_num, HS.out⟩
        case measure => simp [intOf]; omega
    · obtain rfl : j = n := by omega
      go_wp2_with fail
      go_ret
      exact ⟨rfl, hs⟩
set_option maxRecDepth 100000 in
theorem act_looks_trace1 (hq : q.h.st = 3) (hst : ¬ (3 : Int) = x.st) (hl : LocOk c.F n l) (hn : n ≤ 8) (hn1 : 1 ≤ n) (hh : holds l = true) (h : (Sep (Core A c q) (LThr b t ov lg n x l X)).at_ S w) :
    Calls Tryz.prog 106 #[.pointer (some ⟨b, 0, none⟩), .pointer (some ⟨A.b, 0, none⟩)] w fun e w' => ∃ v, e = .returned (.bool false) ∧ Goes (Sep (Sep (Core A c q) (LThr b t ov lg n { x with seen := 3, grey := v, pc := 1 } l X)) (Got v c.F)) S w w' := by
  obtain ⟨i0, hi, hz0, hz1, hz2⟩ := info_parts Tryz.info3
  have g0 := Goes.begin h
  have k12 := g0.l.c 12 (v := .pointer (some ⟨A.bh, 0, none⟩)) rfl
  have HL := Lib.hid ((core_hnR (hni_look _)).l.on g0)
  rw [hq] at HL
  have HLO := Lib.hid hl
  have hh1 := Lib.hid hh
  clear g0 h hl hh
  go_enter Tryz.func106, Tryz.ntmps106
  go_wp2_with fail
  with_reducible refine HL.out.mono ?_
  rintro e w1 ⟨_, rfl, hg⟩
  have c4 := hg.r.c 4 (v := .int .i64 x.st) rfl
  have c8 := hg.r.c 8 (v := .int .i64 x.seen) rfl
  have f8 := hg.r.fr 8
  have g1 : Goes (Sep (Core A c q) (LThr b t ov lg n { x with seen := 3 } l X)) S w _ := hg.then fun S h => goesR (fun S h => (Goes.begin h).put 8 (.int .i64 3) (cs' := thCells t ov (.slice (some ⟨lg, 0, none⟩) n n) { x with seen := 3 }) rfl) S h
  have c9 := g1.r.c 9 (v := x.grey) rfl
  have f9 := g1.r.fr 9
  have g2 : Goes (Sep (Core A c q) (LThr b t ov lg n { x with seen := 3, grey := .slice none 0 0 } l X)) S w _ := g1.then fun S h => goesR (fun S h => (Goes.begin h).put 9 (.slice none 0 0) (cs' := thCells t ov (.slice (some ⟨lg, 0, none⟩) n n) { x with seen := 3, grey := .slice none 0 0 }) rfl) S h
  have c7 := g2.r.c 7 (v := .int .i64 x.pc) rfl
  have f7 := g2.r.fr 7
  have g3 : Goes (Sep (Core A c q) (LThr b t ov lg n { x with seen := 3, grey := .slice none 0 0, pc := 2 } l X)) S w _ := g2.then fun S h => goesR (fun S h => (Goes.begin h).put 7 (.int .i64 2) (cs' := thCells t ov (.slice (some ⟨lg, 0, none⟩) n n) { x with seen := 3, grey := .slice none 0 0, pc := 2 }) rfl) S h
  have G3 := Lib.hid g3
  clear HL hg g1 g2 g3 k12
  have hst2 : ((3 : Int) == x.st) = false := by simpa using hst
  have hst3 : decide ((3 : Int) = x.st) = false := by simpa using hst
  go_upto_region 5 with fail
  (try rw [hst2])
  (try rw [hst3])
  generalize World.setCell _ _ _ = w2 at *
  clear c4 c8 f8 c9 f9 c7 f7 hst hst2 hst3
  have c2 := G3.out.r.c 2 (v := .slice (some ⟨lg, 0, none⟩) n n) rfl
  go_wp2_with fail
  clear c2
  go_loopw [8, 9, 10, 49] (fun _ _ _ i wr => ∃ j : Nat, j ≤ n ∧ i = .int .i64 j ∧ ((j = 0 ∧ Goes (Sep (Core A c q) (LThr b t ov lg n { x with seen := 3, grey := .slice none 0 0, pc := 2 } l X)) S w wr) ∨ (1 ≤ j ∧ ∃ v, Goes (Sep (Sep (Core A c q) (LThr b t ov lg n { x with seen := 3, grey := v, pc := 1 } l X)) (RowG 3 1 v 1 [.int .i64 (c.F : Int)])) S w wr))) (fun _ _ _ i _ => n - (intOf i).toNat)
  case atStart => exact ⟨0, Nat.zero_le _, rfl, .inl ⟨rfl, G3.out⟩⟩
  case round =>
    clear G3
    obtain ⟨j, hj, rfl, hs⟩ := hrel
    rcases hs with ⟨rfl, hs⟩ | ⟨hj1, v, hs⟩
    · have hlt : 0 < n := by omega
      obtain ⟨d0, d1⟩ := lthr_cells hs.r hlt
      have hh2 := hh1.out
      unfold holds at hh2
      rw [Bool.and_eq_true] at hh2
      obtain ⟨hr, hk1⟩ := hh2
      have hk2 : 1 ≤ (l 0).k := by simpa using hk1
      obtain ⟨hi1, hk3⟩ := HLO.out.ref hr
      have hk4 : (l 0).k = c.F + 1 := by rcases hk3 with h | h <;> omega
      have hsm := HLO.out.small 0 hlt
      have HI := Lib.hid fun w => word_index (l 0).k (l 0).i w hsm.1 hsm.2
      have e1 : ixI (l 0).k (l 0).i = c.F := by unfold ixI ixB; rw [hk4, hi1]; simp
      have e2 : ixB (l 0).k (l 0).i = true := by unfold ixB; rw [hk4, hi1]; simp
      rw [e1, e2] at HI
      rw [hr] at d0
      have HS := Lib.hid (hs.alloc_ (.cells #[.bool true, .complex .f64 (fl (l 0).k) (fl (l 0).i)] 39))
      unfold cx at HI
      generalize fl (l 0).k = z1 at *
      generalize fl (l 0).i = z2 at *
      clear hs hsm hk1 hk2 hk3 hk4 hi1 e1 e2 hr
      simp only [Nat.zero_mul, Nat.zero_add, Int.natCast_zero] at d0 d1 ⊢
      go_wp2_with fail
      with_reducible refine (HI.out _).mono ?_
      rintro e w3 ⟨rfl, rfl⟩
      have bq0 := (Blk.new wr #[.bool true, .complex .f64 z1 z2] 39).cell 0
      have bqs : wr.heap.size < (wr.alloc (.cells #[.bool true, .complex .f64 z1 z2] 39)).heap.size := by simp
      generalize wr.alloc _ = w3 at *
      generalize wr.heap.size = bx at *
      simp only [List.getElem?_toArray, List.getElem?_cons_zero] at bq0
      have hq9 := HS.out.r.c 9 (v := .slice none 0 0) rfl
      have hf9 := HS.out.r.fr 9
      clear d0 d1 HI
      go_wp2_with (at_builtin; refine wpList_app rfl _ _ 22 rfl 3 i0 (.int .i64 0) 1 8 Tryz.underlying22 hi hz0 hz1 hz2 rfl (by decide) _ 0 [] rfl (rowG_nil 3 1 _).1 ⟨w3.heap.size, 0, none⟩ 1 1 [.int .i64 (c.F : Int)] rfl ?c0 ?c1 ?c2 ?c3 (by decide) ?_)
      case c0 => rfl
      case c1 =>
        intro j u hj
        rw [add_none, (Blk.new w3 #[.int .i64 (c.F : Int)] 3).cell, Nat.zero_add]
        simpa using hj
      case c2 => intro u hu; simp at hu; subst hu; rfl
      case c3 => omega
      intro v' w4 hown hg hbk
      have hgo := rowG_push (n := 0) (m := 1) (xs := []) (news := [.int .i64 (c.F : Int)]) (rowG_nil 3 1 w3) ((Below.refl _ _).alloc (Nat.le_refl _) _) hown hg (by simpa using hbk)
      have hst : St w3 (RowG 3 1 v' 1 [.int .i64 (c.F : Int)]) w4 := ⟨⟨_, hgo.now.choose_spec.1, fun k hk => (hgo.now.choose_spec.2 k hk).elim False.elim id⟩, hgo.turned.below (Nat.le_refl _) fun _ h => h.elim⟩
      have hs4 := HS.out.moreSt hst
      obtain ⟨_, hv⟩ := hown
      rcases hv with ⟨_, h0⟩ | ⟨vg, vcap, vcur, rfl, _⟩
      · simp at h0
      have d9 := hs4.l.r.c 9 (v := .slice none 0 0) rfl
      have e9 := hs4.l.r.fr 9
      have g5 : Goes (Sep (Sep (Core A c q) (LThr b t ov lg n { x with seen := 3, grey := .slice (some ⟨vg, 0, none⟩) (0 + 1) vcap, pc := 2 } l X)) (RowG 3 1 (.slice (some ⟨vg, 0, none⟩) (0 + 1) vcap) 1 [.int .i64 (c.F : Int)])) S w _ := hs4.then fun S h => goesL (fun S h => goesR (fun S h => (Goes.begin h).put 9 (.slice (some ⟨vg, 0, none⟩) (0 + 1) vcap) (cs' := thCells t ov (.slice (some ⟨lg, 0, none⟩) n n) { x with seen := 3, grey := .slice (some ⟨vg, 0, none⟩) (0 + 1) vcap, pc := 2 }) rfl) S h) S h
      have d7 := g5.l.r.c 7 (v := .int .i64 2) rfl
      have e7 := g5.l.r.fr 7
      have g6 : Goes (Sep (Sep (Core A c q) (LThr b t ov lg n { x with seen := 3, grey := .slice (some ⟨vg, 0, none⟩) (0 + 1) vcap, pc := 1 } l X)) (RowG 3 1 (.slice (some ⟨vg, 0, none⟩) (0 + 1) vcap) 1 [.int .i64 (c.F : Int)])) S w _ := g5.then fun S h => goesL (fun S h => goesR (fun S h => (Goes.begin h).put 7 (.int .i64 1) (cs' := thCells t ov (.slice (some ⟨lg, 0, none⟩) n n) { x with seen := 3, grey := .slice (some ⟨vg, 0, none⟩) (0 + 1) vcap, pc := 1 }) rfl) S h) S h
      have HG6 := Lib.hid g6
      clear hgo hst hs4 HS hg hbk g5 g6 hq9 hf9 bq0
      simp only [Nat.zero_add] at d9 e9 d7 e7
      go_wp2_with fail
      go_round
      case rel => exact ⟨1, by omega, by go_num, .inr ⟨by omega, _, HG6.out⟩⟩
      case measure => simp [intOf]; omega
    · by_cases hlt : j < n
      · obtain ⟨d0, d1⟩ := lthr_cells hs.l.r hlt
        have hi := HLO.out.small j hlt
        have HI := Lib.hid fun w => word_index (l j).k (l j).i w hi.1 hi.2
        have hr : (l j).ref = false := HLO.out.num j hj1 hlt
        rw [hr] at d0
        have HS := Lib.hid (hs.alloc_ (.cells #[.bool false, .complex .f64 (fl (l j).k) (fl (l j).i)] 39))
        unfold cx at HI
        generalize fl (l j).k = z1 at *
        generalize fl (l j).i = z2 at *
        generalize ixI (l j).k (l j).i = iv at *
        generalize ixB (l j).k (l j).i = ib at *
        clear hs hi hr
        go_wp2_with fail
        with_reducible refine (HI.out _).mono ?_
        rintro e w3 ⟨rfl, rfl⟩
        go_wp2_with fail
        go_round
        case rel => exact ⟨j + 1, by omega, by go_num, .inr ⟨by omega, v, HS.out⟩⟩
        case measure => simp [intOf]; omega
      · obtain rfl : j = n := by omega
        have HF := Lib.hid (hs.conv fun S w h => sepAt.monoR (fun S h => seq_of_row h (by decide)) h)
        clear hs
        go_wp2_with fail
        go_ret
        exact ⟨v, rfl, HF.out⟩
end
end Go.Proofs.YtnkgnhpapcnebaaGreat
/- The contracts of package plan: an object of one fragment. -/
namespace Go.Proofs.YtnkgnhpapcnebaaGreat
open Go.RowKit Go.Maps Go.WideMaps
attribute [local go_sem] run_store_complex
section
variable {c : Cf} {g cap F : Nat} {S : Nat → Prop} {w w' : World} {v : Value} {X : Thing}
set_option maxRecDepth 100000 in
theorem told_st {s : Bool × List Bool} {e : Ending} (h : ShapeTold s w e w') : ∃ v', e = .returned (.tuple #[.agg #[.bool s.1, v'], .bool true]) ∧ St w (Refs v' s.2) w' :=
  let ⟨v, he, hb, S', hr, hs⟩ := h; ⟨v, he, ⟨S', ⟨hr, fun k hk => (hs k hk).2⟩, fun k hk => (hs k hk).1⟩, hb⟩
set_option maxRecDepth 100000 in
theorem plan_blank (r : Bool) (w : World) : Calls Tryz.prog 257 #[.bool r] w fun e w' => e = .returned (cx 0 (if r then 1 else 0)) ∧ w = w' := by
  cases r with
  | true =>
    go_enter Tryz.func257, Tryz.ntmps257
    go_wp2_with fail
    with_reducible refine (word_none _).mono ?_
    rintro e w1 ⟨rfl, rfl⟩
    go_wp2_with fail
    go_ret
    exact ⟨by rw [← cx01]; rfl, rfl⟩
  | false =>
    go_enter Tryz.func257, Tryz.ntmps257
    go_wp2_with fail
    have hw := num_whole 0 w (by omega)
    rw [show ((0 : Nat) : Int) = 0 from rfl] at hw
    with_reducible refine (hw).mono ?_
    rintro e w1 ⟨rfl, rfl⟩
    clear hw
    go_wp2_with fail
    go_ret
    exact ⟨by unfold cx; rw [fl0]; rfl, rfl⟩
set_option maxRecDepth 100000 in
theorem wf64 {a : Int} (h0 : 0 ≤ a) (h1 : a ≤ 2000) : (Lit.int .i64 a).wf = true := by
  have e1 : IntKind.i64.min = -9223372036854775808 := by decide
  have e2 : IntKind.i64.max = 9223372036854775807 := by decide
  show (decide (IntKind.i64.min ≤ a) && decide (a ≤ IntKind.i64.max)) = true
  rw [e1, e2, Bool.and_eq_true]; exact ⟨decide_eq_true (by omega), decide_eq_true (by omega)⟩
def oneD (F q : Nat) : DataW Unit := if q = 0 then .map [] else (DataW.map []).put (.int .i64 (F : Int)) (.lit (.bool true))
set_option maxRecDepth 100000 in
theorem oneD_size (F : Nat) : Maps.size (oneD F 1) = 1 := by unfold oneD; simp [DataW.put, Maps.size, DataW.insert]
set_option maxRecDepth 100000 in
theorem law3 : Keyed Tryz.prog 3 := int_keyed Tryz.underlying3
set_option maxRecDepth 100000 in
theorem plan_frags (hc : c.ok) (hF : F < c.frags) (h : (Sep (Conf c g cap) (Got v F)).at_ S w) :
    Calls Tryz.prog 293 #[cfV c g cap, v] w fun e w' => e = .returned (.tuple #[.bool false, .bool false]) ∧ Below w.heap.size w w' := by
  have hb0 : Below w.heap.size w (w.alloc (.cells (cfCells c (.slice (some ⟨g, 0, none⟩) c.shapes.length cap)) 36)) := (Below.refl w.heap.size w).alloc (Nat.le_refl _) _
  have C0 : Blk (w.alloc (.cells (cfCells c (.slice (some ⟨g, 0, none⟩) c.shapes.length cap)) 36)) w.heap.size (cfCells c (.slice (some ⟨g, 0, none⟩) c.shapes.length cap)) 36 := Blk.new w _ _
  have HB0 := Lib.hid hb0
  have HC0 := Lib.hid C0
  have g0 := Lib.hid ((Goes.begin h).below_ hb0)
  obtain ⟨gs, o, cp, rfl, h1, h2⟩ := seq_form g0.out.r.is
  have HK := Lib.hid hc
  unfold cfV at *
  simp only [cfCells] at *
  have hkey := keyOf_int_mk (P := Tryz.prog) Tryz.underlying3 (a := (F : Int)) (wf64 (by omega) (by have := HK.out.frags; omega))
  have hmm := @run_makeMap Tryz.prog
  have hs0 : w.heap.size < (w.alloc (.cells (cfCells c (.slice (some ⟨g, 0, none⟩) c.shapes.length cap)) 36)).heap.size := by simp
  simp only [cfCells] at hs0
  clear h hc hb0
  go_enter Tryz.func293, Tryz.ntmps293
  go_upto_region 1 with fail
  generalize w.alloc _ = W1 at *
  obtain ⟨c0, c1, c2, c3, c4, c5, c6, c7, c8⟩ := cf9 C0
  have HBW := Lib.hid ((Below.refl W1.heap.size W1).alloc (Nat.le_refl _) (.map #[] 0))
  clear c0 c1 c2 c3 c4 c5 c6 c7 c8
  go_wp2_with fail
  go_loopw [8, 9, 10, 14] (fun _ _ _ i wr => ∃ q : Nat, q ≤ 1 ∧ i = .int .i64 q ∧ wr.ownsMap Tryz.prog 3 (plainElem (H := Unit) Tryz.prog 4) W1.heap.size q (oneD F q) ∧ Below W1.heap.size W1 wr) (fun _ _ _ i _ => 1 - (intOf i).toNat)
  case atStart => exact ⟨0, Nat.zero_le _, rfl, World.ownsMap_made _ _ _ _, HBW.out⟩
  case round =>
    clear HBW
    obtain ⟨q, hq, rfl, hown, hnx⟩ := hrel
    have g2 := g0.out.below_ hnx
    have C2 := keepBlk HC0.out hnx
    obtain ⟨c0, c1, c2, c3, c4, c5, c6, c7, c8⟩ := cf9 C2
    by_cases hlt : q < 1
    · obtain rfl : q = 0 := by omega
      have ck := g2.r.seq (i := 0) (x := .int .i64 (F : Int)) rfl
      have HA := Lib.hid (area_frag F 0 HK.out g2.l.is hF (by omega))
      rw [show ((0 : Nat) : Int) = 0 from rfl] at HA
      have HN := Lib.hid hnx
      clear g2 C2 hnx
      unfold cfV at HA
      simp only [Int.natCast_zero, Nat.add_zero] at *
      go_wp2_with fail
      with_reducible refine HA.out.mono ?_
      rintro e w2 ⟨rfl, hb2⟩
      have hown2 := Lib.hid (hown.kept (w' := w2) (row := none) ⟨hb2.os, hb2.tape, hb2.output, hb2.size, fun k hk _ => hb2.block k hk⟩ (by simp))
      have HN2 := Lib.hid (HN.out.trans (hb2.mono HN.out.size))
      clear HA hown HN hb2 c0 c1 c2 c3 c4 c5 c6 c7 c8 ck
      go_wp2_with (at_mapUpdate; refine wpList_mapUpdate_own _ rfl _ _ _ 77 rfl 3 4 law3 Tryz.underlying77 (plainElem (H := Unit) Tryz.prog 4) W1.heap.size 0 _ rfl hown2.out (by decide) _ _ _ rfl rfl hkey _ [] (plainElem_bool Tryz.underlying4 true) ?_; intro w3 hown3 hg3)
      have hown4 : w3.ownsMap Tryz.prog 3 (plainElem (H := Unit) Tryz.prog 4) W1.heap.size 1 (oneD F 1) := hown3
      have HN3 := Lib.hid (HN2.out.grown hg3 HN2.out.size (fun j hj => by cases hj; exact Nat.le_refl _))
      clear hown2 HN2 hown3 hg3
      go_wp2_with fail
      go_round
      case rel => exact ⟨1, by omega, by go_num, hown4, HN3.out⟩
      case measure => simp [intOf]
    · obtain rfl : q = 1 := by omega
      have HN := Lib.hid (HB0.out.trans (hnx.mono (by omega)))
      clear g2 C2 hnx c0 c1 c2 c3 c4 c5 c6 c7 c8
      go_wp2_with (first | (at_len; refine wpList_len_own _ rfl _ 77 rfl 3 4 Tryz.underlying77 _ W1.heap.size 1 _ rfl hown ?_) | go_in)
      rw [oneD_size]
      go_wp2_with fail
      go_ret2
      exact ⟨rfl, HN.out⟩
end
end Go.Proofs.YtnkgnhpapcnebaaGreat
/- The contracts of package plan: what is wrong with an object: nothing. -/
namespace Go.Proofs.YtnkgnhpapcnebaaGreat
open Go.RowKit
attribute [local go_sem] run_store_complex via_ret via_normal via_exit via_panic
section
variable {c : Cf} {g cap F : Nat} {S : Nat → Prop} {w w' : World} {v : Value} {X : Thing}
set_option maxRecDepth 100000 in
theorem plan_wrong {l : List Bool} (hc : c.ok) (hs : c.shapes[0]? = some (false, l)) (h : (Sep (Conf c g cap) (Got v c.F)).at_ S w) :
    Calls Tryz.prog 249 #[cfV c g cap, .int .i64 0, .int .i64 0, .bool false, v] w fun e w' => ∃ u, e = .returned (.tuple #[.agg #[.bool false, u], .int .i64 0]) ∧ Goes (Sep (Sep (Conf c g cap) (Got v c.F)) (Refs u l)) S w w' := by
  have hb0 : Below w.heap.size w ((w.alloc (.cells (cfCells c (.slice (some ⟨g, 0, none⟩) c.shapes.length cap)) 36)).alloc (.cells #[.bool false, .slice none 0 0] 57)) := ((Below.refl w.heap.size w).alloc (Nat.le_refl _) _).alloc (by simp) _
  have C0 : Blk ((w.alloc (.cells (cfCells c (.slice (some ⟨g, 0, none⟩) c.shapes.length cap)) 36)).alloc (.cells #[.bool false, .slice none 0 0] 57)) w.heap.size (cfCells c (.slice (some ⟨g, 0, none⟩) c.shapes.length cap)) 36 := (Blk.new w _ _).alloc _
  have D0 : Blk ((w.alloc (.cells (cfCells c (.slice (some ⟨g, 0, none⟩) c.shapes.length cap)) 36)).alloc (.cells #[.bool false, .slice none 0 0] 57)) (w.heap.size + 1) #[.bool false, .slice none 0 0] 57 := by have := Blk.new (w.alloc (.cells (cfCells c (.slice (some ⟨g, 0, none⟩) c.shapes.length cap)) 36)) #[.bool false, .slice none 0 0] 57; rw [World.size_alloc] at this; exact this
  have HB0 := Lib.hid hb0
  have HC0 := Lib.hid C0
  have HD0 := Lib.hid D0
  have g0 := ((Goes.begin h).alloc_ (.cells (cfCells c (.slice (some ⟨g, 0, none⟩) c.shapes.length cap)) 36)).moreSt (St.fresh #[.bool false, .slice none 0 0] 57)
  rw [World.size_alloc] at g0
  have g0 := Lib.hid g0
  obtain ⟨gs, o, cp, rfl, h1, h2⟩ := seq_form g0.out.l.r.is
  have HK := Lib.hid hc
  have HS := Lib.hid hs
  have hl6 : l.length ≤ 6 := (hc.shape _ (List.mem_of_getElem? hs)).1
  have hFf : c.F < c.frags := by have := hc.frags; unfold Cf.F; omega
  have HSZ := Lib.hid fun (x1 : Option Addr) (k1 : Nat) w => shape_size x1 l.length k1 w hl6
  have HF := Lib.hid (plan_frags hc hFf g0.out.l.is)
  unfold cfV at *
  simp only [cfCells] at *
  clear h hc hb0 hs
  go_enter Tryz.func249, Tryz.ntmps249
  go_wp2_with fail
  generalize (w.alloc _).alloc _ = W1 at *
  obtain ⟨c0, c1, c2, c3, c4, c5, c6, c7, c8⟩ := cf9 C0
  refine wp_scope_via 1 fun F hF => ?_
  clear hF
  go_wp2_with fail
  with_reducible refine HF.out.mono ?_
  rintro e w2 ⟨rfl, hb2⟩
  have G2 := g0.out.below_ hb2
  have HA := Lib.hid (conf_shapeK (i := 0) HK.out G2.l.l.is HS.out)
  rw [show ((0 : Nat) : Int) = 0 from rfl] at HA
  unfold cfV at HA
  have C2 := Lib.hid (keepBlk HC0.out hb2)
  have D2 := Lib.hid (keepBlk HD0.out hb2)
  have HG2 := Lib.hid G2
  clear c0 c1 c2 c3 c4 c5 c6 c7 c8 C0 D0 HC0 HD0 HB0 hb2 HF g0 G2
  obtain ⟨c0, c1, c2, c3, c4, c5, c6, c7, c8⟩ := cf9 C2.out
  go_wp2_with fail
  with_reducible refine HA.out.mono ?_
  rintro e w3 ht
  obtain ⟨u, rfl, hst⟩ := told_st ht
  obtain ⟨x1, k1, rfl⟩ := hst.1.choose_spec.1.1.slice
  have HST := Lib.hid hst
  clear hst HA ht c0 c1 c2 c3 c4 c5 c6 c7 c8
  have HG3 := Lib.hid (HG2.out.moreSt HST.out)
  have C3 := Lib.hid (keepBlk C2.out HST.out.below)
  have D3 := Lib.hid (keepBlk D2.out HST.out.below)
  clear HG2 C2 D2 HST
  go_upto_region 3 with fail
  have hb4 := (Below.refl w3.heap.size w3).alloc (Nat.le_refl _) (.cells #[.bool false, .slice x1 l.length k1] 57)
  have HG4 := Lib.hid (HG3.out.below_ hb4)
  have C4 := Lib.hid (keepBlk C3.out hb4)
  have D4 := Lib.hid (keepBlk D3.out hb4)
  have E4 := Lib.hid (Blk.new w3 #[.bool false, .slice x1 l.length k1] 57)
  clear HG3 C3 D3 hb4
  generalize hsh : w3.heap.size = sh at *
  generalize w3.alloc _ = w4 at *
  clear hsh
  obtain ⟨c0, c1, c2, c3, c4, c5, c6, c7, c8⟩ := cf9 C4.out
  have HCK := Lib.hid (conf_check HK.out HG4.out.l.l.l.is)
  unfold cfV at HCK
  go_wp2_with fail
  with_reducible refine HCK.out.mono ?_
  rintro e w5 ⟨rfl, hb⟩
  have HG5 := Lib.hid (HG4.out.below_ hb)
  have D5 := Lib.hid (keepBlk D4.out hb)
  have E5 := Lib.hid (keepBlk E4.out hb)
  clear c0 c1 c2 c3 c4 c5 c6 c7 c8 HCK HG4 C4 D4 E4 hb
  have e0 := E5.out.cell 0
  have e1 := E5.out.cell 1
  simp at e0 e1
  go_wp2_with fail
  with_reducible refine (HSZ.out _ _ _).mono ?_
  rintro e w6 ⟨rfl, hb⟩
  have HG6 := Lib.hid (HG5.out.below_ hb)
  have D6 := Lib.hid (keepBlk D5.out hb)
  have E6 := Lib.hid (keepBlk E5.out hb)
  clear e0 e1 HG5 D5 E5 hb
  have e0 := E6.out.cell 0
  have e1 := E6.out.cell 1
  simp at e0 e1
  go_wp2_with fail
  with_reducible refine (HSZ.out _ _ _).mono ?_
  rintro e w7 ⟨rfl, hb⟩
  have HG7 := Lib.hid (HG6.out.below_ hb)
  have D7 := keepBlk D6.out hb
  have E7 := keepBlk E6.out hb
  clear e0 e1 HG6 D6 E6 hb HSZ
  have e0 := E7.cell 0
  have e1 := E7.cell 1
  have d0 := D7.cell 0
  have d1 := D7.cell 1
  have f0 := D7.free 0
  have f1 := D7.free 1
  have g8 := HG7.out.then fun S h => goesL (fun S h => goesR (fun S h => ((Goes.begin h).vput 0 (.bool false) rfl).vput 1 (.slice x1 l.length k1) rfl) S h) S h
  have r0 := g8.l.r.vc 0 (v := .bool false) rfl
  have r1 := g8.l.r.vc 1 (v := .slice x1 l.length k1) rfl
  have HG8 : Goes (Sep (Sep (Conf c g cap) (Got (.slice (some ⟨gs, o, none⟩) 1 cp) c.F)) (Refs (.slice x1 l.length k1) l)) S w _ := g8.drop (Part.both (Part.left _ _) (Part.refl _))
  have HG8 := Lib.hid HG8
  simp at e0 e1 d0 d1
  clear D7 E7 HG7 g8
  go_wp2_with fail
  apply wp_label
  go_wp2_with fail
  (try rw [via_ret])
  exact bodyPost_ret (v := .tuple #[.agg #[.bool false, .slice x1 l.length k1], .int .i64 0]) (by simp [results, Tryz.results249, go_sem, r0, r1]) rfl ⟨_, rfl, HG8.out⟩
end
end Go.Proofs.YtnkgnhpapcnebaaGreat
/- The contracts of package plan: the words of an object. -/
namespace Go.Proofs.YtnkgnhpapcnebaaGreat
open Go.RowKit
attribute [local go_sem] run_store_complex via_ret via_normal via_exit via_panic
/-- The words when q fields are laid. -/
def mq (l : List Bool) (q j : Nat) : Value := cx 0 (if j ≤ 1 then 1 else if j - 2 < q ∧ l[j - 2]? = some true then 1 else 0)
set_option maxRecDepth 100000 in
theorem mq_step {l : List Bool} {q : Nat} {r : Bool} (hr : l[q]? = some r) : setV (mq l q) (2 + q) (cx 0 (if r then 1 else 0)) = mq l (q + 1) := by
  funext j
  unfold setV mq
  by_cases e : j = 2 + q
  · subst e
    rw [if_pos rfl, if_neg (show ¬ (2 + q ≤ 1) by omega)]
    have e2 : 2 + q - 2 = q := by omega
    rw [e2, hr]
    cases r <;> simp
  · rw [if_neg e]
    by_cases h1 : j ≤ 1
    · rw [if_pos h1, if_pos h1]
    · rw [if_neg h1, if_neg h1]
      have : (j - 2 < q ∧ l[j - 2]? = some true) ↔ (j - 2 < q + 1 ∧ l[j - 2]? = some true) := by
        constructor
        · rintro ⟨a, b⟩; exact ⟨by omega, b⟩
        · rintro ⟨a, b⟩; exact ⟨by omega, b⟩
      simp only [this]
set_option maxRecDepth 100000 in
theorem mq_end {l : List Bool} : mq l l.length = fun j => cx 0 (plB l j) := by
  funext j
  unfold mq plB
  by_cases h1 : j ≤ 1
  · rw [if_pos h1, if_pos h1]
  · rw [if_neg h1, if_neg h1]
    have : (j - 2 < l.length ∧ l[j - 2]? = some true) ↔ (l[j - 2]? = some true) := ⟨fun h => h.2, fun h => ⟨(List.getElem?_eq_some_iff.1 h).1, h⟩⟩
    simp only [this]
section
variable {c : Cf} {g cap F : Nat} {S : Nat → Prop} {w w' : World} {u : Value} {X : Thing}
set_option maxRecDepth 100000 in
theorem plan_fields {l : List Bool} {wb : Nat} (hl : l.length ≤ 6) (h : (Sep (Refs u l) (Vals wb 8 299 (mq l 0))).at_ S w) :
    Calls Tryz.prog 251 #[.agg #[.bool false, u], .int .i64 0, .pointer (some ⟨wb, 0, none⟩)] w fun e w' => e = .returned (.tuple #[]) ∧ Goes (Sep (Refs u l) (Vals wb 8 299 (mq l l.length))) S w w' := by
  obtain ⟨x1, k1, hu⟩ := (Goes.begin h).l.is.1.slice
  have g0 := Lib.hid ((Goes.begin h).moreSt (St.fresh #[.bool false, u] 57))
  generalize hbx : w.heap.size = bx at g0
  have c1 := g0.out.r.vc 1 (v := u) rfl
  have HSP := Lib.hid fun (k : Nat) (w : World) (hk : k < l.length) => shape_place x1 l.length k1 k w hl hk
  have HU := Lib.hid hu
  rw [hu] at c1
  subst hu
  clear h
  go_enter Tryz.func251, Tryz.ntmps251
  go_upto_region 1 with fail
  generalize w.alloc _ = W1 at *
  go_wp2_with fail
  go_loopw [6, 7, 8, 9, 10, 14] (fun _ _ _ _ _ i wr => ∃ q : Nat, q ≤ l.length ∧ i = .int .i64 q ∧ Goes (Sep (Sep (Refs (.slice x1 l.length k1) l) (Vals wb 8 299 (mq l q))) (Var bx #[.bool false, .slice x1 l.length k1] 57)) S w wr) (fun _ _ _ _ _ i _ => l.length - (intOf i).toNat)
  case atStart => exact ⟨0, Nat.zero_le _, rfl, g0.out⟩
  case round =>
    clear g0 c1
    obtain ⟨q, hq, rfl, hs⟩ := hrel
    by_cases hlt : q < l.length
    · obtain ⟨r, hr⟩ : ∃ r, l[q]? = some r := ⟨l[q], List.getElem?_eq_getElem hlt⟩
      obtain ⟨rr, rfl, cr⟩ := hs.l.l.refs rfl hr
      have c0 := hs.r.vc 0 (v := .bool false) rfl
      have c1 := hs.r.vc 1 (v := .slice (some ⟨rr, 0, none⟩) l.length k1) rfl
      have HS := Lib.hid hs
      have HR := Lib.hid hr
      clear hs hr
      go_wp2_with fail
      with_reducible refine (HSP.out q _ hlt).mono ?_
      rintro e w2 ⟨rfl, hb⟩
      have hs2 := HS.out.below_ hb
      have HB := Lib.hid ((plan_blank r w2.drew).mono fun e w' ⟨h1, h2⟩ => (⟨h1, h2.symm⟩ : e = Ending.returned (cx 0 (if r then 1 else 0)) ∧ w' = w2.drew))
      obtain ⟨cb, hcb⟩ : ∃ k, (if r then 1 else 0) = k := ⟨_, rfl⟩
      have hs3 := hs2.drew_
      have q0 : (w2.drew).cell? ⟨wb, 2 + q, none⟩ = some (mq l q (2 + q)) := vals_cell hs3.l.r.is (by omega)
      have q1 : (w2.drew).frozen? ⟨wb, 2 + q, none⟩ = false := vals_free hs3.l.r.is _
      have hs4 := Lib.hid (hs3.then fun S h => goesL (fun S h => goesR (fun S h => vals_set h (2 + q) (cx 0 cb)) S h) S h)
      rw [← hcb, mq_step HR.out, hcb] at hs4
      rw [hcb] at HB
      generalize mq l q (2 + q) = old at *
      unfold cx at *
      generalize fl cb = fb at *
      generalize fl 0 = f0 at *
      have hq8 : (0 : Int) ≤ 2 + (q : Int) := by omega
      have hq9 : 2 + (q : Int) < 8 := by omega
      have hq10 : (2 + (q : Int)).toNat = 2 + q := by omega
      clear hs2 hs3 hcb
      clear HS c0 c1 cr hb
      go_upto_region 6 with fail
      go_still_tail 6, (by kernel_rfl)
      still_call HB.out
      repeat still_step
      refine wpStill_nil ?_
      change wpList _ _ _ _ _ w2.drew
      generalize w2.drew = w3 at *
      go_wp2_with fail
      go_round
      case rel => exact ⟨q + 1, by omega, by go_num, hs4.out⟩
      case measure => simp [intOf]; omega
    · obtain rfl : q = l.length := by omega
      go_wp2_with fail
      go_end0
      exact ⟨rfl, hs.l⟩
end
end Go.Proofs.YtnkgnhpapcnebaaGreat
/- The contracts of package plan: an object's writes. -/
namespace Go.Proofs.YtnkgnhpapcnebaaGreat
open Go.RowKit
attribute [local go_sem] run_store_complex via_ret via_normal via_exit via_panic
/-- The cells of the first q writes. -/
def wc (F : Nat) (y : Nat → Nat) : Nat → List Value
  | 0 => []
  | q + 1 => wc F y q ++ [.int .i64 ((F : Int) * 8 + (q : Int)), .complex .f64 (fl 0) (y q)]
set_option maxRecDepth 100000 in
theorem wc_len (F : Nat) (y : Nat → Nat) (q : Nat) : (wc F y q).length = q * 2 := by
  induction q with
  | zero => rfl
  | succ q ih => simp [wc, ih]; omega
def wordsV (x : Nat) (y : Nat → Nat) : Value := .agg #[.complex .f64 x (y 0), .complex .f64 x (y 1), .complex .f64 x (y 2), .complex .f64 x (y 3), .complex .f64 x (y 4), .complex .f64 x (y 5), .complex .f64 x (y 6), .complex .f64 x (y 7)]
def wordsC (x : Nat) (y : Nat → Nat) : Array Value := #[.complex .f64 x (y 0), .complex .f64 x (y 1), .complex .f64 x (y 2), .complex .f64 x (y 3), .complex .f64 x (y 4), .complex .f64 x (y 5), .complex .f64 x (y 6), .complex .f64 x (y 7)]
set_option maxRecDepth 100000 in
theorem Tryz.info245 : (Tryz.prog.info? 245).map (fun i => (i.zero, i.size, i.bytes)) = some (some (.agg #[.int .i64 0, .complex .f64 0 0]), 2, 24) := by kernel_rfl
set_option maxRecDepth 100000 in
theorem index_words (x : Nat) (y : Nat → Nat) (k : Nat) (hk : k < 8) (w : World) : (Instr.index 299 (wordsV x y) (.int .i64 (k : Int))).run Tryz.prog w = .ok (.complex .f64 x (y k)) w := by
  obtain ⟨i0, hi, hz0, hz1, hz2⟩ := info_parts Tryz.info24
  have hcase : k = 0 ∨ k = 1 ∨ k = 2 ∨ k = 3 ∨ k = 4 ∨ k = 5 ∨ k = 6 ∨ k = 7 := by omega
  rcases hcase with rfl | rfl | rfl | rfl | rfl | rfl | rfl | rfl <;>
    simp [Instr.index, wordsV, run_underlying Tryz.underlying299, sizeOf, typeInfo, hi, hz1, part, go_sem]
section
variable {c : Cf} {g cap F : Nat} {S : Nat → Prop} {w w' : World} {u : Value} {X : Thing}
set_option maxRecDepth 100000 in
theorem plan_whole {y : Nat → Nat} (hc : c.ok) (hF : F < c.frags) (h : (Conf c g cap).at_ S w) :
    Calls Tryz.prog 252 #[cfV c g cap, .slice none 0 0, .int .i64 (F : Int), wordsV (fl 0) y] w fun e w' => ∃ v, e = .returned v ∧ St w (RowG 245 2 v 8 (wc F y 8)) w' := by
  obtain ⟨i0, hi, hz0, hz1, hz2⟩ := info_parts Tryz.info245
  have hb0 : Below w.heap.size w ((w.alloc (.cells (cfCells c (.slice (some ⟨g, 0, none⟩) c.shapes.length cap)) 36)).alloc (.cells (wordsC (fl 0) y) 299)) := ((Below.refl w.heap.size w).alloc (Nat.le_refl _) _).alloc (by simp) _
  have C0 : Blk ((w.alloc (.cells (cfCells c (.slice (some ⟨g, 0, none⟩) c.shapes.length cap)) 36)).alloc (.cells (wordsC (fl 0) y) 299)) w.heap.size (cfCells c (.slice (some ⟨g, 0, none⟩) c.shapes.length cap)) 36 := (Blk.new w _ _).alloc _
  have D0 : Blk ((w.alloc (.cells (cfCells c (.slice (some ⟨g, 0, none⟩) c.shapes.length cap)) 36)).alloc (.cells (wordsC (fl 0) y) 299)) (w.heap.size + 1) (wordsC (fl 0) y) 299 := by have := Blk.new (w.alloc (.cells (cfCells c (.slice (some ⟨g, 0, none⟩) c.shapes.length cap)) 36)) (wordsC (fl 0) y) 299; rw [World.size_alloc] at this; exact this
  have HB0 := Lib.hid hb0
  have HC0 := Lib.hid C0
  have HD0 := Lib.hid D0
  have g0 := Lib.hid ((Goes.begin h).below_ hb0)
  have HK := Lib.hid hc
  have HWL := Lib.hid (wc_len F y)
  unfold cfV wordsV at *
  simp only [cfCells, wordsC] at *
  have HWC : ∀ q, wc F y (q + 1) = wc F y q ++ [.int .i64 ((F : Int) * 8 + (q : Int)), .complex .f64 (fl 0) (y q)] := fun _ => rfl
  have HWC := Lib.hid HWC
  generalize hW : wc F y = W at *
  have hW0 : W 0 = [] := by rw [← hW]; rfl
  generalize fl 0 = f0 at *
  clear h hc hb0
  go_enter Tryz.func252, Tryz.ntmps252
  go_upto_region 1 with fail
  generalize (w.alloc _).alloc _ = W1 at *
  have e0 := D0.cell 0
  have e1 := D0.cell 1
  have e2 := D0.cell 2
  have e3 := D0.cell 3
  have e4 := D0.cell 4
  have e5 := D0.cell 5
  have e6 := D0.cell 6
  have e7 := D0.cell 7
  simp at e0 e1 e2 e3 e4 e5 e6 e7
  clear C0 D0 HD0 hW
  go_wp2_with fail
  clear e0 e1 e2 e3 e4 e5 e6 e7
  go_loopw [1, 9, 10, 11, 12, 14] (fun l _ _ _ _ i wr => ∃ (q : Nat) (v : Value), q ≤ 8 ∧ l = v ∧ i = .int .i64 q ∧ St W1 (RowG 245 2 v q (W q)) wr) (fun _ _ _ _ _ i _ => 8 - (intOf i).toNat)
  case atStart => exact ⟨0, _, Nat.zero_le _, rfl, rfl, by rw [hW0]; exact ⟨⟨_, rowG_nil _ _ _, fun k hk => hk.elim⟩, Below.refl _ _⟩⟩
  case round =>
    obtain ⟨q, v, hq, rfl, rfl, hs⟩ := hrel
    have hnx := hs.below
    by_cases hlt : q < 8
    · have g2 := g0.out.below_ hnx
      have C2 := keepBlk HC0.out hnx
      obtain ⟨c0, c1, c2, c3, c4, c5, c6, c7, c8⟩ := cf9 C2
      have HA := Lib.hid (area_frag F q HK.out g2.is hF hlt)
      unfold cfV at HA
      have HH := Lib.hid hs
      clear hs hnx g2 C2
      have hix := index_words f0 y q hlt
      unfold wordsV at hix
      go_wp2_with fail
      with_reducible refine HA.out.mono ?_
      rintro e w2 ⟨rfl, hb⟩
      have hs2 := HH.out.later hb
      have HX := Lib.hid hs2.1.choose_spec.1.1
      have HS2 := Lib.hid hs2
      clear c0 c1 c2 c3 c4 c5 c6 c7 c8 HA HH hb hs2 hix
      go_wp2_with (at_builtin; refine wpList_app rfl _ _ 121 rfl 245 i0 (.agg #[.int .i64 0, .complex .f64 0 0]) 2 24 Tryz.underlying121 hi hz0 hz1 hz2 rfl (by decide) _ _ _ rfl (HX.out.alloc _) ⟨w2.heap.size, 0, none⟩ 1 1 [.int .i64 ((F : Int) * 8 + (q : Int)), .complex .f64 f0 (y q)] rfl ?c0 ?c1 ?c2 ?c3 (by decide) ?_)
      case c0 => rfl
      case c1 =>
        intro j u hj
        rw [add_none, (Blk.new w2 #[.int .i64 ((F : Int) * 8 + (q : Int)), .complex .f64 f0 (y q)] 245).cell, Nat.zero_add]
        simpa using hj
      case c2 => intro u hu; simp at hu; rcases hu with rfl | rfl <;> rfl
      case c3 => omega
      intro v' w10 hown hg hbk
      have hg2 := HS2.out.goes (w' := w10) fun S h => rowG_push h ((Below.refl _ _).alloc (Nat.le_refl _) _) hown hg (by simpa using hbk)
      rw [← HWC.out q] at hg2
      have HG2 := Lib.hid hg2
      clear hown hg hbk hg2 HS2 HX
      go_wp2_with fail
      go_round
      case rel => exact ⟨q + 1, v', by omega, rfl, by go_num, HG2.out⟩
      case measure => simp [intOf]; omega
    · obtain rfl : q = 8 := by omega
      go_wp2_with fail
      go_ret
      exact ⟨_, rfl, St.onward HB0.out hs⟩
end
end Go.Proofs.YtnkgnhpapcnebaaGreat
