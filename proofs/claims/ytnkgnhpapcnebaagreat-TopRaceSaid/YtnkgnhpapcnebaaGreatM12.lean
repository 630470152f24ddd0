/- A step of trace. -/
import Derived.Test.YtnkgnhpapcnebaaGreatM11
import Derived.Test.YtnkgnhpapcnebaaGreatM1
set_option linter.unusedVariables false
set_option linter.unusedSimpArgs false
set_option maxHeartbeats 8000000
namespace Go.Proofs.YtnkgnhpapcnebaaGreat
open Go.RowKit
attribute [local go_sem] run_store_complex
section
variable {c : Cf} {b g cap : Nat} {t : Tr} {bm gm n : Nat} {m : Nat → Value} {S : Nat → Prop} {w w' : World} {X Y : Thing}
set_option maxRecDepth 100000 in
theorem trace_fragments {x0 : Option Addr} {n0 k0 : Nat} (hl : n0 ≤ 6) (hx : t.rv = .slice x0 n0 k0) (h : (Trace b c g cap t X).at_ S w) :
    Calls Tryz.prog 299 #[.pointer (some ⟨b, 0, none⟩)] w fun e w' => e = .returned (.int .i64 1) ∧ Below w.heap.size w w' := by
  have g0 := Goes.begin h
  have c12 := g0.c 12 (v := .bool false) rfl
  have c13 := g0.c 13 (v := t.rv) rfl
  rw [hx] at c13
  have HS := Lib.hid (fun w => shape_size x0 n0 k0 w hl)
  clear g0 h hx
  go_enter Tryz.func299, Tryz.ntmps299
  go_wp2_with fail
  with_reducible refine (HS.out _).mono ?_
  rintro e w1 ⟨rfl, hb⟩
  have HB := Lib.hid hb
  clear hb
  go_wp2_with fail
  go_ret
  exact ⟨rfl, HB.out⟩
set_option maxRecDepth 100000 in
theorem trace_goes_on {x1 : Option Addr} {n1 k1 : Nat} (hw : t.words = .slice x1 (n1 + 1) k1) (hn1 : n1 ≤ 100) (h : (Trace b c g cap t X).at_ S w) :
    Calls Tryz.prog 296 #[.pointer (some ⟨b, 0, none⟩)] w fun e w' => e = .returned (.int .i64 1) ∧ Below w.heap.size w w' := by
  have g0 := Goes.begin h
  have c16 := g0.c 16 (v := t.words) rfl
  rw [hw] at c16
  clear g0 h hw
  go_enter Tryz.func296, Tryz.ntmps296
  go_wp2_with fail
  go_ret
  exact ⟨rfl, Below.refl _ _⟩
set_option maxRecDepth 100000 in
theorem trace_goes_end {x0 x1 : Option Addr} {n0 k0 k1 : Nat} (hl : n0 ≤ 6) (hx : t.rv = .slice x0 n0 k0) (hw : t.words = .slice x1 0 k1) (h : (Trace b c g cap t X).at_ S w) :
    Calls Tryz.prog 296 #[.pointer (some ⟨b, 0, none⟩)] w fun e w' => e = .returned (.int .i64 9) ∧ Below w.heap.size w w' := by
  have g0 := Goes.begin h
  have c16 := g0.c 16 (v := t.words) rfl
  have c15 := g0.c 15 (v := .int .i64 0) rfl
  have HF := Lib.hid (trace_fragments hl hx (g0.drew_.is))
  have HG := Lib.hid g0.drew_
  have hw1 : IntKind.i64.wrap 1 = 1 := by decide
  rw [hw] at c16
  clear g0 h hw
  go_enter Tryz.func296, Tryz.ntmps296
  go_wp2_with fail
  go_region_held3 (fun w' => w'.cell? ⟨b, 15, none⟩ = some (.int .i64 0)) (first | exact c15 | exact c15') ((go_at_call 299; (with_reducible refine HF.out.mono ?_); rintro e w7 ⟨rfl, hb7⟩; have c15' := (HG.out.below_ hb7).c 15 (v := .int .i64 0) rfl))
  have HB := Lib.hid (((Below.refl w.heap.size w).drew).trans hb7)
  clear hb7 c15' HG HF
  go_wp2_with fail
  go_ret
  exact ⟨rfl, HB.out⟩
set_option maxRecDepth 100000 in
theorem sepAt.in2 {A B X R : Thing} {U : Nat → Prop} {w : World} (h : (Sep (Sep A (Sep B X)) R).at_ U w) : (Sep A (Sep B (Sep R X))).at_ U w :=
  sepAt.monoR (fun _ h => sepAt.monoR (fun _ h => sepAt.swap h) (sepAt.assoc h)) (sepAt.assoc h)
/-- The program behind its head: it has its shape's references, and the words that it will read. -/
def Tr.on (t : Tr) (rv words : Value) : Tr := { t with pc := 1, rv := rv, words := words }
set_option maxRecDepth 100000 in
theorem trace_first {l : List Bool} {md : Nat} (hc : c.ok) (hs : c.shapes[0]? = some (false, l)) (hmd : md ≤ 1) (hne : (wordsTo l l.length).length ≠ 0) (h : (Trace b c g cap t X).at_ S w) :
    Calls Tryz.prog 267 #[.pointer (some ⟨b, 0, none⟩), cx 0 md] w fun e w' => ∃ rv wv, e = .returned (.bool true) ∧ (∃ x k, rv = .slice x l.length k) ∧ Goes (Sep (Trace b c g cap (t.on rv wv) (Sep (Refs rv l) X)) (Seq 1 wv (wordsTo l l.length).length ((wordsTo l l.length).map (Value.int .i64)))) S w w' := by
  have g0 := Goes.begin h
  obtain ⟨c0, c1, c2, c3, c4, c5, c6, c7, c8⟩ := tr9 g0
  have hl6 : l.length ≤ 6 := (hc.shape _ (List.mem_of_getElem? hs)).1
  have HT := Lib.hid (fun w => word_tell 0 md w (by omega) (by omega))
  have HA := Lib.hid (conf_shapeK (i := 0) hc g0.r.l.is hs)
  rw [show ((0 : Nat) : Int) = 0 from rfl] at HA
  have G0 := Lib.hid g0
  have HC := Lib.hid hc
  have HNE := Lib.hid hne
  clear g0 h hc hs hne
  unfold cfV cx at *
  generalize fl 0 = x0 at *
  generalize fl md = x1 at *
  go_enter Tryz.func267, Tryz.ntmps267
  go_wp2_with fail
  with_reducible refine (HT.out _).mono ?_
  rintro e w1 ⟨rfl, rfl⟩
  go_wp2_with fail
  with_reducible refine HA.out.mono ?_
  rintro e w1 ⟨v1, rfl, hb, S1, hr, hs1⟩
  obtain ⟨x1, k1, rfl⟩ := hr.slice
  have hRefs : (Refs (.slice x1 l.length k1) l).at_ S1 w1 := ⟨hr, fun k hk => (hs1 k hk).2⟩
  have G2 : Goes (Sep (Trace b c g cap t X) (Refs (.slice x1 l.length k1) l)) S w w1 := G0.out.more ⟨S1, hRefs, fun k hk => (hs1 k hk).1⟩ hb
  have G3 : Goes (Trace b c g cap t (Sep (Refs (.slice x1 l.length k1) l) X)) S w w1 := G2.conv fun _ _ h => sepAt.in2 h
  have hbT := Blk.new w1 #[.bool false, .slice x1 l.length k1] 57
  have e0 := hbT.cell 0
  have e1 := hbT.cell 1
  have G4 := G3.alloc_ (.cells #[.bool false, .slice x1 l.length k1] 57)
  clear HT HA c0 c1 c2 c3 c4 c5 c6 c7 c8 G0 hb hr hs1 hRefs G2 G3
  go_upto_region 3 with fail
  generalize hq : w1.heap.size = q at *
  generalize w1.alloc _ = w2 at *
  simp at e0 e1
  have k12 := G4.c 12 (v := .bool false) rfl
  have k13 := G4.c 13 (v := t.rv) rfl
  have f12 := G4.fr 12
  have f13 := G4.fr 13
  have G5 := (G4.put 12 (.bool false) (cs' := trCells c g cap t) rfl).put 13 (.slice x1 l.length k1) (cs' := trCells c g cap { t with rv := .slice x1 l.length k1 }) rfl
  have HR := Lib.hid (G5.callx fun S h => trace_refs (t := { t with rv := .slice x1 l.length k1 }) hl6 rfl h)
  clear G4
  obtain rfl | rfl : md = 0 ∨ md = 1 := by omega
  all_goals
    go_upto_region 9 with fail
    clear k12 k13 f12 f13 e0 e1 G5 hbT
    generalize World.setCell _ ⟨b, 13, none⟩ _ = w3 at *
    go_wp2_with fail
    with_reducible refine HR.out.mono ?_
    rintro e w4 ⟨v, rfl, hg⟩
    have hg1 : Goes (Sep (Trace b c g cap { t with rv := .slice x1 l.length k1 } (Sep (Refs (.slice x1 l.length k1) l) X)) (Seq 1 v (wordsTo l l.length).length ((wordsTo l l.length).map (Value.int .i64)))) S w w4 := hg.conv fun _ _ h => sepAt.monoR (fun _ h => seq_of_row h HNE.out) h
    obtain ⟨gw, ow, cw, rfl, hn1, hn2⟩ := seq_form hg1.r.is
    have d16 := hg1.l.c 16 (v := t.words) rfl
    have f16 := hg1.l.fr 16
    have hg2 : Goes (Sep (Trace b c g cap { t with rv := .slice x1 l.length k1, words := .slice (some ⟨gw, ow, none⟩) (wordsTo l l.length).length cw } (Sep (Refs (.slice x1 l.length k1) l) X)) (Seq 1 (.slice (some ⟨gw, ow, none⟩) (wordsTo l l.length).length cw) (wordsTo l l.length).length ((wordsTo l l.length).map (Value.int .i64)))) S w (w4.setCell ⟨b, 16, none⟩ (.slice (some ⟨gw, ow, none⟩) (wordsTo l l.length).length cw)) :=
      hg1.then fun S h => goesL (fun S h => (Goes.begin h).put 16 (.slice (some ⟨gw, ow, none⟩) (wordsTo l l.length).length cw) (cs' := trCells c g cap { t with rv := .slice x1 l.length k1, words := .slice (some ⟨gw, ow, none⟩) (wordsTo l l.length).length cw }) rfl) S h
    obtain ⟨n1, hnn⟩ : ∃ n1, (wordsTo l l.length).length = n1 + 1 := ⟨(wordsTo l l.length).length - 1, by have := HNE.out; omega⟩
    have hnl := wordsTo_len l l.length
    have HGO := Lib.hid (trace_goes_on (x1 := some ⟨gw, ow, none⟩) (n1 := n1) (k1 := cw) (by show Value.slice _ _ _ = _; rw [hnn]) (by omega) hg2.l.is)
    have HG2 := Lib.hid hg2
    have HNN := Lib.hid hnn
    clear HR hg hg1 hg2 hnn hnl
    generalize hnw : (wordsTo l l.length).length = nw at *
    have HNW := Lib.hid hnw
    clear hnw
    go_wp2_with fail
    with_reducible refine (HGO.out).mono ?_
    rintro e w5 ⟨rfl, hb5⟩
    have G6 := HG2.out.below_ hb5
    have d11 := G6.l.c 11 (v := .int .i64 t.pc) rfl
    have f11 := G6.l.fr 11
    have HG7 := Lib.hid (G6.then fun S h => goesL (fun S h => (Goes.begin h).put 11 (.int .i64 1) (cs' := trCells c g cap (t.on (.slice x1 l.length k1) (.slice (some ⟨gw, ow, none⟩) nw cw))) rfl) S h)
    clear HGO HG2 hb5 G6 d16 f16
    go_wp2_with fail
    go_ret
    refine ⟨.slice x1 l.length k1, .slice (some ⟨gw, ow, none⟩) nw cw, rfl, ⟨_, _, rfl⟩, ?_⟩
    have hnw := HNW.out
    subst hnw
    exact HG7.out
end
end Go.Proofs.YtnkgnhpapcnebaaGreat
/- A step of trace. -/
namespace Go.Proofs.YtnkgnhpapcnebaaGreat
open Go.RowKit
attribute [local go_sem] run_store_complex via_ret via_normal via_exit via_panic
section
variable {c : Cf} {b g cap : Nat} {t : Tr} {bm gm n : Nat} {m : Nat → Value} {S : Nat → Prop} {w w' : World} {X Y Z : Thing} {l : List Bool}
set_option maxRecDepth 100000 in
theorem Goes.drop {A B : Thing} (h : Goes A S w w') (hc : ∀ S w, A.at_ S w → ∃ S', B.at_ S' w ∧ ∀ k, S' k → S k) : Goes B S w w' := by
  obtain ⟨⟨S1, h1, h2⟩, h3⟩ := h
  obtain ⟨S2, h4, h5⟩ := hc S1 _ h1
  exact ⟨⟨S2, h4, fun k hk => h2 k (h5 k hk)⟩, h3⟩
/-- B is a part of A. -/
def Part (A B : Thing) : Prop := ∀ S w, A.at_ S w → ∃ S', B.at_ S' w ∧ ∀ k, S' k → S k
set_option maxRecDepth 100000 in
theorem Part.refl (A : Thing) : Part A A := fun S _ h => ⟨S, h, fun _ h => h⟩
set_option maxRecDepth 100000 in
theorem Part.left (A B : Thing) : Part (Sep A B) A := fun _ _ h => sepAt.l h
set_option maxRecDepth 100000 in
theorem Part.right (A B : Thing) : Part (Sep A B) B := fun _ _ h => sepAt.r h
set_option maxRecDepth 100000 in
theorem Part.both {A B C D : Thing} (h1 : Part A C) (h2 : Part B D) : Part (Sep A B) (Sep C D) := fun S w ⟨S1, S2, a1, a2, a3, a4, a5, a6⟩ => by
  obtain ⟨T1, b1, b2⟩ := h1 _ _ a1
  obtain ⟨T2, c1, c2⟩ := h2 _ _ a2
  exact ⟨fun k => T1 k ∨ T2 k, ⟨T1, T2, b1, c1, fun k hk hk' => a3 k (b2 k hk) (c2 k hk'), fun k h => .inl h, fun k h => .inr h, fun k h => h⟩, fun k hk => hk.elim (fun h => a4 k (b2 k h)) (fun h => a5 k (c2 k h))⟩
set_option maxRecDepth 100000 in
theorem Part.emp (A : Thing) : Part A Emp := fun _ _ _ => ⟨fun _ => False, fun _ h => h, fun _ h => h.elim⟩
/-- The trace with the words that it will read. -/
def TraceOn (b : Nat) (c : Cf) (g cap : Nat) (t : Tr) (ws : List Int) (l : List Bool) : Thing := Trace b c g cap t (Sep (Seq 1 t.words ws.length (ws.map (Value.int .i64))) (Sep (Refs t.rv l) Emp))
set_option maxRecDepth 100000 in
theorem trace_walks_on {k : Nat} {x : Int} {ws : List Int} {x0 : Option Addr} {k0 : Nat} (hc : c.ok) (hx : t.rv = .slice x0 l.length k0) (hl : l.length ≤ 6) (hpc : t.pc = 1) (hk : k < 8) (hws : ws.length ≤ 100) (hh : t.head < c.frags) (hn : t.head * 8 + k < n) (hn2 : n ≤ 20000) (hm : m (t.head * 8 + k) = vNone)
    (h : (Sep (TraceOn b c g cap t (k :: x :: ws) l) (Sep (Mem bm gm n m) Y)).at_ S w) (p : Value) :
    Calls Tryz.prog 269 #[.pointer (some ⟨b, 0, none⟩), .pointer (some ⟨bm, 0, none⟩), p] w fun e w' => ∃ wv, e = .returned (.bool true) ∧ Goes (Sep (TraceOn b c g cap { t with pc := 1, words := wv, next := 0 } (x :: ws) l) (Sep (Mem bm gm n m) Y)) S w w' := by
  obtain ⟨gw, ow, cw, hwv, hw1, hw2⟩ := seq_form (Goes.begin h).l.r.r.l.is
  have g0 := Goes.begin h
  have c11 := g0.l.c 11 (v := .int .i64 t.pc) rfl
  rw [hpc] at c11
  have c14 := g0.drew_.l.c 14 (v := .int .i64 (t.head : Int)) rfl
  have c16 := g0.drew_.l.c 16 (v := t.words) rfl
  rw [hwv] at c16
  have hseq := g0.drew_.l.r.r.l
  have cw0 : (w.drew).cell? ⟨gw, ow, none⟩ = some (.int .i64 (k : Int)) := by rw [hwv] at hseq; exact hseq.seq (i := 0) rfl
  have HR := Lib.hid (g0.drew_.call fun S h => trace_read t.head k hc hh hk hn hn2 h)
  rw [hm] at HR
  have HWV := Lib.hid hwv
  have HC := Lib.hid hc
  have HPC := Lib.hid hpc
  have HX := Lib.hid hx
  obtain ⟨nw, hl1⟩ : ∃ nw, (k :: x :: ws : List Int).length = nw := ⟨_, rfl⟩
  have h00 : 0 < nw := by rw [← hl1]; simp
  have h01 : (0 : Int) < (nw : Int) := by omega
  have h02 : nw = ws.length + 2 := by rw [← hl1]; simp
  have h03 : nw ≤ 102 := by omega
  have h04 : 2 ≤ nw := by omega
  rw [hl1] at c16 hw1
  have HL1 := Lib.hid hl1
  have HL2 := Lib.hid h02
  clear g0 h hc hm hpc hseq hx hl1 h02
  go_enter Tryz.func269, Tryz.ntmps269
  go_wp2_with fail
  refine wp_scope_via 1 fun F hF => ?_
  go_wp2_with fail
  go_region_held3 (fun w' => w'.cell? ⟨b, 14, none⟩ = some (.int .i64 (t.head : Int)) ∧ w'.cell? ⟨b, 16, none⟩ = some (.slice (some ⟨gw, ow, none⟩) nw cw) ∧ w'.cell? ⟨gw, ow, none⟩ = some (.int .i64 (k : Int))) (first | exact ⟨c14, c16, cw0⟩ | exact ⟨d14, d16, dw0⟩)
    ((go_at_call 266; (with_reducible refine HR.out.mono ?_); rintro e w7 ⟨rfl, hg⟩; have d14 := hg.l.c 14 (v := .int .i64 (t.head : Int)) rfl; have d16 := hg.l.c 16 (v := t.words) rfl; rw [HWV.out, HL1.out] at d16; have dsq := hg.l.r.r.l; rw [HWV.out] at dsq; have dw0 := dsq.seq (i := 0) (x := .int .i64 (k : Int)) rfl))
  clear HR c14 c16 cw0 d14 dw0
  have HG := Lib.hid hg
  have HD := Lib.hid dsq
  have fd := hg.l.fr 16
  have HI1 := Lib.hid (fun w => word_is 0 1 w (by omega) (by omega))
  have HI2 := Lib.hid (fun w => word_index 0 1 w (by omega) (by omega))
  rw [cx01] at HI1 HI2
  rw [show ixI 0 1 = 0 from rfl, show ixB 0 1 = false from rfl] at HI2
  clear hg dsq
  go_wp2_with fail
  with_reducible refine (HI1.out _).mono ?_
  rintro e w8 ⟨rfl, rfl⟩
  have G8 : Goes (Sep (TraceOn b c g cap { t with words := .slice (some ⟨gw, ow + 1, none⟩) (nw - 1) (cw - 1) } (x :: ws) l) (Sep (Mem bm gm n m) Y)) S w (w7.setCell ⟨b, 16, none⟩ (.slice (some ⟨gw, ow + 1, none⟩) (nw - 1) (cw - 1))) := by
    have h1 := HG.out.then fun S h => goesL (fun S h => (Goes.begin h).put 16 (.slice (some ⟨gw, ow + 1, none⟩) (nw - 1) (cw - 1)) (cs' := trCells c g cap { t with words := .slice (some ⟨gw, ow + 1, none⟩) (nw - 1) (cw - 1) }) rfl) S h
    have key : ∀ S w, (Seq 1 t.words (k :: x :: ws : List Int).length ((k :: x :: ws : List Int).map (Value.int .i64))).at_ S w → (Seq 1 (.slice (some ⟨gw, ow + 1, none⟩) (nw - 1) (cw - 1)) (x :: ws).length ((x :: ws).map (Value.int .i64))).at_ S w := by
      intro S1 w1 h5
      rw [HWV.out] at h5
      have e := HL2.out
      subst e
      exact seq_tail (n := ws.length + 1) (ys := [.int .i64 (k : Int)]) rfl h5
    exact h1.conv fun S w h => sepAt.monoL (fun S h => sepAt.monoR (fun S h => sepAt.monoR (fun S h => sepAt.monoL (fun S h => key S w h) h) h) h) h
  have f17 := G8.l.fr 17
  have d17 := G8.l.c 17 (v := .int .i64 t.next) rfl
  have HG9 := Lib.hid (G8.then fun S h => goesL (fun S h => (Goes.begin h).put 17 (.int .i64 0) (cs' := trCells c g cap { t with words := .slice (some ⟨gw, ow + 1, none⟩) (nw - 1) (cw - 1), next := 0 }) rfl) S h)
  clear HG HD G8
  go_wp2_with fail
  with_reducible refine (HI2.out _).mono ?_
  rintro e w8 ⟨rfl, rfl⟩
  clear HI1 HI2 fd d16
  go_wp2_with fail
  refine wp_goto (show Exit.via F _ _ 1 (.goto 3) _ _ from ⟨_, by rw [hF.out]; rfl, ?_⟩)
  have HGO := Lib.hid (trace_goes_on (x1 := some ⟨gw, ow + 1, none⟩) (n1 := nw - 2) (k1 := cw - 1) (by show Value.slice _ _ _ = _; congr 1; omega) (by omega) HG9.out.l.is)
  clear hF
  generalize World.setCell _ ⟨b, 17, none⟩ _ = w9 at *
  go_wp2_with fail
  with_reducible refine (HGO.out).mono ?_
  rintro e w5 ⟨rfl, hb5⟩
  have G6 := HG9.out.below_ hb5
  have d11 := G6.l.c 11 (v := .int .i64 t.pc) rfl
  have f11 := G6.l.fr 11
  have HG7 := Lib.hid (G6.then fun S h => goesL (fun S h => (Goes.begin h).put 11 (.int .i64 1) (cs' := trCells c g cap { t with pc := 1, words := .slice (some ⟨gw, ow + 1, none⟩) (nw - 1) (cw - 1), next := 0 }) rfl) S h)
  clear HGO HG9 hb5 G6 f17 d17
  go_wp2_with fail
  (try rw [via_ret])
  go_ret
  exact ⟨_, rfl, HG7.out⟩
set_option maxRecDepth 100000 in
theorem trace_walks_end {k : Nat} {x0 : Option Addr} {k0 : Nat} (hc : c.ok) (hx : t.rv = .slice x0 l.length k0) (hl : l.length ≤ 6) (hpc : t.pc = 1) (hk : k < 8) (hh : t.head < c.frags) (hn : t.head * 8 + k < n) (hn2 : n ≤ 20000) (hm : m (t.head * 8 + k) = vNone)
    (h : (Sep (TraceOn b c g cap t [(k : Int)] l) (Sep (Mem bm gm n m) Y)).at_ S w) (p : Value) :
    Calls Tryz.prog 269 #[.pointer (some ⟨b, 0, none⟩), .pointer (some ⟨bm, 0, none⟩), p] w fun e w' => ∃ wv, e = .returned (.bool true) ∧ Goes (Sep (Trace b c g cap { t with pc := 9, words := wv, next := 0 } Emp) (Sep (Mem bm gm n m) Y)) S w w' := by
  obtain ⟨gw, ow, cw, hwv, hw1, hw2⟩ := seq_form (Goes.begin h).l.r.r.l.is
  have g0 := Goes.begin h
  have c11 := g0.l.c 11 (v := .int .i64 t.pc) rfl
  rw [hpc] at c11
  have c14 := g0.drew_.l.c 14 (v := .int .i64 (t.head : Int)) rfl
  have c16 := g0.drew_.l.c 16 (v := t.words) rfl
  rw [hwv] at c16
  have hseq := g0.drew_.l.r.r.l
  have cw0 : (w.drew).cell? ⟨gw, ow, none⟩ = some (.int .i64 (k : Int)) := by rw [hwv] at hseq; exact hseq.seq (i := 0) rfl
  have HR := Lib.hid (g0.drew_.call fun S h => trace_read t.head k hc hh hk hn hn2 h)
  rw [hm] at HR
  have HWV := Lib.hid hwv
  have HC := Lib.hid hc
  have HPC := Lib.hid hpc
  have HX := Lib.hid hx
  have hl1 : ([(k : Int)] : List Int).length = 1 := rfl
  rw [hl1] at c16 hw1
  have HL1 := Lib.hid hl1
  clear g0 h hc hm hpc hseq hx hl1
  go_enter Tryz.func269, Tryz.ntmps269
  go_wp2_with fail
  refine wp_scope_via 1 fun F hF => ?_
  go_wp2_with fail
  go_region_held3 (fun w' => w'.cell? ⟨b, 14, none⟩ = some (.int .i64 (t.head : Int)) ∧ w'.cell? ⟨b, 16, none⟩ = some (.slice (some ⟨gw, ow, none⟩) 1 cw) ∧ w'.cell? ⟨gw, ow, none⟩ = some (.int .i64 (k : Int))) (first | exact ⟨c14, c16, cw0⟩ | exact ⟨d14, d16, dw0⟩)
    ((go_at_call 266; (with_reducible refine HR.out.mono ?_); rintro e w7 ⟨rfl, hg⟩; have d14 := hg.l.c 14 (v := .int .i64 (t.head : Int)) rfl; have d16 := hg.l.c 16 (v := t.words) rfl; rw [HWV.out, HL1.out] at d16; have dsq := hg.l.r.r.l; rw [HWV.out] at dsq; have dw0 := dsq.seq (i := 0) (x := .int .i64 (k : Int)) rfl))
  clear HR c14 c16 cw0 d14 dw0
  have hg0 : Goes (Sep (Trace b c g cap t Emp) (Sep (Mem bm gm n m) Y)) S w w7 := hg.drop (Part.both (Part.both (Part.refl _) (Part.both (Part.refl _) (Part.emp _))) (Part.refl _))
  have HG := Lib.hid hg0
  have fd := hg.l.fr 16
  have HI1 := Lib.hid (fun w => word_is 0 1 w (by omega) (by omega))
  have HI2 := Lib.hid (fun w => word_index 0 1 w (by omega) (by omega))
  rw [cx01] at HI1 HI2
  rw [show ixI 0 1 = 0 from rfl, show ixB 0 1 = false from rfl] at HI2
  clear hg dsq hg0
  have hcw : cw = 1 ∨ 2 ≤ cw := by omega
  go_upto_region 10 with (with_reducible refine (HI1.out _).mono ?_; rintro e w8 ⟨rfl, rfl⟩)
  rcases hcw with rfl | hcw
  · clear fd
    have fd := HG.out.l.fr 16
    have d17 := (HG.out.then fun S h => goesL (fun S h => (Goes.begin h).put 16 (.slice (some ⟨gw, ow, none⟩) 0 0) (cs' := trCells c g cap { t with words := .slice (some ⟨gw, ow, none⟩) 0 0 }) rfl) S h).l.c 17 (v := .int .i64 t.next) rfl
    have f17 := (HG.out.then fun S h => goesL (fun S h => (Goes.begin h).put 16 (.slice (some ⟨gw, ow, none⟩) 0 0) (cs' := trCells c g cap { t with words := .slice (some ⟨gw, ow, none⟩) 0 0 }) rfl) S h).l.fr 17
    have HG9 := Lib.hid ((HG.out.then fun S h => goesL (fun S h => (Goes.begin h).put 16 (.slice (some ⟨gw, ow, none⟩) 0 0) (cs' := trCells c g cap { t with words := .slice (some ⟨gw, ow, none⟩) 0 0 }) rfl) S h).then fun S h => goesL (fun S h => (Goes.begin h).put 17 (.int .i64 0) (cs' := trCells c g cap { t with words := .slice (some ⟨gw, ow, none⟩) 0 0, next := 0 }) rfl) S h)
    clear HG
    go_wp2_with fail
    with_reducible refine (HI2.out _).mono ?_
    rintro e w8 ⟨rfl, rfl⟩
    clear HI1 HI2 fd d16
    go_wp2_with fail
    refine wp_goto (show Exit.via F _ _ 1 (.goto 3) _ _ from ⟨_, by rw [hF.out]; rfl, ?_⟩)
    have HGO := Lib.hid (trace_goes_end (t := { t with words := .slice (some ⟨gw, ow, none⟩) 0 0, next := 0 }) (x1 := some ⟨gw, ow, none⟩) (k1 := 0) hl HX.out rfl HG9.out.l.is)
    clear hF
    generalize World.setCell _ ⟨b, 17, none⟩ _ = w9 at *
    go_wp2_with fail
    with_reducible refine (HGO.out).mono ?_
    rintro e w5 ⟨rfl, hb5⟩
    have G6 := HG9.out.below_ hb5
    have d11 := G6.l.c 11 (v := .int .i64 t.pc) rfl
    have f11 := G6.l.fr 11
    have HG7 := Lib.hid (G6.then fun S h => goesL (fun S h => (Goes.begin h).put 11 (.int .i64 9) (cs' := trCells c g cap { t with pc := 9, words := .slice (some ⟨gw, ow, none⟩) 0 0, next := 0 }) rfl) S h)
    clear HGO HG9 hb5 G6 f17 d17
    go_wp2_with fail
    (try rw [via_ret])
    go_ret
    exact ⟨_, rfl, HG7.out⟩
  · clear fd
    have fd := HG.out.l.fr 16
    have d17 := (HG.out.then fun S h => goesL (fun S h => (Goes.begin h).put 16 (.slice (some ⟨gw, ow + 1, none⟩) 0 (cw - 1)) (cs' := trCells c g cap { t with words := .slice (some ⟨gw, ow + 1, none⟩) 0 (cw - 1) }) rfl) S h).l.c 17 (v := .int .i64 t.next) rfl
    have f17 := (HG.out.then fun S h => goesL (fun S h => (Goes.begin h).put 16 (.slice (some ⟨gw, ow + 1, none⟩) 0 (cw - 1)) (cs' := trCells c g cap { t with words := .slice (some ⟨gw, ow + 1, none⟩) 0 (cw - 1) }) rfl) S h).l.fr 17
    have HG9 := Lib.hid ((HG.out.then fun S h => goesL (fun S h => (Goes.begin h).put 16 (.slice (some ⟨gw, ow + 1, none⟩) 0 (cw - 1)) (cs' := trCells c g cap { t with words := .slice (some ⟨gw, ow + 1, none⟩) 0 (cw - 1) }) rfl) S h).then fun S h => goesL (fun S h => (Goes.begin h).put 17 (.int .i64 0) (cs' := trCells c g cap { t with words := .slice (some ⟨gw, ow + 1, none⟩) 0 (cw - 1), next := 0 }) rfl) S h)
    clear HG
    go_wp2_with fail
    with_reducible refine (HI2.out _).mono ?_
    rintro e w8 ⟨rfl, rfl⟩
    clear HI1 HI2 fd d16
    go_wp2_with fail
    refine wp_goto (show Exit.via F _ _ 1 (.goto 3) _ _ from ⟨_, by rw [hF.out]; rfl, ?_⟩)
    have HGO := Lib.hid (trace_goes_end (t := { t with words := .slice (some ⟨gw, ow + 1, none⟩) 0 (cw - 1), next := 0 }) (x1 := some ⟨gw, ow + 1, none⟩) (k1 := (cw - 1)) hl HX.out rfl HG9.out.l.is)
    clear hF
    generalize World.setCell _ ⟨b, 17, none⟩ _ = w9 at *
    go_wp2_with fail
    with_reducible refine (HGO.out).mono ?_
    rintro e w5 ⟨rfl, hb5⟩
    have G6 := HG9.out.below_ hb5
    have d11 := G6.l.c 11 (v := .int .i64 t.pc) rfl
    have f11 := G6.l.fr 11
    have HG7 := Lib.hid (G6.then fun S h => goesL (fun S h => (Goes.begin h).put 11 (.int .i64 9) (cs' := trCells c g cap { t with pc := 9, words := .slice (some ⟨gw, ow + 1, none⟩) 0 (cw - 1), next := 0 }) rfl) S h)
    clear HGO HG9 hb5 G6 f17 d17
    go_wp2_with fail
    (try rw [via_ret])
    go_ret
    exact ⟨_, rfl, HG7.out⟩
end
end Go.Proofs.YtnkgnhpapcnebaaGreat
