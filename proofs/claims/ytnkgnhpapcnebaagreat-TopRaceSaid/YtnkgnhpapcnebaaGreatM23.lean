/- What is so of a thread between its steps; scripts. -/
import Derived.Test.YtnkgnhpapcnebaaGreatM22
import Derived.Test.YtnkgnhpapcnebaaGreatM18
import Derived.Test.YtnkgnhpapcnebaaGreatM12
import Derived.Test.YtnkgnhpapcnebaaGreatM11
import Derived.Test.YtnkgnhpapcnebaaGreatM14
import Derived.Test.YtnkgnhpapcnebaaGreatM16
set_option linter.unusedVariables false
set_option linter.unusedSimpArgs false
set_option maxHeartbeats 8000000
namespace Go.Proofs.YtnkgnhpapcnebaaGreat
open Go.RowKit
/-- The writes of an object from word k on, n of them. -/
def wd (F : Nat) (y : Nat → Nat) : Nat → Nat → List Value
  | _, 0 => []
  | k, n + 1 => .int .i64 ((F * 8 + k : Nat) : Int) :: .complex .f64 (fl 0) (y k) :: wd F y (k + 1) n
theorem wd_all (F : Nat) (y : Nat → Nat) : wc F y 8 = wd F y 0 8 := by
  simp [wd, wc]
/-- A script's cells. -/
def opL (o : Nat → Opn) : Nat → List Value
  | 0 => []
  | n + 1 => opL o n ++ (opc (o n)).toList
theorem opL_len (o : Nat → Opn) (n : Nat) : (opL o n).length = n * 6 := by
  induction n with
  | zero => rfl
  | succ n ih => simp [opL, ih, opc]; omega
theorem opL_get (o : Nat → Opn) (n i j : Nat) (hi : i < n) (hj : j < 6) : (opL o n)[i * 6 + j]? = (opc (o i))[j]? := by
  induction n with
  | zero => omega
  | succ n ih =>
    rw [opL, List.getElem?_append]
    rw [opL_len]
    by_cases h : i < n
    · rw [if_pos (by omega), ih h]
    · obtain rfl : i = n := by omega
      rw [if_neg (by omega), show i * 6 + j - i * 6 = j by omega]
      simp
def Ops (v : Value) (no : Nat) (o : Nat → Opn) : Thing := Seq 6 v no (opL o no)
/-- A thread's state; E: what it holds besides. -/
structure P where
  x : Tc
  l : Nat → Lc
  E : Thing
/-- Where a thread lies. -/
structure TA where
  b : Nat
  og : Nat
  oo : Nat
  oc : Nat
  lg : Nat
def TA.ov (a : TA) (no : Nat) : Value := .slice (some ⟨a.og, a.oo, none⟩) no a.oc
def Th (a : TA) (t n no : Nat) (o : Nat → Opn) (p : P) : Thing := LThr a.b t (a.ov no) a.lg n p.x p.l (Sep (Ops (a.ov no) no o) p.E)
section
variable {A B C D E : Thing} {S : Nat → Prop} {w : World} {a : TA} {t n no : Nat} {o : Nat → Opn} {p : P} {b lg : Nat} {ov : Value} {x : Tc} {l : Nat → Lc} {X : Thing}
theorem sep_emp (h : A.at_ S w) : (Sep A Emp).at_ S w := ⟨S, fun _ => False, h, fun _ h => h, fun _ _ h => h, fun _ h => h, fun _ h => h.elim, fun _ h => .inl h⟩
theorem emp_sep (h : (Sep A Emp).at_ S w) : A.at_ S w := by
  obtain ⟨S1, T, h1, h2, h3, h4, h5, h6⟩ := h
  have e : S1 = S := by
    funext k; apply propext
    exact ⟨h4 k, fun hk => (h6 k hk).elim id fun ht => (h2 k ht).elim⟩
  rw [← e]; exact h1
theorem lthr_out (h : (LThr b t ov lg n x l (Sep X E)).at_ S w) : (Sep (LThr b t ov lg n x l X) E).at_ S w :=
  sepAt.assoc' (sepAt.monoR (fun _ h => sepAt.assoc' h) h)
theorem lthr_in (h : (Sep (LThr b t ov lg n x l X) E).at_ S w) : (LThr b t ov lg n x l (Sep X E)).at_ S w :=
  sepAt.monoR (fun _ h => sepAt.assoc h) (sepAt.assoc h)
/-- What a thread holds besides, apart. -/
theorem th_out (h : (Sep C (LThr b t ov lg n x l (Sep X E))).at_ S w) : (Sep (Sep C (LThr b t ov lg n x l X)) E).at_ S w :=
  sepAt.assoc' (sepAt.monoR (fun _ h => lthr_out h) h)
theorem th_in (h : (Sep (Sep C (LThr b t ov lg n x l X)) E).at_ S w) : (Sep C (LThr b t ov lg n x l (Sep X E))).at_ S w :=
  sepAt.monoR (fun _ h => lthr_in h) (sepAt.assoc h)
theorem th_emp (h : (Sep C (LThr b t ov lg n x l X)).at_ S w) : (Sep C (LThr b t ov lg n x l (Sep X Emp))).at_ S w := th_in (sep_emp h)
theorem th_emp' (h : (Sep C (LThr b t ov lg n x l (Sep X Emp))).at_ S w) : (Sep C (LThr b t ov lg n x l X)).at_ S w := emp_sep (th_out h)
end
/-! What is written to memory. -/
section
variable {c : Cf} {q : Mq} {f : Nat → Value}
theorem glob_apart (hc : c.ok) (g j : Nat) (hj : j < 8) : c.glob g ≠ c.F * 8 + j := by
  have := hc.frags
  unfold Cf.glob Cf.F
  omega
theorem memok_store (hc : c.ok) (k i : Nat) (h : MemOk c q f) : MemOk c { q with lk := k, li := i } (setV f (c.F * 8 + 4) (cx k i)) where
  plan := fun j hj h4 hw => by
    unfold setV
    rw [if_neg (by omega)]
    exact h.plan j hj h4 hw
  last := by simp [setV]
  glob := fun g hg => by
    unfold setV
    rw [if_neg (glob_apart hc g 4 (by omega))]
    exact h.glob g hg
theorem memok_plan (hc : c.ok) {k : Nat} (hk : q.wr = k) (hk8 : k < 8) (h4 : plB c.l0 4 = 0) (h0 : q.lk = 0 ∧ q.li = 0) (h : MemOk c q f) : MemOk c { q with wr := k + 1 } (setV f (c.F * 8 + k) (.complex .f64 (fl 0) (yl c.l0 k))) where
  plan := fun j hj hj4 hw => by
    unfold setV
    by_cases e : j = k
    · subst e; rw [if_pos rfl]; rfl
    · rw [if_neg (by omega)]
      exact h.plan j hj hj4 (by simp at hw; omega)
  last := by
    unfold setV
    by_cases e : k = 4
    · subst e; rw [if_pos rfl]; simp [cx, yl, h4, h0]
    · rw [if_neg (by omega)]; exact h.last
  glob := fun g hg => by
    unfold setV
    rw [if_neg (glob_apart hc g k hk8)]
    exact h.glob g hg
theorem memok_pub (hc : c.ok) (h : MemOk c q f) : MemOk c { q with pb := true } (setV f (c.glob 0) (cx (c.F + 1) 1)) where
  plan := fun j hj hj4 hw => by
    unfold setV
    rw [if_neg (Ne.symm (glob_apart hc 0 j hj))]
    exact h.plan j hj hj4 hw
  last := by
    unfold setV
    rw [if_neg (Ne.symm (glob_apart hc 0 4 (by omega)))]
    exact h.last
  glob := fun g hg => by
    unfold setV
    by_cases e : g = 0
    · subst e; simp
    · rw [if_neg (by unfold Cf.glob; omega), h.glob g hg]; simp [e]
end
/-- What is so of the shared things always. -/
structure Gi (c : Cf) (q : Q) : Prop where
  st0 : 0 ≤ q.h.st
  st4 : q.h.st ≤ 4
  lk : q.m.lk ≤ 17
  li : q.m.li ≤ 17
  pb : q.m.pb = true → q.m.wr = 8
  bn : q.bn = true → q.m.wr = 8
  no : q.m.pb = false → q.m.lk = 0 ∧ q.m.li = 0
/-- The script of a thread that stores and loads. -/
def o1 (t i : Nat) : Opn :=
  match i % 5 with
  | 0 => ⟨7, 0, 0, 0, 0, 0, 0⟩
  | 1 => ⟨12, 1, 0, 0, 0, fl t, fl (i / 5)⟩
  | 2 => ⟨4, 0, 1, 0, 2, 0, 0⟩
  | 3 => ⟨3, 2, 0, 0, 2, 0, 0⟩
  | _ => ⟨13, 0, 0, 0, 0, 0, 0⟩
theorem o1_0 {t i : Nat} (h : i % 5 = 0) : o1 t i = ⟨7, 0, 0, 0, 0, 0, 0⟩ := by simp [o1, h]
theorem o1_1 {t i : Nat} (h : i % 5 = 1) : o1 t i = ⟨12, 1, 0, 0, 0, fl t, fl (i / 5)⟩ := by simp [o1, h]
theorem o1_2 {t i : Nat} (h : i % 5 = 2) : o1 t i = ⟨4, 0, 1, 0, 2, 0, 0⟩ := by simp [o1, h]
theorem o1_3 {t i : Nat} (h : i % 5 = 3) : o1 t i = ⟨3, 2, 0, 0, 2, 0, 0⟩ := by simp [o1, h]
theorem o1_4 {t i : Nat} (h : i % 5 = 4) : o1 t i = ⟨13, 0, 0, 0, 0, 0, 0⟩ := by simp [o1, h]
/-- What the script has laid into the locals. -/
structure Pos (t nx : Nat) (l : Nat → Lc) : Prop where
  ref : 1 ≤ nx % 5 → nx % 5 ≤ 3 → (l 0).ref = true
  num : nx % 5 = 2 → l 1 = ⟨false, t, nx / 5⟩
inductive At1 (c : Cf) (t : Nat) (p : P) : Prop
  | out (h : p.x.ph = 0) (h1 : p.x.nx = 0) (h2 : p.E = Emp)
  | look (h : p.x.ph = 1) (h1 : p.x.pc = 0) (h2 : p.E = Emp)
  | grey (h : p.x.ph = 1) (h1 : p.x.pc = 1) (h2 : p.E = Got p.x.grey c.F) (h3 : 0 ≤ p.x.seen) (h4 : p.x.seen ≤ 4)
  | give (h : p.x.ph = 1) (h1 : p.x.pc = 2) (h2 : p.E = Emp) (h3 : 0 ≤ p.x.seen) (h4 : p.x.seen ≤ 4)
  | drain (h : p.x.ph = 1) (h1 : p.x.pc = 3) (h2 : p.E = Emp)
  | leave (h : p.x.ph = 1) (h1 : p.x.pc = 4) (h2 : p.E = Emp)
  | start (h : p.x.ph = 2) (h1 : p.x.nx < 40) (h2 : p.E = Emp) (h3 : p.x.at_ = 0)
  | read (h : p.x.ph = 2) (h1 : p.x.nx < 40) (h2 : p.E = Emp) (h3 : p.x.at_ = 2) (h4 : p.x.nx % 5 = 3) (h5 : p.x.addr = ((c.F * 8 + 4 : Nat) : Int)) (h6 : p.x.ref = false)
  | write (h : p.x.ph = 2) (h1 : p.x.nx < 40) (h2 : p.E = Emp) (h3 : p.x.at_ = 6) (h4 : p.x.nx % 5 = 2) (h5 : p.x.addr = ((c.F * 8 + 4 : Nat) : Int)) (h6 : p.x.w1 = fl t) (h7 : p.x.w2 = fl (p.x.nx / 5))
  | gone (h : p.x.ph = 4) (h2 : p.E = Emp)
structure J1 (c : Cf) (q : Q) (t : Nat) (p : P) : Prop where
  nx : p.x.nx ≤ 40
  loc : LocOk c.F 4 p.l
  pub : holds p.l = true → q.m.pb = true
  wr : p.x.ph = 2 → p.x.at_ ≠ 0 → q.m.pb = true
  out : p.x.ph = 0 → q.h.own t = -1
  here : p.x.ph = 1 ∨ p.x.ph = 2 → q.h.own t ≠ -1
  pos : p.x.ph = 1 ∨ p.x.ph = 2 → Pos t p.x.nx p.l
  at1 : At1 c t p
end Go.Proofs.YtnkgnhpapcnebaaGreat
/- A step of trace: as a whole. -/
namespace Go.Proofs.YtnkgnhpapcnebaaGreat
open Go.RowKit
attribute [local go_sem] run_store_complex via_ret via_normal via_exit via_panic
section
variable {c : Cf} {b g cap : Nat} {t : Tr} {bm gm n : Nat} {m : Nat → Value} {S : Nat → Prop} {w w' : World} {X Y Z : Thing} {l : List Bool}
set_option maxRecDepth 100000 in
theorem tr_step (h : (Sep (Trace b c g cap t X) Z).at_ S w) : Goes (Sep (Trace b c g cap { t with steps := wrap64 (t.steps + 1) } X) Z) S w (w.setCell ⟨b, 22, none⟩ (.int .i64 (wrap64 (t.steps + 1)))) :=
  (Goes.begin h).then fun S h => goesL (fun S h => (Goes.begin h).put 22 (.int .i64 (wrap64 (t.steps + 1))) (cs' := trCells c g cap { t with steps := wrap64 (t.steps + 1) }) rfl) S h
set_option maxRecDepth 100000 in
theorem trace_does0 {sn : Bool} {st : Int} {md : Nat} {head : Nat} (hc : c.ok) (hs : c.shapes[0]? = some (false, l)) (hmd : md ≤ 1) (hne : (wordsTo l l.length).length ≠ 0) (hh : head < c.frags) (hn : head * 8 + 1 < n) (hn2 : n ≤ 20000) (hm : m (head * 8 + 1) = cx 0 md)
    (h : (Sep (Trace b c g cap { tr0 head sn with steps := st } Emp) (Sep (Mem bm gm n m) Y)).at_ S w) (p : Value) :
    Calls Tryz.prog 213 #[.pointer (some ⟨b, 0, none⟩), .pointer (some ⟨bm, 0, none⟩), p] w fun e w' => ∃ rv wv, e = .returned (.bool true) ∧ (∃ x k, rv = .slice x l.length k) ∧ Goes (Sep (TraceOn b c g cap { head := head, sense := sn, pc := 1, rv := rv, words := wv, next := 0, steps := st } (wordsTo l l.length) l) (Sep (Mem bm gm n m) Y)) S w w' := by
  have g0 := Goes.begin h
  have c11 := g0.l.c 11 (v := .int .i64 0) rfl
  have c9 := g0.l.c 9 (v := .int .i64 (head : Int)) rfl
  have HR := Lib.hid (g0.call fun S h => trace_read head 1 hc hh (by omega) hn hn2 h)
  rw [hm, show ((1 : Nat) : Int) = 1 from rfl] at HR
  have HC := Lib.hid hc
  have HS := Lib.hid hs
  have HN := Lib.hid hne
  clear g0 h hc hm hs hne
  unfold cx at HR
  go_enter Tryz.func213, Tryz.ntmps213
  go_wp2_with fail
  with_reducible refine (HR.out).mono ?_
  rintro e w1 ⟨rfl, hg⟩
  have HF := Lib.hid (hg.callx (sepLx (R := fun x : Value × Value => fun e => e = .returned (.bool true) ∧ ∃ y k, x.1 = .slice y l.length k)
    (A' := fun x => Sep (Trace b c g cap (Tr.on { tr0 head sn with steps := st } x.1 x.2) (Sep (Refs x.1 l) Emp)) (Seq 1 x.2 (wordsTo l l.length).length ((wordsTo l l.length).map (Value.int .i64))))
    fun S h => (trace_first HC.out HS.out hmd HN.out h).mono fun e w' ⟨rv, wv, he, hf, hg⟩ => ⟨(rv, wv), ⟨he, hf⟩, hg⟩))
  clear HR hg c11 c9
  unfold cx at HF
  go_wp2_with fail
  with_reducible refine HF.out.mono ?_
  rintro e w2 ⟨⟨rv, wv⟩, ⟨rfl, hf⟩, hg⟩
  have HG := Lib.hid (hg.conv fun S w h => sepAt.monoL (fun S h => sepAt.in2 h) h)
  have HFF := Lib.hid hf
  clear HF hg hf
  go_wp2_with fail
  go_ret
  exact ⟨rv, wv, rfl, HFF.out, HG.out⟩
set_option maxRecDepth 100000 in
theorem trace_step0 {sn : Bool} {st : Int} {md : Nat} {head : Nat} (hc : c.ok) (hs : c.shapes[0]? = some (false, l)) (hmd : md ≤ 1) (hne : (wordsTo l l.length).length ≠ 0) (hh : head < c.frags) (hn : head * 8 + 1 < n) (hn2 : n ≤ 20000) (hm : m (head * 8 + 1) = cx 0 md)
    (h : (Sep (Trace b c g cap { tr0 head sn with steps := st } Emp) (Sep (Mem bm gm n m) Y)).at_ S w) (p : Value) :
    Calls Tryz.prog 145 #[.pointer (some ⟨b, 0, none⟩), .pointer (some ⟨bm, 0, none⟩), p] w fun e w' => ∃ t' : Tr, (e = .returned (.bool false) ∧ t'.head = head ∧ t'.pc = 1 ∧ ∃ x k, t'.rv = .slice x l.length k) ∧ Goes (Sep (TraceOn b c g cap t' (wordsTo l l.length) l) (Sep (Mem bm gm n m) Y)) S w w' := by
  have g0 := Goes.begin h
  have c11 := g0.l.c 11 (v := .int .i64 0) rfl
  have c22 := g0.l.c 22 (v := .int .i64 st) rfl
  have f22 := g0.l.fr 22
  have HD := Lib.hid ((tr_step h).callx (R := fun x : Value × Value => fun e => e = .returned (.bool true) ∧ ∃ y k, x.1 = .slice y l.length k)
    (O' := fun x => Sep (TraceOn b c g cap { head := head, sense := sn, pc := 1, rv := x.1, words := x.2, next := 0, steps := wrap64 (st + 1) } (wordsTo l l.length) l) (Sep (Mem bm gm n m) Y))
    fun S h => (trace_does0 hc hs hmd hne hh hn hn2 hm h p).mono fun e w' ⟨rv, wv, he, hf, hg⟩ => ⟨(rv, wv), ⟨he, hf⟩, hg⟩)
  clear g0 h hc hs hne hm
  go_enter Tryz.func145, Tryz.ntmps145
  go_wp2_with fail
  with_reducible refine HD.out.mono ?_
  rintro e w2 ⟨⟨rv, wv⟩, ⟨rfl, hf⟩, hg⟩
  have HG := Lib.hid hg
  have HF := Lib.hid hf
  have d11 := hg.l.c 11 (v := .int .i64 1) rfl
  clear HD hg hf c11 c22 f22
  go_wp2_with fail
  go_ret
  exact ⟨_, ⟨rfl, rfl, rfl, HF.out⟩, HG.out⟩
set_option maxRecDepth 100000 in
theorem trace_does_on {k : Nat} {x : Int} {ws : List Int} {x0 : Option Addr} {k0 : Nat} (hc : c.ok) (hx : t.rv = .slice x0 l.length k0) (hl : l.length ≤ 6) (hpc : t.pc = 1) (hk : k < 8) (hws : ws.length ≤ 100) (hh : t.head < c.frags) (hn : t.head * 8 + k < n) (hn2 : n ≤ 20000) (hm : m (t.head * 8 + k) = vNone)
    (h : (Sep (TraceOn b c g cap t (k :: x :: ws) l) (Sep (Mem bm gm n m) Y)).at_ S w) (p : Value) :
    Calls Tryz.prog 213 #[.pointer (some ⟨b, 0, none⟩), .pointer (some ⟨bm, 0, none⟩), p] w fun e w' => ∃ wv, e = .returned (.bool true) ∧ Goes (Sep (TraceOn b c g cap { t with pc := 1, words := wv, next := 0 } (x :: ws) l) (Sep (Mem bm gm n m) Y)) S w w' := by
  have g0 := Goes.begin h
  have c11 := g0.l.c 11 (v := .int .i64 t.pc) rfl
  have HR := Lib.hid (trace_walks_on hc hx hl hpc hk hws hh hn hn2 hm h p)
  rw [hpc] at c11
  clear g0 h hc hm hx hpc hws
  go_enter Tryz.func213, Tryz.ntmps213
  go_wp2_with fail
  with_reducible refine HR.out.mono ?_
  rintro e w2 ⟨wv, rfl, hg⟩
  have HG := Lib.hid hg
  clear HR hg c11
  go_wp2_with fail
  go_ret
  exact ⟨wv, rfl, HG.out⟩
set_option maxRecDepth 100000 in
theorem trace_does_end {k : Nat} {x0 : Option Addr} {k0 : Nat} (hc : c.ok) (hx : t.rv = .slice x0 l.length k0) (hl : l.length ≤ 6) (hpc : t.pc = 1) (hk : k < 8) (hh : t.head < c.frags) (hn : t.head * 8 + k < n) (hn2 : n ≤ 20000) (hm : m (t.head * 8 + k) = vNone)
    (h : (Sep (TraceOn b c g cap t [(k : Int)] l) (Sep (Mem bm gm n m) Y)).at_ S w) (p : Value) :
    Calls Tryz.prog 213 #[.pointer (some ⟨b, 0, none⟩), .pointer (some ⟨bm, 0, none⟩), p] w fun e w' => ∃ wv, e = .returned (.bool true) ∧ Goes (Sep (Trace b c g cap { t with pc := 9, words := wv, next := 0 } Emp) (Sep (Mem bm gm n m) Y)) S w w' := by
  have g0 := Goes.begin h
  have c11 := g0.l.c 11 (v := .int .i64 t.pc) rfl
  have HR := Lib.hid (trace_walks_end hc hx hl hpc hk hh hn hn2 hm h p)
  rw [hpc] at c11
  clear g0 h hc hm hx hpc
  go_enter Tryz.func213, Tryz.ntmps213
  go_wp2_with fail
  with_reducible refine HR.out.mono ?_
  rintro e w2 ⟨wv, rfl, hg⟩
  have HG := Lib.hid hg
  clear HR hg c11
  go_wp2_with fail
  go_ret
  exact ⟨wv, rfl, HG.out⟩
set_option maxRecDepth 100000 in
theorem trace_step_on {k : Nat} {x : Int} {ws : List Int} {x0 : Option Addr} {k0 : Nat} (hc : c.ok) (hx : t.rv = .slice x0 l.length k0) (hl : l.length ≤ 6) (hpc : t.pc = 1) (hk : k < 8) (hws : ws.length ≤ 100) (hh : t.head < c.frags) (hn : t.head * 8 + k < n) (hn2 : n ≤ 20000) (hm : m (t.head * 8 + k) = vNone)
    (h : (Sep (TraceOn b c g cap t (k :: x :: ws) l) (Sep (Mem bm gm n m) Y)).at_ S w) (p : Value) :
    Calls Tryz.prog 145 #[.pointer (some ⟨b, 0, none⟩), .pointer (some ⟨bm, 0, none⟩), p] w fun e w' => ∃ t' : Tr, (e = .returned (.bool false) ∧ t'.head = t.head ∧ t'.pc = 1 ∧ ∃ x k, t'.rv = .slice x l.length k) ∧ Goes (Sep (TraceOn b c g cap t' (x :: ws) l) (Sep (Mem bm gm n m) Y)) S w w' := by
  have g0 := Goes.begin h
  have c11 := g0.l.c 11 (v := .int .i64 t.pc) rfl
  rw [hpc] at c11
  have c22 := g0.l.c 22 (v := .int .i64 t.steps) rfl
  have f22 := g0.l.fr 22
  have HX := Lib.hid hx
  have HD := Lib.hid ((tr_step h).callx (R := fun _ : Value => fun e => e = .returned (.bool true))
    (O' := fun wv => Sep (TraceOn b c g cap { t with pc := 1, words := wv, next := 0, steps := wrap64 (t.steps + 1) } (x :: ws) l) (Sep (Mem bm gm n m) Y))
    fun S h => trace_does_on (t := { t with steps := wrap64 (t.steps + 1) }) hc hx hl hpc hk hws hh hn hn2 hm h p)
  clear g0 h hc hx hm hpc hws
  go_enter Tryz.func145, Tryz.ntmps145
  go_wp2_with fail
  with_reducible refine HD.out.mono ?_
  rintro e w2 ⟨wv, rfl, hg⟩
  have HG := Lib.hid hg
  have d11 := hg.l.c 11 (v := .int .i64 1) rfl
  clear HD hg c11 c22 f22
  go_wp2_with fail
  go_ret
  exact ⟨{ t with pc := 1, words := wv, next := 0, steps := wrap64 (t.steps + 1) }, ⟨rfl, rfl, rfl, _, _, HX.out⟩, HG.out⟩
set_option maxRecDepth 100000 in
theorem trace_step_end {k : Nat} {x0 : Option Addr} {k0 : Nat} (hc : c.ok) (hx : t.rv = .slice x0 l.length k0) (hl : l.length ≤ 6) (hpc : t.pc = 1) (hk : k < 8) (hh : t.head < c.frags) (hn : t.head * 8 + k < n) (hn2 : n ≤ 20000) (hm : m (t.head * 8 + k) = vNone)
    (h : (Sep (TraceOn b c g cap t [(k : Int)] l) (Sep (Mem bm gm n m) Y)).at_ S w) (p : Value) :
    Calls Tryz.prog 145 #[.pointer (some ⟨b, 0, none⟩), .pointer (some ⟨bm, 0, none⟩), p] w fun e w' => ∃ t' : Tr, (e = .returned (.bool true)) ∧ Goes (Sep (Trace b c g cap t' Emp) (Sep (Mem bm gm n m) Y)) S w w' := by
  have g0 := Goes.begin h
  have c11 := g0.l.c 11 (v := .int .i64 t.pc) rfl
  rw [hpc] at c11
  have c22 := g0.l.c 22 (v := .int .i64 t.steps) rfl
  have f22 := g0.l.fr 22
  have HD := Lib.hid ((tr_step h).callx (R := fun _ : Value => fun e => e = .returned (.bool true))
    (O' := fun wv => Sep (Trace b c g cap { t with pc := 9, words := wv, next := 0, steps := wrap64 (t.steps + 1) } Emp) (Sep (Mem bm gm n m) Y))
    fun S h => trace_does_end (t := { t with steps := wrap64 (t.steps + 1) }) hc hx hl hpc hk hh hn hn2 hm h p)
  clear g0 h hc hx hm hpc
  go_enter Tryz.func145, Tryz.ntmps145
  go_wp2_with fail
  with_reducible refine HD.out.mono ?_
  rintro e w2 ⟨wv, rfl, hg⟩
  have HG := Lib.hid hg
  have d11 := hg.l.c 11 (v := .int .i64 9) rfl
  clear HD hg c11 c22 f22
  go_wp2_with fail
  go_ret
  exact ⟨_, rfl, HG.out⟩
end
end Go.Proofs.YtnkgnhpapcnebaaGreat
/- The contracts of package haul, where there is nothing to copy. -/
namespace Go.Proofs.YtnkgnhpapcnebaaGreat
open Go.RowKit
attribute [local go_sem] run_store_complex via_ret via_normal via_exit via_panic
structure Hl where
  from_ : Int
  sense : Bool
  pc : Int
  steps : Int
def hlCells (c : Cf) (g cap : Nat) (t : Hl) : Array Value := #[.int .i64 c.frags, .int .i64 c.spine, .int .i64 c.globals, .int .i64 c.threads, .int .i64 c.locals, .int .i64 0, .int .i64 c.stack, .int .i64 c.low, .slice (some ⟨g, 0, none⟩) c.shapes.length cap,
  .int .i64 t.from_, .int .i64 0, .bool t.sense, .int .i64 t.pc, .int .i64 0, .int .i64 0, .int .i64 0, .int .i64 0, .int .i64 0, .complex .f64 0 0, .int .i64 0, .int .i64 0, .int .i64 t.steps]
/-- A haul over an empty space. -/
def Haul (b : Nat) (c : Cf) (g cap : Nat) (t : Hl) : Thing := Sep (Var b (hlCells c g cap t) 222) (Conf c g cap)
section
variable {c : Cf} {b g cap : Nat} {t : Hl} {S : Nat → Prop} {w w' : World} {X Y : Thing}
set_option maxRecDepth 100000 in
theorem hl9 (h : Goes (Haul b c g cap t) S w w') :
    w'.cell? ⟨b, 0, none⟩ = some (.int .i64 c.frags) ∧ w'.cell? ⟨b, 1, none⟩ = some (.int .i64 c.spine) ∧ w'.cell? ⟨b, 2, none⟩ = some (.int .i64 c.globals) ∧ w'.cell? ⟨b, 3, none⟩ = some (.int .i64 c.threads) ∧
    w'.cell? ⟨b, 4, none⟩ = some (.int .i64 c.locals) ∧ w'.cell? ⟨b, 5, none⟩ = some (.int .i64 0) ∧ w'.cell? ⟨b, 6, none⟩ = some (.int .i64 c.stack) ∧ w'.cell? ⟨b, 7, none⟩ = some (.int .i64 c.low) ∧ w'.cell? ⟨b, 8, none⟩ = some (.slice (some ⟨g, 0, none⟩) c.shapes.length cap) :=
  ⟨h.c 0 rfl, h.c 1 rfl, h.c 2 rfl, h.c 3 rfl, h.c 4 rfl, h.c 5 rfl, h.c 6 rfl, h.c 7 rfl, h.c 8 rfl⟩
set_option maxRecDepth 100000 in
theorem haul_new (from_ : Int) (sense : Bool) (hc : c.ok) (h : (Conf c g cap).at_ S w) :
    Calls Tryz.prog 97 #[cfV c g cap, .int .i64 from_, .int .i64 0, .bool sense] w fun e w' => ∃ b g' cap', e = .returned (.pointer (some ⟨b, 0, none⟩)) ∧ St w (Haul b c g' cap' ⟨from_, sense, 0, 0⟩) w' := by
  have hb0 : Below w.heap.size w (w.alloc (.cells (cfCells c (.slice (some ⟨g, 0, none⟩) c.shapes.length cap)) 36)) := (Below.refl w.heap.size w).alloc (Nat.le_refl _) _
  have C0 : Blk (w.alloc (.cells (cfCells c (.slice (some ⟨g, 0, none⟩) c.shapes.length cap)) 36)) w.heap.size (cfCells c (.slice (some ⟨g, 0, none⟩) c.shapes.length cap)) 36 := Blk.new w _ _
  have HB0 := Lib.hid hb0
  have HC0 := Lib.hid C0
  have HK := Lib.hid (fun w' hb => conf_copy hc (keep (w' := w') h hb))
  unfold cfV at *
  simp only [cfCells] at *
  clear h hc hb0
  go_enter Tryz.func97, Tryz.ntmps97
  go_upto_region 1 with fail
  generalize w.alloc _ = W1 at *
  obtain ⟨c0, c1, c2, c3, c4, c5, c6, c7, c8⟩ := cf9 C0
  clear C0
  go_wp2_with fail
  with_reducible refine (HK.out _ HB0.out).mono ?_
  rintro e w9 ⟨g', cap', rfl, hs⟩
  have hs := hs.onward HB0.out
  have hs2 := Lib.hid ((hs.var (hlCells c g' cap' ⟨from_, sense, 0, 0⟩) 222).swap)
  clear c0 c1 c2 c3 c4 c5 c6 c7 c8 HK HB0 HC0 hs
  unfold cfV
  simp only [hlCells] at hs2
  go_wp2_with fail
  go_ret
  exact ⟨_, g', cap', rfl, hs2.out⟩
set_option maxRecDepth 100000 in
theorem haul_looks (hpc : t.pc = 0) (h : (Haul b c g cap t).at_ S w) (p q : Value) :
    Calls Tryz.prog 214 #[.pointer (some ⟨b, 0, none⟩), p, q] w fun e w' => e = .returned (.bool true) ∧ Goes (Haul b c g cap { t with pc := 11 }) S w w' := by
  have g0 := Goes.begin h
  have c10 := g0.c 10 (v := .int .i64 0) rfl
  have c12 := g0.c 12 (v := .int .i64 t.pc) rfl
  rw [hpc] at c12
  have f12 := g0.fr 12
  have HG := Lib.hid (g0.put 12 (.int .i64 11) (cs' := hlCells c g cap { t with pc := 11 }) rfl)
  clear g0 h hpc
  go_enter Tryz.func214, Tryz.ntmps214
  go_wp2_with fail
  refine wp_scope_via 1 fun F hF => ?_
  go_wp2_with fail
  (try rw [via_ret])
  go_ret
  exact ⟨rfl, HG.out⟩
set_option maxRecDepth 100000 in
theorem haul_does (hc : c.ok) (hf : t.from_ = 0 ∨ t.from_ = 1) (hpc : t.pc = 0) (h : (Haul b c g cap t).at_ S w) (p q r : Value) :
    Calls Tryz.prog 152 #[.pointer (some ⟨b, 0, none⟩), p, q, r] w fun e w' => e = .returned (.bool true) ∧ Goes (Haul b c g cap { t with pc := 11 }) S w w' := by
  have g0 := Lib.hid (Goes.begin h).drew_
  have hne : Nonempty (In (Haul b c g cap t) S w) := ⟨⟨_, g0.out⟩⟩
  have C9 := Lib.hid fun i : In (Haul b c g cap t) S w => hl9 i.h
  have c9 := fun i : In (Haul b c g cap t) S w => i.h.c 9 (v := .int .i64 t.from_) rfl
  have c10 := fun i : In (Haul b c g cap t) S w => i.h.c 10 (v := .int .i64 0) rfl
  have HK := Lib.hid fun w1 (hg : Goes (Haul b c g cap t) S w w1) => hg.plain (conf_check hc hg.r.is)
  have c0 := fun i => (C9.out i).1
  have c1 := fun i => (C9.out i).2.1
  have c2 := fun i => (C9.out i).2.2.1
  have c3 := fun i => (C9.out i).2.2.2.1
  have c4 := fun i => (C9.out i).2.2.2.2.1
  have c5 := fun i => (C9.out i).2.2.2.2.2.1
  have c6 := fun i => (C9.out i).2.2.2.2.2.2.1
  have c7 := fun i => (C9.out i).2.2.2.2.2.2.2.1
  have c8 := fun i => (C9.out i).2.2.2.2.2.2.2.2
  have hs1 : decide ((c.spine : Int) < 0) = false := by simp
  have HPC := Lib.hid hpc
  clear h hc hpc C9
  unfold cfV at *
  rcases hf with hf | hf
  all_goals
    rw [hf] at c9
    clear hf
    go_enter Tryz.func152, Tryz.ntmps152
    go_wp2_with fail
    refine wp_region_in (by kernel_rfl) (by kernel_rfl) g0.out ?_
    repeat (go_big_quiet_step (exact In.call HK.out))
    refine wpQuiet_nil ?_
    intro w7 G7
    have G8 := Lib.hid (G7.call fun S h => haul_looks HPC.out h p q)
    have p12 := G7.c 12 (v := .int .i64 t.pc) rfl
    rw [HPC.out] at p12
    clear G7 HK g0 c0 c1 c2 c3 c4 c5 c6 c7 c8 c9 c10
    go_wp2_with fail
    with_reducible refine G8.out.mono ?_
    rintro e w8 ⟨rfl, hg⟩
    have HG := Lib.hid hg
    clear G8 hg
    go_wp2_with fail
    go_ret
    exact ⟨rfl, HG.out⟩
set_option maxRecDepth 100000 in
theorem haul_errno (h : (Haul b c g cap t).at_ S w) : Calls Tryz.prog 100 #[.pointer (some ⟨b, 0, none⟩)] w fun e w' => e = .returned (.int .i64 0) ∧ w = w' := by
  have c0 := (Goes.begin h).c 19 (v := .int .i64 0) rfl
  clear h
  go_enter Tryz.func100, Tryz.ntmps100
  go_wp2_with fail
  go_ret
  exact ⟨rfl, rfl⟩
set_option maxRecDepth 100000 in
theorem haul_moved (h : (Haul b c g cap t).at_ S w) : Calls Tryz.prog 101 #[.pointer (some ⟨b, 0, none⟩)] w fun e w' => e = .returned (.int .i64 0) ∧ w = w' := by
  have c0 := (Goes.begin h).c 20 (v := .int .i64 0) rfl
  clear h
  go_enter Tryz.func101, Tryz.ntmps101
  go_wp2_with fail
  go_ret
  exact ⟨rfl, rfl⟩
set_option maxRecDepth 100000 in
theorem haul_step (hc : c.ok) (hf : t.from_ = 0 ∨ t.from_ = 1) (hpc : t.pc = 0) (h : (Haul b c g cap t).at_ S w) (p q r : Value) :
    Calls Tryz.prog 99 #[.pointer (some ⟨b, 0, none⟩), p, q, r] w fun e w' => e = .returned (.bool true) ∧ Goes (Haul b c g cap { t with pc := 11, steps := wrap64 (t.steps + 1) }) S w w' := by
  have g0 := Goes.begin h
  have c12 := g0.c 12 (v := .int .i64 t.pc) rfl
  rw [hpc] at c12
  have c21 := g0.c 21 (v := .int .i64 t.steps) rfl
  have f21 := g0.fr 21
  have g1 := g0.put 21 (.int .i64 (wrap64 (t.steps + 1))) (cs' := hlCells c g cap { t with steps := wrap64 (t.steps + 1) }) rfl
  have HD := Lib.hid (g1.call fun S h => haul_does (t := { t with steps := wrap64 (t.steps + 1) }) hc hf hpc h p q r)
  clear g0 g1 h hc hf hpc
  go_enter Tryz.func99, Tryz.ntmps99
  go_wp2_with fail
  with_reducible refine HD.out.mono ?_
  rintro e w8 ⟨rfl, hg⟩
  have HG := Lib.hid hg
  have d12 := hg.c 12 (v := .int .i64 11) rfl
  clear HD hg c12 c21 f21
  go_wp2_with fail
  go_ret
  exact ⟨rfl, HG.out⟩
end
end Go.Proofs.YtnkgnhpapcnebaaGreat
/- The collector: its thing; small steps; handshakes. -/
namespace Go.Proofs.YtnkgnhpapcnebaaGreat
open Go.RowKit
attribute [local go_sem] run_store_complex via_ret via_normal via_exit via_panic
/-- The collector's cells. -/
structure Yc where
  st : Int
  at_ : Int
  i : Int
  head : Int
  rs : Bool
  tr : Value
  h : Value
  sn : Bool
  sd : Int
  fi : Int
  fr : Int
  mv : Int
  sp : Int
def cyCells (y : Yc) : Array Value := #[.int .i64 y.st, .int .i64 y.at_, .int .i64 y.i, .int .i64 y.head, .bool y.rs, y.tr, y.h, .bool y.sn, .int .i64 y.sd, .int .i64 y.fi, .int .i64 y.fr, .int .i64 y.mv, .int .i64 y.sp, .int .i64 0]
/-- The collector, and what is its. -/
def Cyc (b : Nat) (y : Yc) (K : Thing) : Thing := Sep (Var b (cyCells y) 118) K
def Yc.to (y : Yc) (s : Int) : Yc := { y with st := s, at_ := 0, i := 0 }
section
variable {b : Nat} {y : Yc} {K : Thing} {S : Nat → Prop} {w w' : World} {A : CA} {c : Cf} {q : Q}
set_option maxRecDepth 100000 in
theorem cy_enters (s : Int) (h : (Cyc b y K).at_ S w) :
    Calls Tryz.prog 42 #[.pointer (some ⟨b, 0, none⟩), .int .i64 s] w fun e w' => e = .returned (.tuple #[]) ∧ Goes (Cyc b (y.to s) K) S w w' := by
  have g0 := Goes.begin h
  have c0 := g0.c 0 (v := .int .i64 y.st) rfl
  have c1 := g0.c 1 (v := .int .i64 y.at_) rfl
  have c2 := g0.c 2 (v := .int .i64 y.i) rfl
  have f0 := g0.fr 0
  have f1 := g0.fr 1
  have f2 := g0.fr 2
  have g1 : Goes (Cyc b (y.to s) K) S w _ := (((g0.put 0 (.int .i64 s) (cs' := cyCells { y with st := s }) rfl).put 1 (.int .i64 0) (cs' := cyCells { y with st := s, at_ := 0 }) rfl).put 2 (.int .i64 0) (cs' := cyCells (y.to s)) rfl)
  have HG := Lib.hid g1
  clear h g0 g1
  go_enter Tryz.func42, Tryz.ntmps42
  go_wp2_with fail
  first | go_end0 | ((try simp only [Exit.inBlock, Exit.then]); refine bodyPost_ret (results_none rfl _ _ _) rfl ?_)
  exact ⟨rfl, HG.out⟩
set_option maxRecDepth 100000 in
theorem cy_polls (hc : c.ok) (h : (Sep (Core A c q) (Cyc b y K)).at_ S w) :
    Calls Tryz.prog 84 #[.pointer (some ⟨b, 0, none⟩), .pointer (some ⟨A.b, 0, none⟩)] w fun e w' => ∃ (r : Bool) (i : Int), e = .returned (.bool r) ∧ Goes (Sep (Core A c q) (Cyc b { y with i := i } K)) S w w' := by
  have g1 := (Goes.begin h).drew_
  have k12 := g1.l.c 12 (v := .pointer (some ⟨A.bh, 0, none⟩)) rfl
  have d2 := g1.r.c 2 (v := .int .i64 y.i) rfl
  have HL := Lib.hid ((core_hnR (hni_poll y.i hc.threads.2 _)).l.on g1)
  clear g1 h hc
  go_enter Tryz.func84, Tryz.ntmps84
  go_wp2_with fail
  go_still_tail 8, (by kernel_rfl)
  change wpList _ _ _ _ _ w.drew
  generalize w.drew = w1 at *
  go_wp2_with fail
  with_reducible refine HL.out.mono ?_
  rintro e w2 ⟨r, ⟨rfl, _⟩, hg⟩
  clear HL k12 d2
  cases r with
  | false =>
    have hg1 := hg.drewN_
    have d2 := hg.r.c 2 (v := .int .i64 y.i) rfl
    have k3 := hg.l.c 3 (v := .int .i64 c.threads) rfl
    have HG := Lib.hid hg
    clear hg hg1
    go_wp2_with fail
    go_quiet (fail)
    have HG2 := Lib.hid (HG.out.drewN_ nq)
    clear HG d2 k3
    go_wp2_with fail
    (try rw [via_ret])
    exact bodyPost_ret (v := .bool (y.i == (c.threads : Int))) (by simp [results, Tryz.results84, go_sem]) rfl ⟨_, _, rfl, HG2.out⟩
  | true =>
    have d2 := hg.r.c 2 (v := .int .i64 y.i) rfl
    have f2 := hg.r.fr 2
    have g3 : Goes (Sep (Core A c q) (Cyc b { y with i := wrap64 (y.i + 1) } K)) S w _ := hg.then fun S h => goesR (fun S h => (Goes.begin h).put 2 (.int .i64 (wrap64 (y.i + 1))) (cs' := cyCells { y with i := wrap64 (y.i + 1) }) rfl) S h
    have k3 := g3.l.c 3 (v := .int .i64 c.threads) rfl
    have HG := Lib.hid g3
    clear hg g3
    go_upto_region 3 with fail
    generalize World.setCell _ _ _ = w3 at *
    have d2 := HG.out.r.c 2 (v := .int .i64 (wrap64 (y.i + 1))) rfl
    go_wp2_with fail
    go_quiet (fail)
    have HG2 := Lib.hid (HG.out.drewN_ nq)
    clear HG d2 k3
    go_wp2_with fail
    (try rw [via_ret])
    exact bodyPost_ret (v := .bool (wrap64 (y.i + 1) == (c.threads : Int))) (by simp [results, Tryz.results84, go_sem]) rfl ⟨_, _, rfl, HG2.out⟩
set_option maxRecDepth 100000 in
theorem cy_follows (h : (Sep (Core A c q) (Cyc b y K)).at_ S w) :
    Calls Tryz.prog 91 #[.pointer (some ⟨b, 0, none⟩), .pointer (some ⟨A.b, 0, none⟩)] w fun e w' => ∃ (a i : Int), (e = .returned (.tuple #[]) ∧ (a = 0 ∨ a = 6)) ∧ Goes (Sep (Core A c q) (Cyc b { y with at_ := a, i := i } K)) S w w' := by
  have g0 := Goes.begin h
  have c1 := g0.r.c 1 (v := .int .i64 y.at_) rfl
  have c2 := g0.r.c 2 (v := .int .i64 y.i) rfl
  have f1 := g0.r.fr 1
  have f2 := g0.r.fr 2
  have g3 : Goes (Sep (Core A c q) (Cyc b { y with at_ := 6, i := wrap64 (y.i + 1) } K)) S w _ := g0.then fun S h => goesR (fun S h => ((Goes.begin h).put 1 (.int .i64 6) (cs' := cyCells { y with at_ := 6 }) rfl).put 2 (.int .i64 (wrap64 (y.i + 1))) (cs' := cyCells { y with at_ := 6, i := wrap64 (y.i + 1) }) rfl) S h
  have HG := Lib.hid g3
  clear h g0 g3
  go_enter Tryz.func91, Tryz.ntmps91
  go_upto_region 2 with fail
  generalize World.setCell (World.setCell _ _ _) _ _ = w3 at *
  clear c1 c2 f1 f2
  have d2 := HG.out.r.c 2 (v := .int .i64 (wrap64 (y.i + 1))) rfl
  have k0 := HG.out.l.c 0 (v := .int .i64 c.frags) rfl
  generalize wrap64 (y.i + 1) = i1 at *
  by_cases hi : i1 = (c.frags : Int)
  · have hd : decide (i1 = (c.frags : Int)) = true := by simpa using hi
    go_wp2_with fail
    go_quiet (fail)
    have g4 := HG.out.drewN_ nq
    have c1 := g4.r.c 1 (v := .int .i64 6) rfl
    have c2 := g4.r.c 2 (v := .int .i64 i1) rfl
    have f1 := g4.r.fr 1
    have f2 := g4.r.fr 2
    have g5 : Goes (Sep (Core A c q) (Cyc b { y with at_ := 0, i := 0 } K)) S w _ := g4.then fun S h => goesR (fun S h => ((Goes.begin h).put 1 (.int .i64 0) (cs' := cyCells { y with at_ := 0, i := i1 }) rfl).put 2 (.int .i64 0) (cs' := cyCells { y with at_ := 0, i := 0 }) rfl) S h
    have HG2 := Lib.hid g5
    clear g4 g5 d2 k0 HG
    go_wp2_with fail
    first | go_end0 | ((try simp only [Exit.inBlock, Exit.then]); refine bodyPost_ret (results_none rfl _ _ _) rfl ?_)
    exact ⟨_, _, ⟨rfl, .inl rfl⟩, HG2.out⟩
  · have hd : decide (i1 = (c.frags : Int)) = false := by simpa using hi
    go_wp2_with fail
    go_quiet (fail)
    have HG2 := Lib.hid (HG.out.drewN_ nq)
    clear HG d2 k0
    go_wp2_with fail
    first | go_end0 | ((try simp only [Exit.inBlock, Exit.then]); refine bodyPost_ret (results_none rfl _ _ _) rfl ?_)
    exact ⟨_, _, ⟨rfl, .inr rfl⟩, HG2.out⟩
set_option maxRecDepth 100000 in
/-- A handshake that ends with a post, before it. -/
theorem cy_hands0 (st s : Int) (hc : c.ok) (hat : y.at_ = 0) (h : (Sep (Core A c q) (Cyc b y K)).at_ S w) :
    Calls Tryz.prog 44 #[.pointer (some ⟨b, 0, none⟩), .pointer (some ⟨A.b, 0, none⟩), .int .i64 st, .int .i64 s] w fun e w' => ∃ (a i : Int), e = .returned (.tuple #[]) ∧ Goes (Sep (Core A c q) (Cyc b { y with at_ := a, i := i } K)) S w w' := by
  have c1 := (Goes.begin h).r.c 1 (v := .int .i64 y.at_) rfl
  rw [hat] at c1
  have HL := Lib.hid (cy_polls hc h)
  clear h hc
  go_enter Tryz.func44, Tryz.ntmps44
  go_wp2_with fail
  with_reducible refine HL.out.mono ?_
  rintro e w2 ⟨r, i, rfl, hg⟩
  clear HL c1
  cases r with
  | false =>
    have HG := Lib.hid hg
    clear hg
    go_wp2_with fail
    first | go_end0 | ((try simp only [Exit.inBlock, Exit.then]); refine bodyPost_ret (results_none rfl _ _ _) rfl ?_)
    exact ⟨_, _, rfl, HG.out⟩
  | true =>
    have c1 := hg.r.c 1 (v := .int .i64 y.at_) rfl
    have f1 := hg.r.fr 1
    have g3 : Goes (Sep (Core A c q) (Cyc b { y with at_ := 2, i := i } K)) S w _ := hg.then fun S h => goesR (fun S h => (Goes.begin h).put 1 (.int .i64 2) (cs' := cyCells { y with at_ := 2, i := i }) rfl) S h
    have HG := Lib.hid g3
    clear hg g3
    go_wp2_with fail
    first | go_end0 | ((try simp only [Exit.inBlock, Exit.then]); refine bodyPost_ret (results_none rfl _ _ _) rfl ?_)
    exact ⟨_, _, rfl, HG.out⟩
set_option maxRecDepth 100000 in
theorem cy_hands1 (st s : Int) (hs : 0 ≤ st) (hs4 : st ≤ 4) (hat : ¬ y.at_ = 0) (h : (Sep (Core A c q) (Cyc b y K)).at_ S w) :
    Calls Tryz.prog 44 #[.pointer (some ⟨b, 0, none⟩), .pointer (some ⟨A.b, 0, none⟩), .int .i64 st, .int .i64 s] w fun e w' => e = .returned (.tuple #[]) ∧ Goes (Sep (Core A c { q with h := { q.h with st := st, sn := q.h.sn != false } }) (Cyc b (y.to s) K)) S w w' := by
  have c1 := (Goes.begin h).r.c 1 (v := .int .i64 y.at_) rfl
  have k12 := (Goes.begin h).l.c 12 (v := .pointer (some ⟨A.bh, 0, none⟩)) rfl
  have HL := Lib.hid ((core_hn (k := fun _ => { q.h with st := st, sn := q.h.sn != false }) (hni_post st false hs hs4 _)).l.on (Goes.begin h))
  clear h
  go_enter Tryz.func44, Tryz.ntmps44
  go_wp2_with fail
  with_reducible refine HL.out.mono ?_
  rintro e w2 ⟨_, rfl, hg⟩
  have HE := Lib.hid (hg.call (sepR fun S h => cy_enters s h))
  clear HL c1 k12 hg
  go_wp2_with fail
  with_reducible refine HE.out.mono ?_
  rintro e w2 ⟨rfl, hg⟩
  have HG := Lib.hid hg
  clear HE hg
  go_wp2_with fail
  first | go_end0 | ((try simp only [Exit.inBlock, Exit.then]); refine bodyPost_ret (results_none rfl _ _ _) rfl ?_)
  exact ⟨rfl, HG.out⟩
end
end Go.Proofs.YtnkgnhpapcnebaaGreat
/- Makers: a thread, a cycle. -/
namespace Go.Proofs.YtnkgnhpapcnebaaGreat
open Go.RowKit
attribute [local go_sem] run_store_complex via_ret via_normal via_exit via_panic
set_option maxRecDepth 100000 in
theorem Tryz.info26 : (Tryz.prog.info? 26).map (fun i => (i.zero, i.size, i.bytes)) = some (some (.agg #[.int .i64 0, .int .i64 0, .int .i64 0, .int .i64 0, .int .i64 0, .complex .f64 0 0]), 6, 56) := by kernel_rfl
section
variable {S : Nat → Prop} {w w' : World} {v : Value} {n : Nat} {xs : List Value}
set_option maxRecDepth 100000 in
theorem clone_ops (hn : n ≤ 1000) (hne : n ≠ 0) (hx : ∀ x ∈ xs, x.oneCell' = true) (h : (Seq 6 v n xs).at_ S w) :
    Calls Tryz.prog 40 #[v] w fun e w' => ∃ og oc, e = .returned (.slice (some ⟨og, 0, none⟩) n oc) ∧ St w (Seq 6 (.slice (some ⟨og, 0, none⟩) n oc) n xs) w' := by
  obtain ⟨g, o, cap, cs, t, rfl, h2, h3, h4, hb, h6, h7, h8⟩ := h
  obtain ⟨i0, hi, hz0, hz1, hz2⟩ := info_parts Tryz.info26
  have he := Lib.run_eql_slice_nil (P := Tryz.prog) w 27 26 (some ⟨g, o, none⟩) n cap 0 0 Tryz.underlying27
  have HC := Lib.hid h7
  have HB := Lib.hid hb
  have HX := Lib.hid hx
  clear hb h6 h7 h8 hx
  go_enter Tryz.func40, Tryz.ntmps40
  go_wp2_with (at_builtin; refine wpList_app rfl _ _ 27 rfl 26 i0 (.agg #[.int .i64 0, .int .i64 0, .int .i64 0, .int .i64 0, .int .i64 0, .complex .f64 0 0]) 6 56 Tryz.underlying27 hi hz0 hz1 hz2 rfl (by decide) _ _ _ rfl (World.ownsRow_made w #[] 0 (Nat.zero_le _) (Nat.zero_le _) rfl) ⟨g, o, none⟩ n cap xs rfl ?c0 ?c1 ?c2 ?c3 (by decide) ?_)
  case c0 => exact h4
  case c1 =>
    intro j u hj
    rw [add_none, (HB.out.alloc _).cell]
    exact HC.out j u hj
  case c2 => exact HX.out
  case c3 => omega
  intro v' w1 hown hg hb
  have G := Lib.hid hg
  have B := Lib.hid hb
  have HO := Lib.hid hown
  clear hg hb hown
  go_wp2_with fail
  go_ret
  have ho : w1.ownsRow 0 26 6 v' n xs := by simpa using HO.out
  have hbel : Below w.heap.size w w1 := ((Below.refl _ _).alloc (Nat.le_refl _) _).grown G.out (by simp) (fun k hk => by simp [Value.ownBlock] at hk; omega)
  have hrow : (RowG 26 6 v' n xs).at_ (fun k => v'.ownBlock = some k) w1 := ⟨ho, fun k => Iff.rfl⟩
  rcases ho.2 with ⟨_, e⟩ | ⟨g', cap', cur, e, _, e2, e3, e4, e5, e6⟩
  · exact absurd e hne
  · subst e
    refine ⟨g', cap', rfl, ⟨_, seq_of_row hrow hne, fun k hk => ?_⟩, hbel⟩
    have := ownBlock_lt HO.out hk
    rcases B.out with e | e
    · rw [e] at hk; simp [Value.ownBlock] at hk; omega
    · rw [e] at hk; simp at hk; omega
set_option maxRecDepth 100000 in
theorem cycle_new (w : World) : Calls Tryz.prog 13 #[] w fun e w' => ∃ b, e = .returned (.pointer (some ⟨b, 0, none⟩)) ∧ St w (Cyc b ⟨0, 0, 0, 0, false, .pointer none, .pointer none, false, 0, 0, 0, 0, 0⟩ Emp) w' := by
  have hs := Lib.hid ((St.fresh (w := w) (cyCells ⟨0, 0, 0, 0, false, .pointer none, .pointer none, false, 0, 0, 0, 0, 0⟩) 118).conv (B := Cyc w.heap.size ⟨0, 0, 0, 0, false, .pointer none, .pointer none, false, 0, 0, 0, 0, 0⟩ Emp) fun S w h => emp_more h)
  simp only [cyCells] at hs
  go_enter Tryz.func13, Tryz.ntmps13
  go_wp2_with fail
  go_ret
  exact ⟨_, rfl, hs.out⟩
end
end Go.Proofs.YtnkgnhpapcnebaaGreat
