import Derived.WalkKit
import Derived.Below
import Derived.WalkSmall
import Derived.Lib.Hide
import Derived.OneCell
import Derived.Maps.AppendAt
namespace Go.Proofs.Ytcdmlimhkmbiiaa
open Go.RowKit

/-- Blocks: what a block number stands for. -/
def Blk (w : World) (b : Nat) (cs : Array Value) (t : TypeId) : Prop := w.heap[b]? = some (.cells cs t (0, 0))

theorem Blk.lt {w : World} {b : Nat} {cs : Array Value} {t : TypeId} (h : Blk w b cs t) : b < w.heap.size := lt_of_block h
theorem Blk.cell {w : World} {b : Nat} {cs : Array Value} {t : TypeId} (h : Blk w b cs t) (i : Nat) : w.cell? ⟨b, i, none⟩ = cs[i]? := by
  unfold Blk at h; simp [World.cell?, h]
theorem Blk.free {w : World} {b : Nat} {cs : Array Value} {t : TypeId} (h : Blk w b cs t) (i : Nat) : w.frozen? ⟨b, i, none⟩ = false := by
  unfold Blk at h; simp [World.frozen?, h]
theorem Blk.set {w : World} {b : Nat} {cs : Array Value} {t : TypeId} (h : Blk w b cs t) (i : Nat) (v : Value) : Blk (w.setCell ⟨b, i, none⟩ v) b (cs.setIfInBounds i v) t := by
  unfold Blk at *
  have hlt := lt_of_block h
  have h' : w.heap[b] = .cells cs t (0, 0) := by simpa [Array.getElem?_eq_getElem hlt] using h
  show (w.heap.modify b _)[b]? = _
  rw [Array.getElem?_eq_getElem (by simpa using hlt), Array.getElem_modify_self, h']
  rfl
theorem Blk.far {w : World} {b : Nat} {cs : Array Value} {t : TypeId} (h : Blk w b cs t) {a : Addr} (ha : b ≠ a.block) (v : Value) : Blk (w.setCell a v) b cs t := by
  unfold Blk at *; rw [Below.heap_setCell _ _ _ _ ha]; exact h
theorem Blk.drew {w : World} {b : Nat} {cs : Array Value} {t : TypeId} (h : Blk w b cs t) : Blk w.drew b cs t := h
theorem Blk.alloc {w : World} {b : Nat} {cs : Array Value} {t : TypeId} (h : Blk w b cs t) (o : Obj) : Blk (w.alloc o) b cs t := by
  unfold Blk at *; rw [Below.heap_alloc _ _ _ (lt_of_block h)]; exact h
theorem Blk.new (w : World) (cs : Array Value) (t : TypeId) : Blk (w.alloc (.cells cs t)) w.heap.size cs t := heap_alloc_new w _

/-- Only blocks of S have turned; blocks have come. -/
structure Turned (S : Nat → Prop) (w w' : World) : Prop where
  os : w'.os = w.os
  tape : w'.tape = w.tape
  output : w'.output = w.output
  size : w.heap.size ≤ w'.heap.size
  block : ∀ k, k < w.heap.size → ¬ S k → w'.heap[k]? = w.heap[k]?

theorem Turned.refl (S : Nat → Prop) (w : World) : Turned S w w := ⟨rfl, rfl, rfl, Nat.le_refl _, fun _ _ _ => rfl⟩
theorem Turned.trans {S S' T : Nat → Prop} {a b c : World} (h : Turned S a b) (k : Turned S' b c) (h1 : ∀ x, S x → T x) (h2 : ∀ x, S' x → T x ∨ a.heap.size ≤ x) : Turned T a c :=
  ⟨k.os.trans h.os, k.tape.trans h.tape, k.output.trans h.output, Nat.le_trans h.size k.size, fun x hx hT =>
    (k.block x (Nat.lt_of_lt_of_le hx h.size) (fun hs => (h2 x hs).elim hT (fun _ => by omega))).trans (h.block x hx (fun hs => hT (h1 x hs)))⟩
theorem Turned.drew {S : Nat → Prop} {a w : World} (h : Turned S a w) : Turned S a w.drew := ⟨h.os, h.tape, h.output, h.size, h.block⟩
theorem Turned.drewN {S : Nat → Prop} {a w : World} (h : Turned S a w) (n : Nat) : Turned S a (w.drewN n) := ⟨h.os, h.tape, h.output, h.size, h.block⟩
theorem Turned.alloc {S : Nat → Prop} {a w : World} (h : Turned S a w) (o : Obj) : Turned S a (w.alloc o) :=
  ⟨h.os, h.tape, h.output, Nat.le_trans h.size (by simp), fun x hx hS => (Below.heap_alloc w o x (Nat.lt_of_lt_of_le hx h.size)).trans (h.block x hx hS)⟩
theorem Turned.setCell {S : Nat → Prop} {a w : World} (h : Turned S a w) {p : Addr} (hp : S p.block ∨ a.heap.size ≤ p.block) (u : Value) : Turned S a (w.setCell p u) :=
  ⟨h.os, h.tape, h.output, by simpa using h.size, fun x hx hS => (Below.heap_setCell w p u x (by rintro rfl; exact hp.elim hS (fun _ => by omega))).trans (h.block x hx hS)⟩
theorem Turned.grown {S : Nat → Prop} {a w w' : World} {row : Option Nat} (h : Turned S a w) (hg : w.grownBy w' row) (hr : ∀ k, row = some k → S k ∨ a.heap.size ≤ k) : Turned S a w' :=
  ⟨hg.os.trans h.os, hg.tape.trans h.tape, hg.output.trans h.output, Nat.le_trans h.size hg.size, fun x hx hS =>
    (hg.block x (Nat.lt_of_lt_of_le hx h.size) (fun e => (hr x e.symm).elim hS (fun _ => by omega))).trans (h.block x hx hS)⟩
theorem Turned.below {S : Nat → Prop} {B : Nat} {w w' : World} (h : Turned S w w') (hB : B ≤ w.heap.size) (hS : ∀ k, S k → B ≤ k) : Below B w w' :=
  ⟨h.os, h.tape, h.output, h.size, fun k hk => h.block k (by omega) (fun hs => by have := hS k hs; omega)⟩
theorem Turned.blk {S : Nat → Prop} {w w' : World} (h : Turned S w w') {b : Nat} {cs : Array Value} {t : TypeId} (hb : Blk w b cs t) (hS : ¬ S b) : Blk w' b cs t := by
  have := h.block b hb.lt hS
  unfold Blk at *; rw [this]; exact hb

/-- A thing in memory: what it says hangs on its own blocks alone. -/
structure Thing where
  at_ : (Nat → Prop) → World → Prop
  lt : ∀ {S w}, at_ S w → ∀ k, S k → k < w.heap.size
  kept : ∀ {S w w'}, at_ S w → (∀ k, S k → w'.heap[k]? = w.heap[k]?) → w.heap.size ≤ w'.heap.size → at_ S w'

/-- w' is behind a step of the thing that lies at S: its blocks have turned, others have come. -/
structure Goes (O : Thing) (S : Nat → Prop) (w w' : World) : Prop where
  now : ∃ S', O.at_ S' w' ∧ ∀ k, S' k → S k ∨ w.heap.size ≤ k
  turned : Turned S w w'

/-- The thing is there, and all its blocks are from B on. -/
def Has (B : Nat) (O : Thing) (w : World) : Prop := ∃ S, O.at_ S w ∧ ∀ k, S k → B ≤ k

/-- Two things, apart. -/
def Has2 (B : Nat) (O P : Thing) (w : World) : Prop := ∃ S T, O.at_ S w ∧ P.at_ T w ∧ (∀ k, S k → B ≤ k) ∧ (∀ k, T k → B ≤ k) ∧ ∀ k, S k → ¬ T k

theorem Thing.below {O : Thing} {S : Nat → Prop} {w w' : World} (h : O.at_ S w) {B : Nat} (hb : Below B w w') (hS : ∀ k, S k → k < B) : O.at_ S w' :=
  O.kept h (fun k hk => hb.block k (hS k hk)) hb.size

theorem Has.later {B : Nat} {O : Thing} {w w' : World} (h : Has B O w) (hb : Below w.heap.size w w') : Has B O w' := by
  obtain ⟨S, h1, h2⟩ := h
  exact ⟨S, O.kept h1 (fun k hk => hb.block k (O.lt h1 k hk)) hb.size, h2⟩
theorem Has2.later {B : Nat} {O P : Thing} {w w' : World} (h : Has2 B O P w) (hb : Below w.heap.size w w') : Has2 B O P w' := by
  obtain ⟨S, T, h1, h2, h3, h4, h5⟩ := h
  exact ⟨S, T, O.kept h1 (fun k hk => hb.block k (O.lt h1 k hk)) hb.size, P.kept h2 (fun k hk => hb.block k (P.lt h2 k hk)) hb.size, h3, h4, h5⟩
theorem Has2.swap {B : Nat} {O P : Thing} {w : World} (h : Has2 B O P w) : Has2 B P O w := by
  obtain ⟨S, T, h1, h2, h3, h4, h5⟩ := h
  exact ⟨T, S, h2, h1, h4, h3, fun k hk hs => h5 k hs hk⟩
/-- A step of the one thing. -/
theorem Has.goes {B : Nat} {O O' : Thing} {w : World} (h : Has B O w) (hB : B ≤ w.heap.size) {w' : World} (hg : ∀ S, O.at_ S w → Goes O' S w w') : Has B O' w' ∧ Below B w w' := by
  obtain ⟨S, h1, h2⟩ := h
  obtain ⟨⟨S', h3, h4⟩, h5⟩ := hg S h1
  exact ⟨⟨S', h3, fun k hk => (h4 k hk).elim (h2 k) (fun _ => by omega)⟩, h5.below hB h2⟩

/-- What append hands back lies where the old row lay, or in a new block. -/
theorem run_append_mine {P : Program} (w : World) (base : Nat) (t ty e : TypeId) (i : TypeInfo) (z : Value) (size bytes : Nat) (ht : P.underlying t = some (.slice e)) (hi : P.info? e = some i) (hz : i.zero = some z)
    (hsize : i.size = size) (hby : i.bytes = bytes) (hzs : z.cells.size = size) (hsz : 0 < size)
    (v : Value) (n : Nat) (xs : List Value) (hown : w.ownsRow base e size v n xs)
    (a : Addr) (m c : Nat) (news : List Value) (hl : news.length = m * size) (hnews : ∀ j u, news[j]? = some u → w.cell? (a.add j) = some u) (h1 : ∀ u ∈ news, u.oneCell' = true)
    (h63 : n + m ≤ maxLen) (hbytes : (n + m) * bytes ≤ 140737488355328) (hbase : base ≤ w.heap.size) :
    ∃ v' w', (Builtin.append_ #[t, t] ty #[v, .slice (some a) m c]).run P w = .ok v' w' ∧ w'.ownsRow base e size v' (n + m) (xs ++ news) ∧ w.grownBy w' v.ownBlock ∧
      (v'.ownBlock = v.ownBlock ∨ v'.ownBlock = some w.heap.size) := by
  obtain ⟨v', w', hr, ho, hg, _⟩ := run_append_own (P := P) w base t ty e i z size bytes ht hi hz hsize hby hzs hsz v n xs hown a m c news hl hnews h1 h63 hbytes hbase
  refine ⟨v', w', hr, ho, hg, ?_⟩
  subst hsize
  subst hby
  have hsmall : n + m ≤ 9223372036854775807 := by simp only [maxLen] at h63; omega
  rcases hown.2 with ⟨rfl, rfl⟩ | ⟨g, cap, cur, rfl, hbg, hg', hnc, hcm, hcs, htake⟩
  · by_cases hm : m = 0
    · subst hm
      have hn : news = [] := List.eq_nil_of_length_eq_zero (by simpa using hl)
      subst hn
      have : (Builtin.append_ #[t, t] ty #[.slice none 0 0, .slice (some a) 0 c]).run P w = .ok (.slice none 0 0) w := by
        simp [Builtin.append_, run_underlying ht, sizeOf, typeInfo, hi, Builtin.lenOf, Builtin.firstCells, loadCells, loadCellsFrom]
      rw [this] at hr; cases hr; exact .inl rfl
    · have hr2 := run_append_nil (P := P) w t ty e i z ht hi hz a m c news hl hnews (by omega) (by omega) (by have hb := hbytes; simp only [Nat.zero_add] at hb; omega)
      rw [hr2] at hr; cases hr; exact .inr rfl
  · by_cases hroom : n + m ≤ cap
    · have hfit : n * i.size + news.length ≤ cur.size := by rw [hl, hcs, ← Nat.add_mul]; exact Nat.mul_le_mul_right _ hroom
      have hr2 := run_append_room (P := P) w t ty e i ht hi g n cap cur hg' a m c news hl hnews h1 hroom hfit
      rw [hr2] at hr; cases hr; exact .inl rfl
    · have holds : ∀ j u, xs[j]? = some u → w.cell? ((⟨g, 0, none⟩ : Addr).add j) = some u := hown.cells (g := g) rfl
      have hr2 := run_append_grow (P := P) w t ty e i z ht hi hz ⟨g, 0, none⟩ n cap xs hown.1 holds a m c news hl hnews (by omega) (by omega) (growslice_fits (by omega) hbytes)
      rw [hr2] at hr; cases hr; exact .inr rfl

theorem ownBlock_lt {w : World} {base : Nat} {e : TypeId} {size : Nat} {v : Value} {n : Nat} {xs : List Value} (h : w.ownsRow base e size v n xs) {k : Nat} (hk : v.ownBlock = some k) : k < w.heap.size := (h.lt k hk).2

theorem ownsRow_same {w w' : World} {base : Nat} {e : TypeId} {size : Nat} {v : Value} {n : Nat} {xs : List Value} (h : w.ownsRow base e size v n xs) (hk : ∀ k, v.ownBlock = some k → w'.heap[k]? = w.heap[k]?) : w'.ownsRow base e size v n xs := by
  refine ⟨h.1, ?_⟩
  rcases h.2 with hn | ⟨g, cap, cur, rfl, hb, hgg, rest⟩
  · exact .inl hn
  · exact .inr ⟨g, cap, cur, rfl, hb, by rw [hk g rfl]; exact hgg, rest⟩

/-- append(s, x) onto a row that is nil or the call's own. -/
theorem wpList_push {P : Program} {w : World} {ops : Array Oper} {rest : List Oper} {o : Oper} {a : Act} {Q : Exit → Act → World → Prop} (hgd : o.guard = none) (s x : Operand) (t : TypeId)
    (ho : o.op = .call { callee := .builtin .append, args := #[s, x], argTypes := #[t, t] })
    (e : TypeId) (i : TypeInfo) (z : Value) (bytes : Nat) (ht : P.underlying t = some (.slice e)) (hi : P.info? e = some i) (hz : i.zero = some z)
    (hsize : i.size = 1) (hby : i.bytes = bytes) (hzs : z.cells.size = 1)
    (v : Value) (n : Nat) (xs : List Value) (hs : a.eval s = v) (hown : w.ownsRow 0 e 1 v n xs)
    (ad : Addr) (u : Value) (hx : a.eval x = .slice (some ad) 1 1) (hnews : w.cell? ad = some u) (h1 : u.oneCell' = true)
    (hn : n ≤ 1000000) (hbb : bytes ≤ 64)
    (h : ∀ v' w', w'.ownsRow 0 e 1 v' (n + 1) (xs ++ [u]) → w.grownBy w' v.ownBlock → (v'.ownBlock = v.ownBlock ∨ v'.ownBlock = some w.heap.size) → wpList P ops Q rest (a.put o.dst v') w') : wpList P ops Q (o :: rest) a w := by
  refine wpList_plain hgd fun K hK => ?_
  obtain ⟨v', w', hr, h2, h3, h4⟩ := run_append_mine (P := P) w 0 t o.type e i z 1 bytes ht hi hz hsize hby hzs (by omega) v n xs hown ad 1 1 [u] rfl
    (fun j y hj => by match j, hj with | 0, hj => simp at hj; subst hj; simpa [Addr.add] using hnews)
    (fun y hy => by simp at hy; subst hy; exact h1) (by unfold maxLen; omega) (by have : (n + 1) * bytes ≤ 1000001 * 64 := Nat.mul_le_mul (by omega) hbb; omega) (Nat.zero_le _)
  unfold Oper.wp execOp
  simp only [ho, resolve, invoke, builtin, Sem.run_bind, Sem.run_pure, Result.andThen_ok, List.map_toArray, List.map_cons, List.map_nil, hs, hx, hr]
  exact hK _ _ (h v' w' h2 h3 h4)

/-- The thing lies in memory that has come since W; what was there then is as it was. -/
def St (W : World) (O : Thing) (w : World) : Prop := Has W.heap.size O w ∧ Below W.heap.size W w
/-- Two things, apart. -/
def St2 (W : World) (O P : Thing) (w : World) : Prop := Has2 W.heap.size O P w ∧ Below W.heap.size W w

theorem St.below {W w : World} {O : Thing} (h : St W O w) : Below W.heap.size W w := h.2
theorem St2.below {W w : World} {O P : Thing} (h : St2 W O P w) : Below W.heap.size W w := h.2
theorem St.later {W w w' : World} {O : Thing} (h : St W O w) (hb : Below w.heap.size w w') : St W O w' := ⟨h.1.later hb, h.2.trans (hb.mono h.2.size)⟩
theorem St2.later {W w w' : World} {O P : Thing} (h : St2 W O P w) (hb : Below w.heap.size w w') : St2 W O P w' := ⟨h.1.later hb, h.2.trans (hb.mono h.2.size)⟩
theorem St2.swap {W w : World} {O P : Thing} (h : St2 W O P w) : St2 W P O w := ⟨h.1.swap, h.2⟩
theorem St.begin {W w w' : World} {O : Thing} (hw : Below W.heap.size W w) (h : ∃ S, O.at_ S w' ∧ ∀ k, S k → w.heap.size ≤ k) (hb : Below w.heap.size w w') : St W O w' := by
  obtain ⟨S, h1, h2⟩ := h
  exact ⟨⟨S, h1, fun k hk => Nat.le_trans hw.size (h2 k hk)⟩, hw.trans (hb.mono hw.size)⟩
theorem St2.begin {W w w' : World} {O P : Thing} (hw : St W O w) (h : ∃ S, P.at_ S w' ∧ ∀ k, S k → w.heap.size ≤ k) (hb : Below w.heap.size w w') : St2 W O P w' := by
  obtain ⟨T, h3, h4⟩ := h
  have hl := hw.later hb
  obtain ⟨⟨S, h1, h2⟩, h5⟩ := hw
  refine ⟨⟨S, T, O.kept h1 (fun k hk => hb.block k (O.lt h1 k hk)) hb.size, h3, h2, fun k hk => Nat.le_trans h5.size (h4 k hk), fun k hk hk' => ?_⟩, hl.2⟩
  have := O.lt h1 k hk
  have := h4 k hk'
  omega

theorem St.goes {W w w' : World} {O O' : Thing} (h : St W O w) (hg : ∀ S, O.at_ S w → Goes O' S w w') : St W O' w' := by
  have := h.1.goes h.2.size hg
  exact ⟨this.1, h.2.trans this.2⟩
theorem St2.goes {W w w' : World} {O O' P : Thing} (h : St2 W O P w) (hg : ∀ S, O.at_ S w → Goes O' S w w') : St2 W O' P w' := by
  obtain ⟨⟨S, T, h1, h2, h3, h4, h5⟩, h6⟩ := h
  obtain ⟨⟨S', g1, g2⟩, g3⟩ := hg S h1
  refine ⟨⟨S', T, g1, P.kept h2 (fun k hk => g3.block k (P.lt h2 k hk) (fun hs => h5 k hs hk)) g3.size, fun k hk => ?_, h4, fun k hk hk' => ?_⟩, h6.trans (g3.below h6.size h3)⟩
  · exact (g2 k hk).elim (h3 k) (fun h => Nat.le_trans h6.size h)
  · exact (g2 k hk).elim (fun h => h5 k h hk') (fun h => by have := P.lt h2 k hk'; omega)

section
variable {P : Program} {f : FuncId} {args : Array Value} {v : Value} {W w : World} {O O' T T' : Thing}
/-- A step by a contract. -/
theorem St.call (h : St W O w) (hc : ∀ S, O.at_ S w → Calls P f args w fun e w' => e = .returned v ∧ Goes O' S w w') :
    Calls P f args w fun e w' => e = .returned v ∧ St W O' w' := by
  obtain ⟨⟨S, h1, h2⟩, h3⟩ := h
  refine (hc S h1).mono fun e w' ⟨he, hg⟩ => ⟨he, ?_⟩
  obtain ⟨⟨S', g1, g2⟩, g3⟩ := hg
  exact ⟨⟨S', g1, fun k hk => (g2 k hk).elim (h2 k) (fun h => Nat.le_trans h3.size h)⟩, h3.trans (g3.below h3.size h2)⟩
theorem St.look (h : St W O w) (hc : ∀ S, O.at_ S w → Calls P f args w fun e w' => e = .returned v ∧ w = w') :
    Calls P f args w fun e w' => e = .returned v ∧ w = w' := hc h.1.choose h.1.choose_spec.1
theorem St2.call (h : St2 W O T w) (hc : ∀ S, O.at_ S w → Calls P f args w fun e w' => e = .returned v ∧ Goes O' S w w') :
    Calls P f args w fun e w' => e = .returned v ∧ St2 W O' T w' := by
  obtain ⟨⟨S, U, h1, h2, h3, h4, h5⟩, h6⟩ := h
  refine (hc S h1).mono fun e w' ⟨he, hg⟩ => ⟨he, ?_⟩
  obtain ⟨⟨S', g1, g2⟩, g3⟩ := hg
  refine ⟨⟨S', U, g1, T.kept h2 (fun k hk => g3.block k (T.lt h2 k hk) (fun hs => h5 k hs hk)) g3.size, fun k hk => ?_, h4, fun k hk hk' => ?_⟩, h6.trans (g3.below h6.size h3)⟩
  · exact (g2 k hk).elim (h3 k) (fun h => Nat.le_trans h6.size h)
  · exact (g2 k hk).elim (fun h => h5 k h hk') (fun h => by have := T.lt h2 k hk'; omega)
theorem St2.call' (h : St2 W O T w) (hc : ∀ S, T.at_ S w → Calls P f args w fun e w' => e = .returned v ∧ Goes T' S w w') :
    Calls P f args w fun e w' => e = .returned v ∧ St2 W O T' w' := (h.swap.call hc).mono fun _ _ ⟨he, hg⟩ => ⟨he, hg.swap⟩
theorem St2.look (h : St2 W O T w) (hc : ∀ S, O.at_ S w → Calls P f args w fun e w' => e = .returned v ∧ w = w') :
    Calls P f args w fun e w' => e = .returned v ∧ w = w' := hc h.1.choose h.1.choose_spec.choose_spec.1
theorem St2.look' (h : St2 W O T w) (hc : ∀ S, T.at_ S w → Calls P f args w fun e w' => e = .returned v ∧ w = w') :
    Calls P f args w fun e w' => e = .returned v ∧ w = w' := h.swap.look hc
end

/-- What the walk is told of a slice of integers that came in. -/
def IsRow (k : IntKind) (w : World) (a : Option Addr) (len cap : Nat) (zs : List Int) : Prop :=
  (a = none ∧ len = 0 ∧ cap = 0 ∧ zs = []) ∨
  ∃ x, a = some x ∧ len ≤ cap ∧ cap ≤ maxLen ∧ zs.length = cap ∧ (∀ i, i < zs.length → w.cell? (x.add i) = some (.int k (zs.getD i 0))) ∧ ∀ n ∈ zs, (Lit.int k n).wf = true

theorem row_at {k : IntKind} {w : World} {a : Option Addr} {len cap : Nat} {zs : List Int} (h : IsRow k w a len cap zs) {i : Nat} (hi : i < len) :
    ∃ b off, a = some ⟨b, off, none⟩ ∧ b < w.heap.size ∧ i < zs.length ∧ ∀ j, j < len → w.cell? ⟨b, off + j, none⟩ = some (.int k (zs.getD j 0)) := by
  rcases h with ⟨_, h, _⟩ | ⟨⟨b, off, spot⟩, rfl, h1, h2, h3, h4, h5⟩
  · omega
  · have h0 := h4 0 (by omega)
    obtain rfl : spot = none := by
      cases spot with
      | none => rfl
      | some s => simp [Addr.add, World.cell?] at h0; split at h0 <;> simp at h0
    refine ⟨b, off, rfl, World.block_lt_of_cell? _ _ h0, by omega, fun j hj => ?_⟩
    have := h4 j (by omega)
    unfold Addr.add at this; split at this
    · rename_i h; subst h; exact this
    · exact this
theorem IsRow.small {k : IntKind} {w : World} {a : Option Addr} {len cap : Nat} {zs : List Int} (h : IsRow k w a len cap zs) : len ≤ 9223372036854775807 ∧ len ≤ zs.length := by
  rcases h with ⟨_, rfl, _, rfl⟩ | ⟨x, _, h1, h2, h3, _⟩
  · simp
  · unfold maxLen at h2; omega

theorem take_succ_getD (z : List Int) (k : Nat) (h : k < z.length) : z.take (k + 1) = z.take k ++ [z.getD k 0] := by
  rw [List.take_succ_eq_append_getElem h]; simp [List.getD, h]
theorem IsRow.at_ {k : IntKind} {w : World} {a : Option Addr} {len cap : Nat} {zs : List Int} (h : IsRow k w a len cap zs) {i : Nat} (hi : i < len) :
    ∃ b off x, a = some ⟨b, off, none⟩ ∧ b < w.heap.size ∧ Hid (zs.take (i + 1) = zs.take i ++ [x]) ∧ w.cell? ⟨b, off + i, none⟩ = some (.int k x) := by
  obtain ⟨b, off, h1, h2, h3, h4⟩ := row_at h hi
  exact ⟨b, off, _, h1, h2, take_succ_getD _ _ h3, h4 i hi⟩
end Go.Proofs.Ytcdmlimhkmbiiaa
