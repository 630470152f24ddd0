/- Things in memory: what lies where, apart from one another; steps of them. -/
import Derived.WalkKit
import Derived.Below
import Derived.WalkSmall
import Derived.Lib.Hide
import Derived.OneCell
import Derived.Maps.AppendAt
import Derived.LoopTactic
import Derived.Deep.QuietTactic
set_option linter.unusedVariables false
set_option linter.unusedSimpArgs false
set_option maxHeartbeats 8000000
namespace Go.Proofs.YtnkgnhpapcnebaaGreat
open Go.RowKit
/-- Blocks: what a block number stands for. -/
def Blk (w : World) (b : Nat) (cs : Array Value) (t : TypeId) : Prop := w.heap[b]? = some (.cells cs t (0, 0))
theorem Blk.lt {w : World} {b : Nat} {cs : Array Value} {t : TypeId} (h : Blk w b cs t) : b < w.heap.size := lt_of_block h
theorem Blk.cell {w : World} {b : Nat} {cs : Array Value} {t : TypeId} (h : Blk w b cs t) (i : Nat) : w.cell? ⟨b, i, none⟩ = cs[i]? := by
  unfold Blk at h; simp [World.cell?, h]
theorem Blk.free {w : World} {b : Nat} {cs : Array Value} {t : TypeId} (h : Blk w b cs t) (i : Nat) : w.frozen? ⟨b, i, none⟩ = false := by
  unfold Blk at h; simp [World.frozen?, h]
theorem keepBlk {w w' : World} {b : Nat} {cs : Array Value} {t : TypeId} (h : Blk w b cs t) (hb : Below w.heap.size w w') : Blk w' b cs t := by unfold Blk at *; rw [hb.block b (lt_of_block h)]; exact h
theorem Blk.set {w : World} {b : Nat} {cs : Array Value} {t : TypeId} (h : Blk w b cs t) (i : Nat) (v : Value) : Blk (w.setCell ⟨b, i, none⟩ v) b (cs.setIfInBounds i v) t := by
  unfold Blk at *
  have hlt := lt_of_block h
  have h' : w.heap[b] = .cells cs t (0, 0) := by simpa [Array.getElem?_eq_getElem hlt] using h
  show (w.heap.modify b _)[b]? = _
  rw [Array.getElem?_eq_getElem (by simpa using hlt), Array.getElem_modify_self, h']
  rfl
theorem Blk.far {w : World} {b : Nat} {cs : Array Value} {t : TypeId} (h : Blk w b cs t) {a : Addr} (ha : b ≠ a.block) (v : Value) : Blk (w.setCell a v) b cs t := by
  unfold Blk at *; rw [Below.heap_setCell _ _ _ _ ha]; exact h
theorem Blk.drew {w : World} {b : Nat} {cs : Array Value} {t : TypeId} (h : Blk w b cs t) : Blk w.drew b cs t := h
theorem Blk.alloc {w : World} {b : Nat} {cs : Array Value} {t : TypeId} (h : Blk w b cs t) (o : Obj) : Blk (w.alloc o) b cs t := by
  unfold Blk at *; rw [Below.heap_alloc _ _ _ (lt_of_block h)]; exact h
theorem Blk.new (w : World) (cs : Array Value) (t : TypeId) : Blk (w.alloc (.cells cs t)) w.heap.size cs t := heap_alloc_new w _
/-- Cells from i on, one behind the other. -/
def setCells (w : World) (b : Nat) : Nat → List Value → World
  | _, [] => w
  | i, v :: vs => setCells (w.setCell ⟨b, i, none⟩ v) b (i + 1) vs
def setArr (cs : Array Value) : Nat → List Value → Array Value
  | _, [] => cs
  | i, v :: vs => setArr (cs.setIfInBounds i v) (i + 1) vs
theorem Blk.sets {w : World} {b : Nat} {cs : Array Value} {t : TypeId} : ∀ (i : Nat) (vs : List Value), Blk w b cs t → Blk (setCells w b i vs) b (setArr cs i vs) t
  | _, [], h => h
  | i, v :: vs, h => Blk.sets (i + 1) vs (h.set i v)
theorem setArr_get (vs : List Value) : ∀ (cs : Array Value) (i j : Nat), i + vs.length ≤ cs.size → (setArr cs i vs)[j]? = if i ≤ j ∧ j < i + vs.length then vs[j - i]? else cs[j]? := by
  induction vs with
  | nil => intro cs i j _; simp [setArr]; omega
  | cons v vs ih =>
    intro cs i j h
    simp at h
    rw [setArr, ih _ _ _ (by simp; omega)]
    by_cases e : j = i
    · subst e
      rw [if_neg (by omega), if_pos (by simp)]
      have h9 : j < cs.size := by omega
      simp [h9]
    · rw [Array.getElem?_setIfInBounds_ne (by omega)]
      by_cases h1 : i ≤ j ∧ j < i + (vs.length + 1)
      · rw [if_pos (by omega), if_pos (by simpa using h1), show j - i = (j - (i + 1)) + 1 by omega]; simp
      · rw [if_neg (by omega), if_neg (by simpa using h1)]
theorem Blk.fill {w : World} {b : Nat} {cs : Array Value} {t : TypeId} (h : Blk w b cs t) (vs : List Value) (hl : vs.length = cs.size) : Blk (setCells w b 0 vs) b vs.toArray t := by
  have := h.sets 0 vs
  rw [show setArr cs 0 vs = vs.toArray from ?_] at this
  · exact this
  · apply Array.ext_getElem?
    intro j
    rw [setArr_get vs cs 0 j (by omega)]
    by_cases e : j < vs.length
    · rw [if_pos (by omega)]; simp
    · rw [if_neg (by omega), Array.getElem?_eq_none (by omega)]; simp; omega
theorem setCells_size (b : Nat) (vs : List Value) : ∀ (w : World) (i : Nat), (setCells w b i vs).heap.size = w.heap.size := by
  induction vs with
  | nil => intro w i; rfl
  | cons v vs ih => intro w i; rw [setCells, ih]; simp
theorem setCells_far {b k : Nat} (hk : k ≠ b) (vs : List Value) : ∀ (w : World) (i : Nat), (setCells w b i vs).heap[k]? = w.heap[k]? := by
  induction vs with
  | nil => intro w i; rfl
  | cons v vs ih => intro w i; rw [setCells, ih, Below.heap_setCell _ _ _ _ hk]
theorem setCells_below {B b : Nat} {a : World} (hB : B ≤ b) (vs : List Value) : ∀ (w : World) (i : Nat), Below B a w → Below B a (setCells w b i vs) := by
  induction vs with
  | nil => intro w i h; exact h
  | cons v vs ih => intro w i h; exact ih _ _ (h.setCell hB _)
/-- Only blocks of S have turned; blocks have come. -/
structure Turned (S : Nat → Prop) (w w' : World) : Prop where
  os : w'.os = w.os
  tape : w'.tape = w.tape
  output : w'.output = w.output
  size : w.heap.size ≤ w'.heap.size
  block : ∀ k, k < w.heap.size → ¬ S k → w'.heap[k]? = w.heap[k]?
theorem Turned.refl (S : Nat → Prop) (w : World) : Turned S w w := ⟨rfl, rfl, rfl, Nat.le_refl _, fun _ _ _ => rfl⟩
theorem Turned.trans {S S' T : Nat → Prop} {a b c : World} (h : Turned S a b) (k : Turned S' b c) (h1 : ∀ x, S x → T x) (h2 : ∀ x, S' x → T x ∨ a.heap.size ≤ x) : Turned T a c :=
  ⟨k.os.trans h.os, k.tape.trans h.tape, k.output.trans h.output, Nat.le_trans h.size k.size, fun x hx hT =>
    (k.block x (Nat.lt_of_lt_of_le hx h.size) (fun hs => (h2 x hs).elim hT (fun _ => by omega))).trans (h.block x hx (fun hs => hT (h1 x hs)))⟩
theorem Turned.drew {S : Nat → Prop} {a w : World} (h : Turned S a w) : Turned S a w.drew := ⟨h.os, h.tape, h.output, h.size, h.block⟩
theorem Turned.drewN {S : Nat → Prop} {a w : World} (h : Turned S a w) (n : Nat) : Turned S a (w.drewN n) := ⟨h.os, h.tape, h.output, h.size, h.block⟩
theorem Turned.alloc {S : Nat → Prop} {a w : World} (h : Turned S a w) (o : Obj) : Turned S a (w.alloc o) :=
  ⟨h.os, h.tape, h.output, Nat.le_trans h.size (by simp), fun x hx hS => (Below.heap_alloc w o x (Nat.lt_of_lt_of_le hx h.size)).trans (h.block x hx hS)⟩
theorem Turned.setCell {S : Nat → Prop} {a w : World} (h : Turned S a w) {p : Addr} (hp : S p.block ∨ a.heap.size ≤ p.block) (u : Value) : Turned S a (w.setCell p u) :=
  ⟨h.os, h.tape, h.output, by simpa using h.size, fun x hx hS => (Below.heap_setCell w p u x (by rintro rfl; exact hp.elim hS (fun _ => by omega))).trans (h.block x hx hS)⟩
theorem Turned.grown {S : Nat → Prop} {a w w' : World} {row : Option Nat} (h : Turned S a w) (hg : w.grownBy w' row) (hr : ∀ k, row = some k → S k ∨ a.heap.size ≤ k) : Turned S a w' :=
  ⟨hg.os.trans h.os, hg.tape.trans h.tape, hg.output.trans h.output, Nat.le_trans h.size hg.size, fun x hx hS =>
    (hg.block x (Nat.lt_of_lt_of_le hx h.size) (fun e => (hr x e.symm).elim hS (fun _ => by omega))).trans (h.block x hx hS)⟩
theorem Turned.below {S : Nat → Prop} {B : Nat} {w w' : World} (h : Turned S w w') (hB : B ≤ w.heap.size) (hS : ∀ k, S k → B ≤ k) : Below B w w' :=
  ⟨h.os, h.tape, h.output, h.size, fun k hk => h.block k (by omega) (fun hs => by have := hS k hs; omega)⟩
theorem Turned.blk {S : Nat → Prop} {w w' : World} (h : Turned S w w') {b : Nat} {cs : Array Value} {t : TypeId} (hb : Blk w b cs t) (hS : ¬ S b) : Blk w' b cs t := by
  have := h.block b hb.lt hS
  unfold Blk at *; rw [this]; exact hb
/-- A thing in memory: what it says hangs on its own blocks alone. -/
structure Thing where
  at_ : (Nat → Prop) → World → Prop
  lt : ∀ {S w}, at_ S w → ∀ k, S k → k < w.heap.size
  kept : ∀ {S w w'}, at_ S w → (∀ k, S k → w'.heap[k]? = w.heap[k]?) → w.heap.size ≤ w'.heap.size → at_ S w'
/-- w' is behind a step of the thing that lies at S: its blocks have turned, others have come. -/
structure Goes (O : Thing) (S : Nat → Prop) (w w' : World) : Prop where
  now : ∃ S', O.at_ S' w' ∧ ∀ k, S' k → S k ∨ w.heap.size ≤ k
  turned : Turned S w w'
/-- The thing is there, and all its blocks are from B on. -/
def Has (B : Nat) (O : Thing) (w : World) : Prop := ∃ S, O.at_ S w ∧ ∀ k, S k → B ≤ k
/-- Two things, apart. -/
def Has2 (B : Nat) (O P : Thing) (w : World) : Prop := ∃ S T, O.at_ S w ∧ P.at_ T w ∧ (∀ k, S k → B ≤ k) ∧ (∀ k, T k → B ≤ k) ∧ ∀ k, S k → ¬ T k
theorem Thing.below {O : Thing} {S : Nat → Prop} {w w' : World} (h : O.at_ S w) {B : Nat} (hb : Below B w w') (hS : ∀ k, S k → k < B) : O.at_ S w' :=
  O.kept h (fun k hk => hb.block k (hS k hk)) hb.size
theorem Has.later {B : Nat} {O : Thing} {w w' : World} (h : Has B O w) (hb : Below w.heap.size w w') : Has B O w' := by
  obtain ⟨S, h1, h2⟩ := h
  exact ⟨S, O.kept h1 (fun k hk => hb.block k (O.lt h1 k hk)) hb.size, h2⟩
theorem Has2.later {B : Nat} {O P : Thing} {w w' : World} (h : Has2 B O P w) (hb : Below w.heap.size w w') : Has2 B O P w' := by
  obtain ⟨S, T, h1, h2, h3, h4, h5⟩ := h
  exact ⟨S, T, O.kept h1 (fun k hk => hb.block k (O.lt h1 k hk)) hb.size, P.kept h2 (fun k hk => hb.block k (P.lt h2 k hk)) hb.size, h3, h4, h5⟩
theorem Has2.swap {B : Nat} {O P : Thing} {w : World} (h : Has2 B O P w) : Has2 B P O w := by
  obtain ⟨S, T, h1, h2, h3, h4, h5⟩ := h
  exact ⟨T, S, h2, h1, h4, h3, fun k hk hs => h5 k hs hk⟩
/-- A step of the one thing. -/
theorem Has.goes {B : Nat} {O O' : Thing} {w : World} (h : Has B O w) (hB : B ≤ w.heap.size) {w' : World} (hg : ∀ S, O.at_ S w → Goes O' S w w') : Has B O' w' ∧ Below B w w' := by
  obtain ⟨S, h1, h2⟩ := h
  obtain ⟨⟨S', h3, h4⟩, h5⟩ := hg S h1
  exact ⟨⟨S', h3, fun k hk => (h4 k hk).elim (h2 k) (fun _ => by omega)⟩, h5.below hB h2⟩
/-- What append hands back lies where the old row lay, or in a new block. -/
theorem run_append_mine {P : Program} (w : World) (base : Nat) (t ty e : TypeId) (i : TypeInfo) (z : Value) (size bytes : Nat) (ht : P.underlying t = some (.slice e)) (hi : P.info? e = some i) (hz : i.zero = some z)
    (hsize : i.size = size) (hby : i.bytes = bytes) (hzs : z.cells.size = size) (hsz : 0 < size)
    (v : Value) (n : Nat) (xs : List Value) (hown : w.ownsRow base e size v n xs)
    (a : Addr) (m c : Nat) (news : List Value) (hl : news.length = m * size) (hnews : ∀ j u, news[j]? = some u → w.cell? (a.add j) = some u) (h1 : ∀ u ∈ news, u.oneCell' = true)
    (h63 : n + m ≤ maxLen) (hbytes : (n + m) * bytes ≤ 140737488355328) (hbase : base ≤ w.heap.size) :
    ∃ v' w', (Builtin.append_ #[t, t] ty #[v, .slice (some a) m c]).run P w = .ok v' w' ∧ w'.ownsRow base e size v' (n + m) (xs ++ news) ∧ w.grownBy w' v.ownBlock ∧
      (v'.ownBlock = v.ownBlock ∨ v'.ownBlock = some w.heap.size) := by
  obtain ⟨v', w', hr, ho, hg, _⟩ := run_append_own (P := P) w base t ty e i z size bytes ht hi hz hsize hby hzs hsz v n xs hown a m c news hl hnews h1 h63 hbytes hbase
  refine ⟨v', w', hr, ho, hg, ?_⟩
  subst hsize
  subst hby
  have hsmall : n + m ≤ 9223372036854775807 := by simp only [maxLen] at h63; omega
  rcases hown.2 with ⟨rfl, rfl⟩ | ⟨g, cap, cur, rfl, hbg, hg', hnc, hcm, hcs, htake⟩
  · by_cases hm : m = 0
    · subst hm
      have hn : news = [] := List.eq_nil_of_length_eq_zero (by simpa using hl)
      subst hn
      have : (Builtin.append_ #[t, t] ty #[.slice none 0 0, .slice (some a) 0 c]).run P w = .ok (.slice none 0 0) w := by
        simp [Builtin.append_, run_underlying ht, sizeOf, typeInfo, hi, Builtin.lenOf, Builtin.firstCells, loadCells, loadCellsFrom]
      rw [this] at hr; cases hr; exact .inl rfl
    · have hr2 := run_append_nil (P := P) w t ty e i z ht hi hz a m c news hl hnews (by omega) (by omega) (by have hb := hbytes; simp only [Nat.zero_add] at hb; omega)
      rw [hr2] at hr; cases hr; exact .inr rfl
  · by_cases hroom : n + m ≤ cap
    · have hfit : n * i.size + news.length ≤ cur.size := by rw [hl, hcs, ← Nat.add_mul]; exact Nat.mul_le_mul_right _ hroom
      have hr2 := run_append_room (P := P) w t ty e i ht hi g n cap cur hg' a m c news hl hnews h1 hroom hfit
      rw [hr2] at hr; cases hr; exact .inl rfl
    · have holds : ∀ j u, xs[j]? = some u → w.cell? ((⟨g, 0, none⟩ : Addr).add j) = some u := hown.cells (g := g) rfl
      have hr2 := run_append_grow (P := P) w t ty e i z ht hi hz ⟨g, 0, none⟩ n cap xs hown.1 holds a m c news hl hnews (by omega) (by omega) (growslice_fits (by omega) hbytes)
      rw [hr2] at hr; cases hr; exact .inr rfl
theorem ownBlock_lt {w : World} {base : Nat} {e : TypeId} {size : Nat} {v : Value} {n : Nat} {xs : List Value} (h : w.ownsRow base e size v n xs) {k : Nat} (hk : v.ownBlock = some k) : k < w.heap.size := (h.lt k hk).2
theorem ownsRow_same {w w' : World} {base : Nat} {e : TypeId} {size : Nat} {v : Value} {n : Nat} {xs : List Value} (h : w.ownsRow base e size v n xs) (hk : ∀ k, v.ownBlock = some k → w'.heap[k]? = w.heap[k]?) : w'.ownsRow base e size v n xs := by
  refine ⟨h.1, ?_⟩
  rcases h.2 with hn | ⟨g, cap, cur, rfl, hb, hgg, rest⟩
  · exact .inl hn
  · exact .inr ⟨g, cap, cur, rfl, hb, by rw [hk g rfl]; exact hgg, rest⟩
/-- append(s, x) onto a row that is nil or the call's own. -/
theorem wpList_push {P : Program} {w : World} {ops : Array Oper} {rest : List Oper} {o : Oper} {a : Act} {Q : Exit → Act → World → Prop} (hgd : o.guard = none) (s x : Operand) (t : TypeId)
    (ho : o.op = .call { callee := .builtin .append, args := #[s, x], argTypes := #[t, t] })
    (e : TypeId) (i : TypeInfo) (z : Value) (bytes : Nat) (ht : P.underlying t = some (.slice e)) (hi : P.info? e = some i) (hz : i.zero = some z)
    (hsize : i.size = 1) (hby : i.bytes = bytes) (hzs : z.cells.size = 1)
    (v : Value) (n : Nat) (xs : List Value) (hs : a.eval s = v) (hown : w.ownsRow 0 e 1 v n xs)
    (ad : Addr) (u : Value) (hx : a.eval x = .slice (some ad) 1 1) (hnews : w.cell? ad = some u) (h1 : u.oneCell' = true)
    (hn : n ≤ 1000000) (hbb : bytes ≤ 64)
    (h : ∀ v' w', w'.ownsRow 0 e 1 v' (n + 1) (xs ++ [u]) → w.grownBy w' v.ownBlock → (v'.ownBlock = v.ownBlock ∨ v'.ownBlock = some w.heap.size) → wpList P ops Q rest (a.put o.dst v') w') : wpList P ops Q (o :: rest) a w := by
  refine wpList_plain hgd fun K hK => ?_
  obtain ⟨v', w', hr, h2, h3, h4⟩ := run_append_mine (P := P) w 0 t o.type e i z 1 bytes ht hi hz hsize hby hzs (by omega) v n xs hown ad 1 1 [u] rfl
    (fun j y hj => by match j, hj with | 0, hj => simp at hj; subst hj; simpa [Addr.add] using hnews)
    (fun y hy => by simp at hy; subst hy; exact h1) (by unfold maxLen; omega) (by have : (n + 1) * bytes ≤ 1000001 * 64 := Nat.mul_le_mul (by omega) hbb; omega) (Nat.zero_le _)
  unfold Oper.wp execOp
  simp only [ho, resolve, invoke, builtin, Sem.run_bind, Sem.run_pure, Result.andThen_ok, List.map_toArray, List.map_cons, List.map_nil, hs, hx, hr]
  exact hK _ _ (h v' w' h2 h3 h4)
/-- The thing lies in memory that has come since W; what was there then is as it was. -/
def St (W : World) (O : Thing) (w : World) : Prop := Has W.heap.size O w ∧ Below W.heap.size W w
/-- Two things, apart. -/
def St2 (W : World) (O P : Thing) (w : World) : Prop := Has2 W.heap.size O P w ∧ Below W.heap.size W w
theorem St.below {W w : World} {O : Thing} (h : St W O w) : Below W.heap.size W w := h.2
theorem St2.below {W w : World} {O P : Thing} (h : St2 W O P w) : Below W.heap.size W w := h.2
theorem St.later {W w w' : World} {O : Thing} (h : St W O w) (hb : Below w.heap.size w w') : St W O w' := ⟨h.1.later hb, h.2.trans (hb.mono h.2.size)⟩
theorem St2.later {W w w' : World} {O P : Thing} (h : St2 W O P w) (hb : Below w.heap.size w w') : St2 W O P w' := ⟨h.1.later hb, h.2.trans (hb.mono h.2.size)⟩
theorem St2.swap {W w : World} {O P : Thing} (h : St2 W O P w) : St2 W P O w := ⟨h.1.swap, h.2⟩
theorem St.begin {W w w' : World} {O : Thing} (hw : Below W.heap.size W w) (h : ∃ S, O.at_ S w' ∧ ∀ k, S k → w.heap.size ≤ k) (hb : Below w.heap.size w w') : St W O w' := by
  obtain ⟨S, h1, h2⟩ := h
  exact ⟨⟨S, h1, fun k hk => Nat.le_trans hw.size (h2 k hk)⟩, hw.trans (hb.mono hw.size)⟩
theorem St2.begin {W w w' : World} {O P : Thing} (hw : St W O w) (h : ∃ S, P.at_ S w' ∧ ∀ k, S k → w.heap.size ≤ k) (hb : Below w.heap.size w w') : St2 W O P w' := by
  obtain ⟨T, h3, h4⟩ := h
  have hl := hw.later hb
  obtain ⟨⟨S, h1, h2⟩, h5⟩ := hw
  refine ⟨⟨S, T, O.kept h1 (fun k hk => hb.block k (O.lt h1 k hk)) hb.size, h3, h2, fun k hk => Nat.le_trans h5.size (h4 k hk), fun k hk hk' => ?_⟩, hl.2⟩
  have := O.lt h1 k hk
  have := h4 k hk'
  omega
theorem St.goes {W w w' : World} {O O' : Thing} (h : St W O w) (hg : ∀ S, O.at_ S w → Goes O' S w w') : St W O' w' := by
  have := h.1.goes h.2.size hg
  exact ⟨this.1, h.2.trans this.2⟩
theorem St2.goes {W w w' : World} {O O' P : Thing} (h : St2 W O P w) (hg : ∀ S, O.at_ S w → Goes O' S w w') : St2 W O' P w' := by
  obtain ⟨⟨S, T, h1, h2, h3, h4, h5⟩, h6⟩ := h
  obtain ⟨⟨S', g1, g2⟩, g3⟩ := hg S h1
  refine ⟨⟨S', T, g1, P.kept h2 (fun k hk => g3.block k (P.lt h2 k hk) (fun hs => h5 k hs hk)) g3.size, fun k hk => ?_, h4, fun k hk hk' => ?_⟩, h6.trans (g3.below h6.size h3)⟩
  · exact (g2 k hk).elim (h3 k) (fun h => Nat.le_trans h6.size h)
  · exact (g2 k hk).elim (fun h => h5 k h hk') (fun h => by have := P.lt h2 k hk'; omega)
section
variable {P : Program} {f : FuncId} {args : Array Value} {v : Value} {W w : World} {O O' T T' : Thing}
/-- A step by a contract. -/
theorem St.call (h : St W O w) (hc : ∀ S, O.at_ S w → Calls P f args w fun e w' => e = .returned v ∧ Goes O' S w w') :
    Calls P f args w fun e w' => e = .returned v ∧ St W O' w' := by
  obtain ⟨⟨S, h1, h2⟩, h3⟩ := h
  refine (hc S h1).mono fun e w' ⟨he, hg⟩ => ⟨he, ?_⟩
  obtain ⟨⟨S', g1, g2⟩, g3⟩ := hg
  exact ⟨⟨S', g1, fun k hk => (g2 k hk).elim (h2 k) (fun h => Nat.le_trans h3.size h)⟩, h3.trans (g3.below h3.size h2)⟩
theorem St.look (h : St W O w) (hc : ∀ S, O.at_ S w → Calls P f args w fun e w' => e = .returned v ∧ w = w') :
    Calls P f args w fun e w' => e = .returned v ∧ w = w' := hc h.1.choose h.1.choose_spec.1
theorem St2.call (h : St2 W O T w) (hc : ∀ S, O.at_ S w → Calls P f args w fun e w' => e = .returned v ∧ Goes O' S w w') :
    Calls P f args w fun e w' => e = .returned v ∧ St2 W O' T w' := by
  obtain ⟨⟨S, U, h1, h2, h3, h4, h5⟩, h6⟩ := h
  refine (hc S h1).mono fun e w' ⟨he, hg⟩ => ⟨he, ?_⟩
  obtain ⟨⟨S', g1, g2⟩, g3⟩ := hg
  refine ⟨⟨S', U, g1, T.kept h2 (fun k hk => g3.block k (T.lt h2 k hk) (fun hs => h5 k hs hk)) g3.size, fun k hk => ?_, h4, fun k hk hk' => ?_⟩, h6.trans (g3.below h6.size h3)⟩
  · exact (g2 k hk).elim (h3 k) (fun h => Nat.le_trans h6.size h)
  · exact (g2 k hk).elim (fun h => h5 k h hk') (fun h => by have := T.lt h2 k hk'; omega)
theorem St2.look (h : St2 W O T w) (hc : ∀ S, O.at_ S w → Calls P f args w fun e w' => e = .returned v ∧ w = w') :
    Calls P f args w fun e w' => e = .returned v ∧ w = w' := hc h.1.choose h.1.choose_spec.choose_spec.1
end
/-- What the walk is told of a slice of integers that came in. -/
def IsRow (k : IntKind) (w : World) (a : Option Addr) (len cap : Nat) (zs : List Int) : Prop :=
  (a = none ∧ len = 0 ∧ cap = 0 ∧ zs = []) ∨
  ∃ x, a = some x ∧ len ≤ cap ∧ cap ≤ maxLen ∧ zs.length = cap ∧ (∀ i, i < zs.length → w.cell? (x.add i) = some (.int k (zs.getD i 0))) ∧ ∀ n ∈ zs, (Lit.int k n).wf = true
theorem row_at {k : IntKind} {w : World} {a : Option Addr} {len cap : Nat} {zs : List Int} (h : IsRow k w a len cap zs) {i : Nat} (hi : i < len) :
    ∃ b off, a = some ⟨b, off, none⟩ ∧ b < w.heap.size ∧ i < zs.length ∧ ∀ j, j < len → w.cell? ⟨b, off + j, none⟩ = some (.int k (zs.getD j 0)) := by
  rcases h with ⟨_, h, _⟩ | ⟨⟨b, off, spot⟩, rfl, h1, h2, h3, h4, h5⟩
  · omega
  · have h0 := h4 0 (by omega)
    obtain rfl : spot = none := by
      cases spot with
      | none => rfl
      | some s => simp [Addr.add, World.cell?] at h0; split at h0 <;> simp at h0
    refine ⟨b, off, rfl, World.block_lt_of_cell? _ _ h0, by omega, fun j hj => ?_⟩
    have := h4 j (by omega)
    unfold Addr.add at this; split at this
    · rename_i h; subst h; exact this
    · exact this
theorem IsRow.small {k : IntKind} {w : World} {a : Option Addr} {len cap : Nat} {zs : List Int} (h : IsRow k w a len cap zs) : len ≤ 9223372036854775807 ∧ len ≤ zs.length := by
  rcases h with ⟨_, rfl, _, rfl⟩ | ⟨x, _, h1, h2, h3, _⟩
  · simp
  · unfold maxLen at h2; omega
theorem take_succ_getD (z : List Int) (k : Nat) (h : k < z.length) : z.take (k + 1) = z.take k ++ [z.getD k 0] := by
  rw [List.take_succ_eq_append_getElem h]; simp [List.getD, h]
theorem IsRow.at_ {k : IntKind} {w : World} {a : Option Addr} {len cap : Nat} {zs : List Int} (h : IsRow k w a len cap zs) {i : Nat} (hi : i < len) :
    ∃ b off x, a = some ⟨b, off, none⟩ ∧ b < w.heap.size ∧ Hid (zs.take (i + 1) = zs.take i ++ [x]) ∧ w.cell? ⟨b, off + i, none⟩ = some (.int k x) := by
  obtain ⟨b, off, h1, h2, h3, h4⟩ := row_at h hi
  exact ⟨b, off, _, h1, h2, take_succ_getD _ _ h3, h4 i hi⟩
def sepAt (O P : Thing) (U : Nat → Prop) (w : World) : Prop := ∃ S T, O.at_ S w ∧ P.at_ T w ∧ (∀ k, S k → ¬ T k) ∧ (∀ k, S k → U k) ∧ (∀ k, T k → U k) ∧ ∀ k, U k → S k ∨ T k
/-- Two things, apart, as one. -/
def Sep (O P : Thing) : Thing where
  at_ := sepAt O P
  lt := fun ⟨_, _, h1, h2, _, _, _, h6⟩ k hk => (h6 k hk).elim (O.lt h1 k) (P.lt h2 k)
  kept := fun ⟨S, T, h1, h2, h3, h4, h5, h6⟩ hk hs => ⟨S, T, O.kept h1 (fun k hS => hk k (h4 k hS)) hs, P.kept h2 (fun k hT => hk k (h5 k hT)) hs, h3, h4, h5, h6⟩
section
variable {O O' P P' : Thing} {U : Nat → Prop} {w w' : World}
theorem sepAt.swap (h : sepAt O P U w) : sepAt P O U w := by
  obtain ⟨S, T, h1, h2, h3, h4, h5, h6⟩ := h
  exact ⟨T, S, h2, h1, fun k hT hS => h3 k hS hT, h5, h4, fun k hU => (h6 k hU).symm⟩
theorem Goes.conv (hg : Goes O U w w') (h : ∀ S w, O.at_ S w → O'.at_ S w) : Goes O' U w w' := by
  obtain ⟨⟨S, g1, g2⟩, g3⟩ := hg
  exact ⟨⟨S, h S w' g1, g2⟩, g3⟩
theorem Goes.same (h : O.at_ U w) : Goes O U w w := ⟨⟨U, h, fun _ hk => .inl hk⟩, Turned.refl U w⟩
theorem Goes.later (h : O.at_ U w) (hb : Below w.heap.size w w') : Goes O U w w' :=
  ⟨⟨U, O.kept h (fun k hk => hb.block k (O.lt h k hk)) hb.size, fun _ hk => .inl hk⟩, ⟨hb.os, hb.tape, hb.output, hb.size, fun k hk _ => hb.block k hk⟩⟩
/-- A step of the one leaves the other. -/
theorem sep_goes {S T : Nat → Prop} (h2 : P.at_ T w) (h3 : ∀ k, S k → ¬ T k) (h4 : ∀ k, S k → U k) (h5 : ∀ k, T k → U k) (hg : Goes O' S w w') : Goes (Sep O' P) U w w' := by
  obtain ⟨⟨S', g1, g2⟩, g3⟩ := hg
  refine ⟨⟨fun k => S' k ∨ T k, ⟨S', T, g1, P.kept h2 (fun k hk => g3.block k (P.lt h2 k hk) (fun hs => h3 k hs hk)) g3.size, fun k hk hT => ?_, fun k h => .inl h, fun k h => .inr h, fun k h => h⟩, fun k hk => ?_⟩, ?_⟩
  · exact (g2 k hk).elim (fun h => h3 k h hT) (fun h => by have := P.lt h2 k hT; omega)
  · exact hk.elim (fun h => (g2 k h).imp (h4 k) id) (fun h => .inl (h5 k h))
  · exact ⟨g3.os, g3.tape, g3.output, g3.size, fun k hk hU => g3.block k hk (fun hS => hU (h4 k hS))⟩
end
section
variable {P : Program} {f : FuncId} {args : Array Value} {w : World} {R : Ending → Prop} {A B A' B' : Thing}
/-- A call on the left one; on the right one. -/
theorem sepL (hc : ∀ S, A.at_ S w → Calls P f args w fun e w' => R e ∧ Goes A' S w w') : ∀ U, (Sep A B).at_ U w → Calls P f args w fun e w' => R e ∧ Goes (Sep A' B) U w w' :=
  fun _ ⟨_, _, h1, h2, h3, h4, h5, _⟩ => (hc _ h1).mono fun _ _ ⟨he, hg⟩ => ⟨he, sep_goes h2 h3 h4 h5 hg⟩
theorem sepR (hc : ∀ S, B.at_ S w → Calls P f args w fun e w' => R e ∧ Goes B' S w w') : ∀ U, (Sep A B).at_ U w → Calls P f args w fun e w' => R e ∧ Goes (Sep A B') U w w' :=
  fun _ ⟨_, _, h1, h2, h3, h4, h5, _⟩ => (hc _ h2).mono fun _ _ ⟨he, hg⟩ => ⟨he, (sep_goes h1 (fun k hT hS => h3 k hS hT) h5 h4 hg).conv fun _ _ h => sepAt.swap h⟩
theorem lookL (hc : ∀ S, A.at_ S w → Calls P f args w fun e w' => R e ∧ w = w') : ∀ U, (Sep A B).at_ U w → Calls P f args w fun e w' => R e ∧ w = w' := fun _ ⟨_, _, h1, _⟩ => hc _ h1
theorem lookR (hc : ∀ S, B.at_ S w → Calls P f args w fun e w' => R e ∧ w = w') : ∀ U, (Sep A B).at_ U w → Calls P f args w fun e w' => R e ∧ w = w' := fun _ ⟨_, _, _, h2, _⟩ => hc _ h2
end
section
variable {W w w' : World} {A B C A' B' : Thing}
theorem St.left (h : St W (Sep A B) w) : St W A w := by
  obtain ⟨⟨U, ⟨S, T, h1, h2, h3, h4, h5, h6⟩, h7⟩, h8⟩ := h
  exact ⟨⟨S, h1, fun k hk => h7 k (h4 k hk)⟩, h8⟩
theorem St.right (h : St W (Sep A B) w) : St W B w := by
  obtain ⟨⟨U, ⟨S, T, h1, h2, h3, h4, h5, h6⟩, h7⟩, h8⟩ := h
  exact ⟨⟨T, h2, fun k hk => h7 k (h5 k hk)⟩, h8⟩
theorem St.swap (h : St W (Sep A B) w) : St W (Sep B A) w := by
  obtain ⟨⟨U, h, h7⟩, h8⟩ := h
  exact ⟨⟨U, sepAt.swap h, h7⟩, h8⟩
/-- Another thing has come. -/
theorem St.more (h : St W A w) (hn : ∃ S, B.at_ S w' ∧ ∀ k, S k → w.heap.size ≤ k) (hb : Below w.heap.size w w') : St W (Sep A B) w' := by
  obtain ⟨T, h3, h4⟩ := hn
  have hl := h.later hb
  obtain ⟨⟨S, h1, h2⟩, h5⟩ := h
  refine ⟨⟨fun k => S k ∨ T k, ⟨S, T, A.kept h1 (fun k hk => hb.block k (A.lt h1 k hk)) hb.size, h3, fun k hk hk' => ?_, fun k h => .inl h, fun k h => .inr h, fun k h => h⟩, fun k hk => hk.elim (h2 k) fun h => Nat.le_trans h5.size (h4 k h)⟩, hl.2⟩
  have := A.lt h1 k hk
  have := h4 k hk'
  omega
end
/-- A block that holds just these cells. -/
def varAt (b : Nat) (cs : Array Value) (t : TypeId) (S : Nat → Prop) (w : World) : Prop := Blk w b cs t ∧ S b ∧ ∀ k, S k → k = b
def Var (b : Nat) (cs : Array Value) (t : TypeId) : Thing where
  at_ := varAt b cs t
  lt := fun ⟨h1, _, h3⟩ k hk => by rw [h3 k hk]; exact h1.lt
  kept := fun ⟨h1, h2, h3⟩ hk _ => ⟨by unfold Blk at *; rw [hk b h2]; exact h1, h2, h3⟩
theorem St.var {W w : World} {A : Thing} (h : St W A w) (cs : Array Value) (t : TypeId) : St W (Sep A (Var w.heap.size cs t)) (w.alloc (.cells cs t)) :=
  h.more ⟨fun k => k = w.heap.size, ⟨Blk.new w cs t, rfl, fun _ h => h⟩, fun k hk => by omega⟩ ((Below.refl _ _).alloc (Nat.le_refl _) _)
theorem St.blk {W w : World} {b : Nat} {cs : Array Value} {t : TypeId} (h : St W (Var b cs t) w) : Blk w b cs t := h.1.choose_spec.1.1
theorem var_set {b : Nat} {cs : Array Value} {t : TypeId} {S : Nat → Prop} {w : World} (h : (Var b cs t).at_ S w) (i : Nat) (v : Value) : Goes (Var b (cs.setIfInBounds i v) t) S w (w.setCell ⟨b, i, none⟩ v) := by
  obtain ⟨h1, h2, h3⟩ := h
  exact ⟨⟨S, ⟨h1.set i v, h2, h3⟩, fun _ h => .inl h⟩, (Turned.refl S w).setCell (.inl h2) v⟩
/-- A store into a thing among several. -/
theorem goesL {A A' B : Thing} {w w' : World} (hc : ∀ S, A.at_ S w → Goes A' S w w') : ∀ U, (Sep A B).at_ U w → Goes (Sep A' B) U w w' :=
  fun _ ⟨_, _, h1, h2, h3, h4, h5, _⟩ => sep_goes h2 h3 h4 h5 (hc _ h1)
theorem goesR {A B B' : Thing} {w w' : World} (hc : ∀ S, B.at_ S w → Goes B' S w w') : ∀ U, (Sep A B).at_ U w → Goes (Sep A B') U w w' :=
  fun _ ⟨_, _, h1, h2, h3, h4, h5, _⟩ => (sep_goes h1 (fun k hT hS => h3 k hS hT) h5 h4 (hc _ h2)).conv fun _ _ h => sepAt.swap h
/-- A row of n bools at block q, of type t. -/
def boolsAt (q n : Nat) (t : TypeId) (m : Nat → Bool) (S : Nat → Prop) (w : World) : Prop := ∃ cs, Blk w q cs t ∧ cs.size = n ∧ (∀ j, j < n → cs[j]? = some (.bool (m j))) ∧ S q ∧ ∀ k, S k → k = q
def Bools (q n : Nat) (t : TypeId) (m : Nat → Bool) : Thing where
  at_ := boolsAt q n t m
  lt := fun ⟨_, h1, _, _, _, h3⟩ k hk => by rw [h3 k hk]; exact h1.lt
  kept := fun ⟨cs, h1, h2, h3, h4, h5⟩ hk _ => ⟨cs, by unfold Blk at *; rw [hk q h4]; exact h1, h2, h3, h4, h5⟩
theorem St.boolCell {W w : World} {q n : Nat} {t : TypeId} {m : Nat → Bool} (h : St W (Bools q n t m) w) {j : Nat} (hj : j < n) : w.cell? ⟨q, j, none⟩ = some (.bool (m j)) := by
  obtain ⟨⟨S, ⟨cs, h1, h2, h3, h4, h5⟩, _⟩, _⟩ := h
  rw [h1.cell]; exact h3 j hj
theorem St.boolFree {W w : World} {q n : Nat} {t : TypeId} {m : Nat → Bool} (h : St W (Bools q n t m) w) (j : Nat) : w.frozen? ⟨q, j, none⟩ = false := by
  obtain ⟨⟨S, ⟨cs, h1, h2, h3, h4, h5⟩, _⟩, _⟩ := h
  exact h1.free j
def setB (m : Nat → Bool) (j : Nat) (x : Bool) : Nat → Bool := fun k => if k = j then x else m k
theorem bools_set {q n : Nat} {t : TypeId} {m : Nat → Bool} {S : Nat → Prop} {w : World} (h : (Bools q n t m).at_ S w) (j : Nat) (x : Bool) : Goes (Bools q n t (setB m j x)) S w (w.setCell ⟨q, j, none⟩ (.bool x)) := by
  obtain ⟨cs, h1, h2, h3, h4, h5⟩ := h
  refine ⟨⟨S, ⟨_, h1.set j (.bool x), by simpa using h2, fun k hk => ?_, h4, h5⟩, fun _ h => .inl h⟩, (Turned.refl S w).setCell (.inl h4) _⟩
  by_cases e : k = j
  · subst e; simp [setB, h2, hk]
  · rw [Array.getElem?_setIfInBounds_ne (by omega)]; simp only [setB, e, if_false]; exact h3 k hk
theorem St.bools {W w : World} {A : Thing} (h : St W A w) (n : Nat) (t : TypeId) : St W (Sep A (Bools w.heap.size n t fun _ => false)) (w.alloc (.cells (madeCells #[.bool false] n) t)) :=
  h.more ⟨fun k => k = w.heap.size, ⟨_, Blk.new w _ t, by simp [madeCells], fun j hj => by simp [madeCells, hj, Nat.mod_one], rfl, fun _ h => h⟩, fun k hk => by omega⟩ ((Below.refl _ _).alloc (Nat.le_refl _) _)
theorem St.conv {W w : World} {A B : Thing} (h : St W A w) (hc : ∀ S w, A.at_ S w → B.at_ S w) : St W B w := ⟨⟨_, hc _ _ h.1.choose_spec.1, h.1.choose_spec.2⟩, h.2⟩
theorem St.drewN {W w : World} {A : Thing} (h : St W A w) (n : Nat) : St W A (w.drewN n) := h.later (below_drewN (Below.refl _ _) n)
theorem St.onward {W w : World} {A : Thing} {w' : World} (h : Below W.heap.size W w) (hs : St w A w') : St W A w' :=
  ⟨⟨_, hs.1.choose_spec.1, fun k hk => Nat.le_trans h.size (hs.1.choose_spec.2 k hk)⟩, h.trans (hs.2.mono h.size)⟩
section
variable {P : Program} {f : FuncId} {args : Array Value} {w w1 w2 : World} {R : Ending → Prop} {O O' : Thing} {S : Nat → Prop}
/-- Steps behind one another. -/
theorem Goes.then (h : Goes O S w w1) (hc : ∀ S', O.at_ S' w1 → Goes O' S' w1 w2) : Goes O' S w w2 := by
  obtain ⟨⟨S1, a1, a2⟩, a3⟩ := h
  obtain ⟨⟨S2, b1, b2⟩, b3⟩ := hc S1 a1
  exact ⟨⟨S2, b1, fun k hk => (b2 k hk).elim (a2 k) fun h => .inr (Nat.le_trans a3.size h)⟩, a3.trans b3 (fun _ h => h) a2⟩
theorem Goes.call (h : Goes O S w w1) (hc : ∀ S', O.at_ S' w1 → Calls P f args w1 fun e w2 => R e ∧ Goes O' S' w1 w2) : Calls P f args w1 fun e w2 => R e ∧ Goes O' S w w2 := by
  obtain ⟨⟨S1, a1, a2⟩, a3⟩ := h
  exact (hc S1 a1).mono fun e w2 ⟨he, hg⟩ => ⟨he, by
    obtain ⟨⟨S2, b1, b2⟩, b3⟩ := hg
    exact ⟨⟨S2, b1, fun k hk => (b2 k hk).elim (a2 k) fun h => .inr (Nat.le_trans a3.size h)⟩, a3.trans b3 (fun _ h => h) a2⟩⟩
theorem Goes.look (h : Goes O S w w1) (hc : ∀ S', O.at_ S' w1 → Calls P f args w1 fun e w2 => R e ∧ w1 = w2) : Calls P f args w1 fun e w2 => R e ∧ w1 = w2 := hc _ h.now.choose_spec.1
end
theorem add_none (b off n : Nat) : (⟨b, off, none⟩ : Addr).add n = ⟨b, off + n, none⟩ := by unfold Addr.add; split <;> simp_all
/-- append(s, x...) onto a row that is nil or the call's own, of elements of size cells each. -/
theorem wpList_app {P : Program} {w : World} {ops : Array Oper} {rest : List Oper} {o : Oper} {a : Act} {Q : Exit → Act → World → Prop} (hgd : o.guard = none) (s x : Operand) (t : TypeId)
    (ho : o.op = .call { callee := .builtin .append, args := #[s, x], argTypes := #[t, t] })
    (e : TypeId) (i : TypeInfo) (z : Value) (size bytes : Nat) (ht : P.underlying t = some (.slice e)) (hi : P.info? e = some i) (hz : i.zero = some z)
    (hsize : i.size = size) (hby : i.bytes = bytes) (hzs : z.cells.size = size) (hsz : 0 < size)
    (v : Value) (n : Nat) (xs : List Value) (hs : a.eval s = v) (hown : w.ownsRow 0 e size v n xs)
    (ad : Addr) (m c : Nat) (news : List Value) (hx : a.eval x = .slice (some ad) m c) (hl : news.length = m * size) (hnews : ∀ j u, news[j]? = some u → w.cell? (ad.add j) = some u) (h1 : ∀ u ∈ news, u.oneCell' = true)
    (hn : n + m ≤ 1000000) (hbb : bytes ≤ 64)
    (h : ∀ v' w', w'.ownsRow 0 e size v' (n + m) (xs ++ news) → w.grownBy w' v.ownBlock → (v'.ownBlock = v.ownBlock ∨ v'.ownBlock = some w.heap.size) → wpList P ops Q rest (a.put o.dst v') w') : wpList P ops Q (o :: rest) a w := by
  refine wpList_plain hgd fun K hK => ?_
  obtain ⟨v', w', hr, h2, h3, h4⟩ := run_append_mine (P := P) w 0 t o.type e i z size bytes ht hi hz hsize hby hzs hsz v n xs hown ad m c news (by omega) hnews h1 (by unfold maxLen; omega)
    (by have : (n + m) * bytes ≤ 1000000 * 64 := Nat.mul_le_mul hn hbb; omega) (Nat.zero_le _)
  unfold Oper.wp execOp
  simp only [ho, resolve, invoke, builtin, Sem.run_bind, Sem.run_pure, Result.andThen_ok, List.map_toArray, List.map_cons, List.map_nil, hs, hx, hr]
  exact hK _ _ (h v' w' h2 h3 h4)
/-- A row that the call has made, or nil: n elements, xs their cells. -/
def rowGAt (e size : Nat) (v : Value) (n : Nat) (xs : List Value) (S : Nat → Prop) (w : World) : Prop := w.ownsRow 0 e size v n xs ∧ ∀ k, S k ↔ v.ownBlock = some k
def RowG (e size : Nat) (v : Value) (n : Nat) (xs : List Value) : Thing where
  at_ := rowGAt e size v n xs
  lt := fun ⟨h1, h2⟩ k hk => (h1.lt k ((h2 k).1 hk)).2
  kept := fun ⟨h1, h2⟩ hk _ => ⟨ownsRow_same h1 fun k hv => hk k ((h2 k).2 hv), h2⟩
theorem rowG_nil (e size : Nat) (w : World) : (RowG e size (.slice none 0 0) 0 []).at_ (fun _ => False) w := ⟨⟨by simp, .inl ⟨rfl, rfl⟩⟩, fun k => ⟨False.elim, fun h => by simp [Value.ownBlock] at h⟩⟩
theorem rowG_push {e size n m : Nat} {v v' : Value} {xs news : List Value} {S : Nat → Prop} {w w0 w1 : World} (h : (RowG e size v n xs).at_ S w) (hb : Below w.heap.size w w0)
    (ho : w1.ownsRow 0 e size v' (n + m) (xs ++ news)) (hg : w0.grownBy w1 v.ownBlock)
    (hbk : v'.ownBlock = v.ownBlock ∨ v'.ownBlock = some w0.heap.size) : Goes (RowG e size v' (n + m) (xs ++ news)) S w w1 := by
  obtain ⟨h1, h2⟩ := h
  refine ⟨⟨fun k => v'.ownBlock = some k, ⟨ho, fun k => Iff.rfl⟩, fun k hk => ?_⟩, Turned.grown ⟨hb.os, hb.tape, hb.output, hb.size, fun k hk _ => hb.block k hk⟩ hg fun k hk => .inl ((h2 k).2 hk)⟩
  rcases hbk with e | e
  · exact .inl ((h2 k).2 (e ▸ hk))
  · rw [e] at hk; simp at hk; subst hk; exact .inr hb.size
theorem drewN_goes {O : Thing} {S : Nat → Prop} {w : World} (h : O.at_ S w) (n : Nat) : Goes O S w (w.drewN n) := Goes.later h (below_drewN (Below.refl _ _) n)
theorem drew_goes {O : Thing} {S : Nat → Prop} {w : World} (h : O.at_ S w) : Goes O S w w.drew := drewN_goes h 1
theorem St.fresh {w : World} (cs : Array Value) (t : TypeId) : St w (Var w.heap.size cs t) (w.alloc (.cells cs t)) :=
  St.begin (Below.refl _ _) ⟨fun k => k = w.heap.size, ⟨Blk.new w cs t, rfl, fun _ h => h⟩, fun k hk => by omega⟩ ((Below.refl _ _).alloc (Nat.le_refl _) _)
/-! Beyond: one of many things; what is handed back beside a thing -/
def exAt {α : Type} (T : α → Thing) (S : Nat → Prop) (w : World) : Prop := ∃ x, (T x).at_ S w
/-- Some thing of these. -/
def Ex {α : Type} (T : α → Thing) : Thing where
  at_ := exAt T
  lt := fun ⟨x, h⟩ => (T x).lt h
  kept := fun ⟨x, h⟩ hk hs => ⟨x, (T x).kept h hk hs⟩
def puAt (p : Prop) (T : Thing) (S : Nat → Prop) (w : World) : Prop := p ∧ T.at_ S w
/-- The thing, where p holds. -/
def Pu (p : Prop) (T : Thing) : Thing where
  at_ := puAt p T
  lt := fun ⟨_, h⟩ => T.lt h
  kept := fun ⟨p, h⟩ hk hs => ⟨p, T.kept h hk hs⟩
def empAt (S : Nat → Prop) (_ : World) : Prop := ∀ k, ¬ S k
/-- Nothing. -/
def Emp : Thing where
  at_ := empAt
  lt := fun h k hk => (h k hk).elim
  kept := fun h _ _ => h
/-- Things in a row, apart from one another. -/
def All : Nat → (Nat → Thing) → Thing
  | 0, _ => Emp
  | n + 1, T => Sep (All n T) (T n)
section
variable {P : Program} {f : FuncId} {args : Array Value} {w w' w1 w2 : World} {α : Type} {R : α → Ending → Prop} {A B O : Thing} {A' B' O' : α → Thing} {S U : Nat → Prop}
theorem keep {O : Thing} {S : Nat → Prop} {w w' : World} (h : O.at_ S w) (hb : Below w.heap.size w w') : O.at_ S w' := O.kept h (fun k hk => hb.block k (O.lt h k hk)) hb.size
theorem Goes.ex {T : α → Thing} {x : α} (h : Goes (T x) S w w') : Goes (Ex T) S w w' := h.conv fun _ _ h => ⟨x, h⟩
theorem Goes.below_ (h : Goes A S w w') (hb : Below w'.heap.size w' w2) : Goes A S w w2 := h.then fun _ h => Goes.later h hb
theorem Goes.alloc_ (h : Goes A S w w') (o : Obj) : Goes A S w (w'.alloc o) := h.below_ ((Below.refl _ _).alloc (Nat.le_refl _) o)
theorem Goes.drew_ (h : Goes A S w w') : Goes A S w w'.drew := h.below_ (Below.refl _ _).drew
theorem Goes.drewN_ (h : Goes A S w w') (n : Nat) : Goes A S w (w'.drewN n) := h.below_ (below_drewN (Below.refl _ _) n)
/-- A call on the left one, on the right one: with some x handed back. -/
theorem sepLx (hc : ∀ S, A.at_ S w → Calls P f args w fun e w' => ∃ x, R x e ∧ Goes (A' x) S w w') : ∀ U, (Sep A B).at_ U w → Calls P f args w fun e w' => ∃ x, R x e ∧ Goes (Sep (A' x) B) U w w' :=
  fun _ ⟨_, _, h1, h2, h3, h4, h5, _⟩ => (hc _ h1).mono fun _ _ ⟨x, he, hg⟩ => ⟨x, he, sep_goes h2 h3 h4 h5 hg⟩
theorem sepRx (hc : ∀ S, B.at_ S w → Calls P f args w fun e w' => ∃ x, R x e ∧ Goes (B' x) S w w') : ∀ U, (Sep A B).at_ U w → Calls P f args w fun e w' => ∃ x, R x e ∧ Goes (Sep A (B' x)) U w w' :=
  fun _ ⟨_, _, h1, h2, h3, h4, h5, _⟩ => (hc _ h2).mono fun _ _ ⟨x, he, hg⟩ => ⟨x, he, (sep_goes h1 (fun k hT hS => h3 k hS hT) h5 h4 hg).conv fun _ _ h => sepAt.swap h⟩
theorem Goes.callx (h : Goes O S w w1) (hc : ∀ S', O.at_ S' w1 → Calls P f args w1 fun e w2 => ∃ x, R x e ∧ Goes (O' x) S' w1 w2) : Calls P f args w1 fun e w2 => ∃ x, R x e ∧ Goes (O' x) S w w2 := by
  obtain ⟨⟨S1, a1, a2⟩, a3⟩ := h
  exact (hc S1 a1).mono fun e w2 ⟨x, he, hg⟩ => ⟨x, he, by
    obtain ⟨⟨S2, b1, b2⟩, b3⟩ := hg
    exact ⟨⟨S2, b1, fun k hk => (b2 k hk).elim (a2 k) fun h => .inr (Nat.le_trans a3.size h)⟩, a3.trans b3 (fun _ h => h) a2⟩⟩
theorem St.callx {W : World} (h : St W O w) (hc : ∀ S, O.at_ S w → Calls P f args w fun e w' => ∃ x, R x e ∧ Goes (O' x) S w w') : Calls P f args w fun e w' => ∃ x, R x e ∧ St W (O' x) w' := by
  obtain ⟨⟨S, h1, h2⟩, h3⟩ := h
  refine (hc S h1).mono fun e w' ⟨x, he, hg⟩ => ⟨x, he, ?_⟩
  obtain ⟨⟨S', g1, g2⟩, g3⟩ := hg
  exact ⟨⟨S', g1, fun k hk => (g2 k hk).elim (h2 k) (fun h => Nat.le_trans h3.size h)⟩, h3.trans (g3.below h3.size h2)⟩
/-- A call of no memory at all. -/
theorem Goes.plain {v : Value} (h : Goes O S w w1) (hc : Calls P f args w1 fun e w2 => e = .returned v ∧ Below w1.heap.size w1 w2) : Calls P f args w1 fun e w2 => e = .returned v ∧ Goes O S w w2 :=
  hc.mono fun _ _ ⟨he, hb⟩ => ⟨he, h.below_ hb⟩
theorem sepAt.l (h : (Sep A B).at_ U w) : ∃ S, A.at_ S w ∧ ∀ k, S k → U k := by obtain ⟨S, T, h1, _, _, h4, _⟩ := h; exact ⟨S, h1, h4⟩
theorem sepAt.r (h : (Sep A B).at_ U w) : ∃ S, B.at_ S w ∧ ∀ k, S k → U k := by obtain ⟨S, T, _, h2, _, _, h5, _⟩ := h; exact ⟨T, h2, h5⟩
theorem Goes.l (h : Goes (Sep A B) U w w') : Goes A U w w' := by
  obtain ⟨⟨S', h1, h2⟩, h3⟩ := h
  obtain ⟨S, h4, h5⟩ := sepAt.l h1
  exact ⟨⟨S, h4, fun k hk => h2 k (h5 k hk)⟩, h3⟩
theorem Goes.r (h : Goes (Sep A B) U w w') : Goes B U w w' := by
  obtain ⟨⟨S', h1, h2⟩, h3⟩ := h
  obtain ⟨S, h4, h5⟩ := sepAt.r h1
  exact ⟨⟨S, h4, fun k hk => h2 k (h5 k hk)⟩, h3⟩
/-- The cells of a block. -/
theorem Goes.vc {b : Nat} {cs : Array Value} {t : TypeId} (h : Goes (Var b cs t) U w w') (i : Nat) {v : Value} (hv : cs[i]? = some v) : w'.cell? ⟨b, i, none⟩ = some v := by
  obtain ⟨⟨S, ⟨h1, _⟩, _⟩, _⟩ := h
  rw [h1.cell]; exact hv
theorem Goes.vf {b : Nat} {cs : Array Value} {t : TypeId} (h : Goes (Var b cs t) U w w') (i : Nat) : w'.frozen? ⟨b, i, none⟩ = false := by
  obtain ⟨⟨S, ⟨h1, _⟩, _⟩, _⟩ := h
  exact h1.free i
theorem Goes.c {b : Nat} {cs : Array Value} {t : TypeId} {X : Thing} (h : Goes (Sep (Var b cs t) X) U w w') (i : Nat) {v : Value} (hv : cs[i]? = some v) : w'.cell? ⟨b, i, none⟩ = some v := h.l.vc i hv
theorem Goes.fr {b : Nat} {cs : Array Value} {t : TypeId} {X : Thing} (h : Goes (Sep (Var b cs t) X) U w w') (i : Nat) : w'.frozen? ⟨b, i, none⟩ = false := h.l.vf i
/-- A store into a block. -/
theorem Goes.vput {b : Nat} {cs cs' : Array Value} {t : TypeId} (h : Goes (Var b cs t) U w w') (i : Nat) (v : Value) (hv : cs.setIfInBounds i v = cs') : Goes (Var b cs' t) U w (w'.setCell ⟨b, i, none⟩ v) :=
  h.then fun _ h => hv ▸ var_set h i v
theorem Goes.put {b : Nat} {cs cs' : Array Value} {t : TypeId} {X : Thing} (h : Goes (Sep (Var b cs t) X) U w w') (i : Nat) (v : Value) (hv : cs.setIfInBounds i v = cs') : Goes (Sep (Var b cs' t) X) U w (w'.setCell ⟨b, i, none⟩ v) :=
  h.then fun S h => goesL (fun _ h => hv ▸ var_set h i v) S h
theorem Goes.begin (h : O.at_ S w) : Goes O S w w := Goes.same h
/-- Other brackets. -/
theorem sepAt.assoc {C : Thing} (h : (Sep (Sep A B) C).at_ U w) : (Sep A (Sep B C)).at_ U w := by
  obtain ⟨S, T, ⟨S1, S2, a1, a2, a3, a4, a5, a6⟩, h2, h3, h4, h5, h6⟩ := h
  refine ⟨S1, fun k => S2 k ∨ T k, a1, ⟨S2, T, a2, h2, fun k hs => h3 k (a5 k hs), fun k h => .inl h, fun k h => .inr h, fun k h => h⟩, ?_, fun k hk => h4 k (a4 k hk), ?_, ?_⟩
  · rintro k hk (h | h)
    · exact a3 k hk h
    · exact h3 k (a4 k hk) h
  · rintro k (h | h)
    · exact h4 k (a5 k h)
    · exact h5 k h
  · intro k hk
    rcases h6 k hk with h | h
    · rcases a6 k h with h | h
      · exact .inl h
      · exact .inr (.inl h)
    · exact .inr (.inr h)
theorem sepAt.assoc' {C : Thing} (h : (Sep A (Sep B C)).at_ U w) : (Sep (Sep A B) C).at_ U w :=
  sepAt.swap (sepAt.assoc (sepAt.swap (sepAt.assoc (sepAt.swap h))))
theorem sepAt.monoR {C : Thing} (hc : ∀ S, B.at_ S w → C.at_ S w) (h : (Sep A B).at_ U w) : (Sep A C).at_ U w := by
  obtain ⟨S, T, h1, h2, h⟩ := h; exact ⟨S, T, h1, hc _ h2, h⟩
theorem sepAt.monoL {C : Thing} (hc : ∀ S, A.at_ S w → C.at_ S w) (h : (Sep A B).at_ U w) : (Sep C B).at_ U w := by
  obtain ⟨S, T, h1, h2, h⟩ := h; exact ⟨S, T, hc _ h1, h2, h⟩
/-- A thing that lies in memory that has come since. -/
theorem Goes.more (h : Goes A S w w1) (hn : ∃ S, B.at_ S w2 ∧ ∀ k, S k → w1.heap.size ≤ k) (hb : Below w1.heap.size w1 w2) : Goes (Sep A B) S w w2 := by
  obtain ⟨T, h3, h4⟩ := hn
  obtain ⟨⟨S1, a1, a2⟩, a3⟩ := h
  have hk := Goes.later a1 hb
  refine ⟨⟨fun k => S1 k ∨ T k, ⟨S1, T, A.kept a1 (fun k hk => hb.block k (A.lt a1 k hk)) hb.size, h3, fun k hk hk' => ?_, fun k h => .inl h, fun k h => .inr h, fun k h => h⟩, fun k hk => hk.elim (a2 k) fun h => .inr (Nat.le_trans a3.size (h4 k h))⟩, a3.trans hk.turned (fun _ h => h) a2⟩
  have := A.lt a1 k hk
  have := h4 k hk'
  omega
theorem Goes.moreSt (h : Goes A S w w1) (hs : St w1 B w2) : Goes (Sep A B) S w w2 := h.more ⟨_, hs.1.choose_spec.1, hs.1.choose_spec.2⟩ hs.2
theorem Goes.swap (h : Goes (Sep A B) U w w') : Goes (Sep B A) U w w' := h.conv fun _ _ h => sepAt.swap h
theorem Goes.assoc {C : Thing} (h : Goes (Sep (Sep A B) C) U w w') : Goes (Sep A (Sep B C)) U w w' := h.conv fun _ _ h => sepAt.assoc h
theorem Goes.assoc' {C : Thing} (h : Goes (Sep A (Sep B C)) U w w') : Goes (Sep (Sep A B) C) U w w' := h.conv fun _ _ h => sepAt.assoc' h
end
end Go.Proofs.YtnkgnhpapcnebaaGreat
