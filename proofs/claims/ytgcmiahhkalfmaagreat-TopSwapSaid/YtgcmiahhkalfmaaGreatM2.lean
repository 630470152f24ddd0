import Derived.Test.YtgcmiahhkalfmaaGreatM1
import Derived.Below
import Derived.WalkSmall
import Derived.OneCell
import Derived.Maps.AppendAt
import Derived.LoopTactic
import Derived.Deep.QuietTactic
set_option maxRecDepth 100000
set_option maxHeartbeats 8000000
set_option linter.unusedVariables false
set_option linter.unusedSimpArgs false
namespace Go.Proofs.YtgcmiahhkalfmaaGreat
open Go.RowKit
variable {ops:Array Oper} {args cs cs':Array Value} {R:Ending→Prop} {f:FuncId} {zs:List Int} {rest:List Oper} {news xs:List Value} {B b base cap i j k len n q size:Nat} {m:Nat→Bool} {S U:Nat→Prop} {o:Oper} {a:Option Addr} {row:Option Nat} {P:Program} {e t:TypeId} {v v' x0 x1 x2 x3 x4 x5 x6:Value} {W w w' w1 w2:World}
def Blk (w:World) (b:Nat) (cs:Array Value) (t:TypeId):Prop:=w.heap[b]? = some (.cells cs t (0,0))
theorem Blk.lt (h:Blk w b cs t):b<w.heap.size:=lt_of_block h
theorem Blk.cell {w:World} {b:Nat} {cs:Array Value} {t:TypeId} (h:Blk w b cs t) (i:Nat):w.cell? ⟨b,i,none⟩=cs[i]? := by
 unfold Blk at h;simp [World.cell?,h]
theorem Blk.free (h:Blk w b cs t) (i:Nat):w.frozen? ⟨b,i,none⟩=false:=by
 unfold Blk at h;simp [World.frozen?,h]
theorem aK (h:Blk w b cs t) (hb:Below w.heap.size w w'):Blk w' b cs t:=by unfold Blk at *;rw [hb.block b (lt_of_block h)];exact h
theorem Blk.set (h:Blk w b cs t) (i:Nat) (v:Value):Blk (w.setCell ⟨b,i,none⟩ v) b (cs.setIfInBounds i v) t:=by
 unfold Blk at*
 have hlt:=lt_of_block h
 have h':w.heap[b]=.cells cs t (0,0):=by simpa [Array.getElem?_eq_getElem hlt] using h
 show (w.heap.modify b _)[b]? = _
 rw [Array.getElem?_eq_getElem (by simpa using hlt),Array.getElem_modify_self,h']
 rfl
theorem Blk.far (h:Blk w b cs t) {a:Addr} (ha:b≠a.block) (v:Value):Blk (w.setCell a v) b cs t:=by
 unfold Blk at *;rw [Below.heap_setCell _ _ _ _ ha];exact h
theorem Blk.drew {w:World} {b:Nat} {cs:Array Value} {t:TypeId} (h:Blk w b cs t):Blk w.drew b cs t:=h
theorem Blk.alloc {w:World} {b:Nat} {cs:Array Value} {t:TypeId} (h:Blk w b cs t) (o:Obj):Blk (w.alloc o) b cs t:=by
 unfold Blk at *;rw [Below.heap_alloc _ _ _ (lt_of_block h)];exact h
theorem Blk.new (w:World) (cs:Array Value) (t:TypeId):Blk (w.alloc (.cells cs t)) w.heap.size cs t:=heap_alloc_new w _
def setCells (w:World) (b:Nat):Nat→List Value→World
 | _,[]=>w
 | i,v::vs=>setCells (w.setCell ⟨b,i,none⟩ v) b (i+1) vs
def iM (cs:Array Value):Nat→List Value→Array Value
 | _,[]=>cs
 | i,v::vs=>iM (cs.setIfInBounds i v) (i+1) vs
theorem Blk.sets {w:World} {b:Nat} {cs:Array Value} {t:TypeId}:∀ (i:Nat) (vs:List Value),Blk w b cs t→Blk (setCells w b i vs) b (iM cs i vs) t
 | _,[],h=>h
 | i,v::vs,h=>Blk.sets (i+1) vs (h.set i v)
theorem setArr_get (vs:List Value):∀ (cs:Array Value) (i j:Nat),i+vs.length≤cs.size→(iM cs i vs)[j]? = if i≤j∧j<i+vs.length then vs[j-i]? else cs[j]? := by
 induction vs with
 | nil=>intro cs i j _;simp [iM];omega
 | cons v vs ih=>
  intro cs i j h
  simp at h
  rw [iM,ih _ _ _ (by simp;omega)]
  by_cases e:j=i
  · subst e
    rw [if_neg (by omega),if_pos (by simp)]
    have h9:j<cs.size:=by omega
    simp [h9]
  · rw [Array.getElem?_setIfInBounds_ne (by omega)]
    by_cases h1:i≤j∧j<i+(vs.length+1)
    · rw [if_pos (by omega),if_pos (by simpa using h1),show j-i=(j-(i+1))+1 by omega];simp
    · rw [if_neg (by omega),if_neg (by simpa using h1)]
theorem Blk.fill (h:Blk w b cs t) (vs:List Value) (hl:vs.length=cs.size):Blk (setCells w b 0 vs) b vs.toArray t:=by
 have:=h.sets 0 vs
 rw [show iM cs 0 vs=vs.toArray from ?_] at this
 · exact this
 · apply Array.ext_getElem?
   intro j
   rw [setArr_get vs cs 0 j (by omega)]
   by_cases e:j<vs.length
   · rw [if_pos (by omega)];simp
   · rw [if_neg (by omega),Array.getElem?_eq_none (by omega)];simp;omega
theorem setCells_size (b:Nat) (vs:List Value):∀ (w:World) (i:Nat),(setCells w b i vs).heap.size=w.heap.size:=by
 induction vs with
 | nil=>intro w i;rfl
 | cons v vs ih=>intro w i;rw [setCells,ih];simp
theorem gZ (hk:k≠b) (vs:List Value):∀ (w:World) (i:Nat),(setCells w b i vs).heap[k]? = w.heap[k]? := by
 induction vs with
 | nil=>intro w i;rfl
 | cons v vs ih=>intro w i;rw [setCells,ih,Below.heap_setCell _ _ _ _ hk]
theorem bX {a:World} (hB:B≤b) (vs:List Value):∀ (w:World) (i:Nat),Below B a w→Below B a (setCells w b i vs):=by
 induction vs with
 | nil=>intro w i h;exact h
 | cons v vs ih=>intro w i h;exact ih _ _ (h.setCell hB _)
structure aY (S:Nat→Prop) (w w':World):Prop where
 os:w'.os=w.os
 tape:w'.tape=w.tape
 output:w'.output=w.output
 size:w.heap.size≤w'.heap.size
 block:∀ k,k<w.heap.size→¬S k→w'.heap[k]? = w.heap[k]?
theorem aY.refl (S:Nat→Prop) (w:World):aY S w w:=⟨rfl,rfl,rfl,Nat.le_refl _,fun _ _ _=>rfl⟩
theorem aY.trans {S S' T:Nat→Prop} {a b c:World} (h:aY S a b) (k:aY S' b c) (h1:∀ x,S x→T x) (h2:∀ x,S' x→T x∨a.heap.size≤x):aY T a c:=
 ⟨k.os.trans h.os,k.tape.trans h.tape,k.output.trans h.output,Nat.le_trans h.size k.size,fun x hx hT=>
  (k.block x (Nat.lt_of_lt_of_le hx h.size) (fun hs=>(h2 x hs).elim hT (fun _=>by omega))).trans (h.block x hx (fun hs=>hT (h1 x hs)))⟩
theorem aY.drew {S:Nat→Prop} {a w:World} (h:aY S a w):aY S a w.drew:=⟨h.os,h.tape,h.output,h.size,h.block⟩
theorem aY.drewN {S:Nat→Prop} {a w:World} (h:aY S a w) (n:Nat):aY S a (w.drewN n):=⟨h.os,h.tape,h.output,h.size,h.block⟩
theorem aY.alloc {S:Nat→Prop} {a w:World} (h:aY S a w) (o:Obj):aY S a (w.alloc o):=
 ⟨h.os,h.tape,h.output,Nat.le_trans h.size (by simp),fun x hx hS=>(Below.heap_alloc w o x (Nat.lt_of_lt_of_le hx h.size)).trans (h.block x hx hS)⟩
theorem aY.setCell {S:Nat→Prop} {a w:World} (h:aY S a w) {p:Addr} (hp:S p.block∨a.heap.size≤p.block) (u:Value):aY S a (w.setCell p u):=
 ⟨h.os,h.tape,h.output,by simpa using h.size,fun x hx hS=>(Below.heap_setCell w p u x (by rintro rfl;exact hp.elim hS (fun _=>by omega))).trans (h.block x hx hS)⟩
theorem aY.grown {a:World} (h:aY S a w) (hg:w.grownBy w' row) (hr:∀ k,row=some k→S k∨a.heap.size≤k):aY S a w':=
 ⟨hg.os.trans h.os,hg.tape.trans h.tape,hg.output.trans h.output,Nat.le_trans h.size hg.size,fun x hx hS=>
  (hg.block x (Nat.lt_of_lt_of_le hx h.size) (fun e=>(hr x e.symm).elim hS (fun _=>by omega))).trans (h.block x hx hS)⟩
theorem aY.below (h:aY S w w') (hB:B≤w.heap.size) (hS:∀ k,S k→B≤k):Below B w w':=
 ⟨h.os,h.tape,h.output,h.size,fun k hk=>h.block k (by omega) (fun hs=>by have:=hS k hs;omega)⟩
theorem aY.blk (h:aY S w w') (hb:Blk w b cs t) (hS:¬S b):Blk w' b cs t:=by
 have:=h.block b hb.lt hS
 unfold Blk at *;rw [this];exact hb
structure aC where
 at_:(Nat→Prop)→World→Prop
 lt:∀ {S w},at_ S w→∀ k,S k→k<w.heap.size
 kept:∀ {S w w'},at_ S w→(∀ k,S k→w'.heap[k]? = w.heap[k]?)→w.heap.size≤w'.heap.size→at_ S w'
structure aA (O:aC) (S:Nat→Prop) (w w':World):Prop where
 now:∃ S',O.at_ S' w'∧∀ k,S' k→S k∨w.heap.size≤k
 turned:aY S w w'
def Has (B:Nat) (O:aC) (w:World):Prop:=∃ S,O.at_ S w∧∀ k,S k→B≤k
def Has2 (B:Nat) (O P:aC) (w:World):Prop:=∃ S T,O.at_ S w∧P.at_ T w∧(∀ k,S k→B≤k)∧(∀ k,T k→B≤k)∧∀ k,S k→¬T k
theorem aC.below {O:aC} (h:O.at_ S w) (hb:Below B w w') (hS:∀ k,S k→k<B):O.at_ S w':=
 O.kept h (fun k hk=>hb.block k (hS k hk)) hb.size
theorem Has.later {O:aC} (h:Has B O w) (hb:Below w.heap.size w w'):Has B O w':=by
 obtain ⟨S,h1,h2⟩:=h
 exact ⟨S,O.kept h1 (fun k hk=>hb.block k (O.lt h1 k hk)) hb.size,h2⟩
theorem Has2.later {O P:aC} (h:Has2 B O P w) (hb:Below w.heap.size w w'):Has2 B O P w':=by
 obtain ⟨S,T,h1,h2,h3,h4,h5⟩:=h
 exact ⟨S,T,O.kept h1 (fun k hk=>hb.block k (O.lt h1 k hk)) hb.size,P.kept h2 (fun k hk=>hb.block k (P.lt h2 k hk)) hb.size,h3,h4,h5⟩
theorem Has2.swap {O P:aC} (h:Has2 B O P w):Has2 B P O w:=by
 obtain ⟨S,T,h1,h2,h3,h4,h5⟩:=h
 exact ⟨T,S,h2,h1,h4,h3,fun k hk hs=>h5 k hs hk⟩
theorem Has.goes {O O':aC} (h:Has B O w) (hB:B≤w.heap.size) (hg:∀ S,O.at_ S w→aA O' S w w'):Has B O' w'∧Below B w w':=by
 obtain ⟨S,h1,h2⟩:=h
 obtain ⟨⟨S',h3,h4⟩,h5⟩:=hg S h1
 exact ⟨⟨S',h3,fun k hk=>(h4 k hk).elim (h2 k) (fun _=>by omega)⟩,h5.below hB h2⟩
theorem bZ (w:World) (base:Nat) (t ty e:TypeId) (i:TypeInfo) (z:Value) (size bytes:Nat) (ht:P.underlying t=some (.slice e)) (hi:P.info? e=some i) (hz:i.zero=some z)
 (hsize:i.size=size) (hby:i.bytes=bytes) (hzs:z.cells.size=size) (hsz:0<size)
 (v:Value) (n:Nat) (xs:List Value) (hown:w.ownsRow base e size v n xs)
 (a:Addr) (m c:Nat) (news:List Value) (hl:news.length=m*size) (hnews:∀ j u,news[j]? = some u→w.cell? (a.add j)=some u) (h1:∀ u∈news,u.oneCell'=true)
 (h63:n+m≤maxLen) (hbytes:(n+m)*bytes≤140737488355328) (hbase:base≤w.heap.size):
 ∃ v' w',(Builtin.append_ #[t,t] ty #[v,.slice (some a) m c]).run P w=.ok v' w'∧w'.ownsRow base e size v' (n+m) (xs++news)∧w.grownBy w' v.ownBlock∧
  (v'.ownBlock=v.ownBlock∨v'.ownBlock=some w.heap.size):=by
 obtain ⟨v',w',hr,ho,hg,_⟩:=run_append_own (P:=P) w base t ty e i z size bytes ht hi hz hsize hby hzs hsz v n xs hown a m c news hl hnews h1 h63 hbytes hbase
 refine ⟨v',w',hr,ho,hg,?_⟩
 subst hsize
 subst hby
 have hsmall:n+m≤9223372036854775807:=by simp only [maxLen] at h63;omega
 rcases hown.2 with ⟨rfl,rfl⟩|⟨g,cap,cur,rfl,hbg,hg',hnc,hcm,hcs,htake⟩
 · by_cases hm:m=0
   · subst hm
     have hn:news=[]:=List.eq_nil_of_length_eq_zero (by simpa using hl)
     subst hn
     have:(Builtin.append_ #[t,t] ty #[.slice none 0 0,.slice (some a) 0 c]).run P w=.ok (.slice none 0 0) w:=by
      simp [Builtin.append_,run_underlying ht,sizeOf,typeInfo,hi,Builtin.lenOf,Builtin.firstCells,loadCells,loadCellsFrom]
     rw [this] at hr;cases hr;exact .inl rfl
   · have hr2:=run_append_nil (P:=P) w t ty e i z ht hi hz a m c news hl hnews (by omega) (by omega) (by have hb:=hbytes;simp only [Nat.zero_add] at hb;omega)
     rw [hr2] at hr;cases hr;exact .inr rfl
 · by_cases hroom:n+m≤cap
   · have hfit:n*i.size+news.length≤cur.size:=by rw [hl,hcs,←Nat.add_mul];exact Nat.mul_le_mul_right _ hroom
     have hr2:=run_append_room (P:=P) w t ty e i ht hi g n cap cur hg' a m c news hl hnews h1 hroom hfit
     rw [hr2] at hr;cases hr;exact .inl rfl
   · have holds:∀ j u,xs[j]? = some u→w.cell? ((⟨g,0,none⟩:Addr).add j)=some u:=hown.cells (g:=g) rfl
     have hr2:=run_append_grow (P:=P) w t ty e i z ht hi hz ⟨g,0,none⟩ n cap xs hown.1 holds a m c news hl hnews (by omega) (by omega) (growslice_fits (by omega) hbytes)
     rw [hr2] at hr;cases hr;exact .inr rfl
theorem dF (h:w.ownsRow base e size v n xs) (hk:v.ownBlock=some k):k<w.heap.size:=(h.lt k hk).2
theorem dN (h:w.ownsRow base e size v n xs) (hk:∀ k,v.ownBlock=some k→w'.heap[k]? = w.heap[k]?):w'.ownsRow base e size v n xs:=by
 refine ⟨h.1,?_⟩
 rcases h.2 with hn|⟨g,cap,cur,rfl,hb,hgg,rest⟩
 · exact .inl hn
 · exact .inr ⟨g,cap,cur,rfl,hb,by rw [hk g rfl];exact hgg,rest⟩
theorem wpList_push {a:Act} {Q:Exit→Act→World→Prop} (hgd:o.guard=none) (s x:Operand) (t:TypeId)
 (ho:o.op=.call {callee:=.builtin .append,args:=#[s,x],argTypes:=#[t,t]})
 (e:TypeId) (i:TypeInfo) (z:Value) (bytes:Nat) (ht:P.underlying t=some (.slice e)) (hi:P.info? e=some i) (hz:i.zero=some z)
 (hsize:i.size=1) (hby:i.bytes=bytes) (hzs:z.cells.size=1)
 (v:Value) (n:Nat) (xs:List Value) (hs:a.eval s=v) (hown:w.ownsRow 0 e 1 v n xs)
 (ad:Addr) (u:Value) (hx:a.eval x=.slice (some ad) 1 1) (hnews:w.cell? ad=some u) (h1:u.oneCell'=true)
 (hn:n≤1000000) (hbb:bytes≤64)
 (h:∀ v' w',w'.ownsRow 0 e 1 v' (n+1) (xs++[u])→w.grownBy w' v.ownBlock→(v'.ownBlock=v.ownBlock∨v'.ownBlock=some w.heap.size)→wpList P ops Q rest (a.put o.dst v') w'):wpList P ops Q (o::rest) a w:=by
 refine wpList_plain hgd fun K hK=>?_
 obtain ⟨v',w',hr,h2,h3,h4⟩:=bZ (P:=P) w 0 t o.type e i z 1 bytes ht hi hz hsize hby hzs (by omega) v n xs hown ad 1 1 [u] rfl
  (fun j y hj=>by match j,hj with|0,hj=>simp at hj;subst hj;simpa [Addr.add] using hnews)
  (fun y hy=>by simp at hy;subst hy;exact h1) (by unfold maxLen;omega) (by have:(n+1)*bytes≤1000001*64:=Nat.mul_le_mul (by omega) hbb;omega) (Nat.zero_le _)
 unfold Oper.wp execOp
 simp only [ho,resolve,invoke,builtin,Sem.run_bind,Sem.run_pure,Result.andThen_ok,List.map_toArray,List.map_cons,List.map_nil,hs,hx,hr]
 exact hK _ _ (h v' w' h2 h3 h4)
def St (W:World) (O:aC) (w:World):Prop:=Has W.heap.size O w∧Below W.heap.size W w
def St2 (W:World) (O P:aC) (w:World):Prop:=Has2 W.heap.size O P w∧Below W.heap.size W w
theorem St.below {O:aC} (h:St W O w):Below W.heap.size W w:=h.2
theorem St2.below {O P:aC} (h:St2 W O P w):Below W.heap.size W w:=h.2
theorem St.later {W w w':World} {O:aC} (h:St W O w) (hb:Below w.heap.size w w'):St W O w':=⟨h.1.later hb,h.2.trans (hb.mono h.2.size)⟩
theorem St2.later {W w w':World} {O P:aC} (h:St2 W O P w) (hb:Below w.heap.size w w'):St2 W O P w':=⟨h.1.later hb,h.2.trans (hb.mono h.2.size)⟩
theorem St2.swap {W w:World} {O P:aC} (h:St2 W O P w):St2 W P O w:=⟨h.1.swap,h.2⟩
theorem St.begin {O:aC} (hw:Below W.heap.size W w) (h:∃ S,O.at_ S w'∧∀ k,S k→w.heap.size≤k) (hb:Below w.heap.size w w'):St W O w':=by
 obtain ⟨S,h1,h2⟩:=h
 exact ⟨⟨S,h1,fun k hk=>Nat.le_trans hw.size (h2 k hk)⟩,hw.trans (hb.mono hw.size)⟩
theorem St2.begin {O P:aC} (hw:St W O w) (h:∃ S,P.at_ S w'∧∀ k,S k→w.heap.size≤k) (hb:Below w.heap.size w w'):St2 W O P w':=by
 obtain ⟨T,h3,h4⟩:=h
 have hl:=hw.later hb
 obtain ⟨⟨S,h1,h2⟩,h5⟩:=hw
 refine ⟨⟨S,T,O.kept h1 (fun k hk=>hb.block k (O.lt h1 k hk)) hb.size,h3,h2,fun k hk=>Nat.le_trans h5.size (h4 k hk),fun k hk hk'=>?_⟩,hl.2⟩
 have:=O.lt h1 k hk
 have:=h4 k hk'
 omega
theorem St.goes {W w w':World} {O O':aC} (h:St W O w) (hg:∀ S,O.at_ S w→aA O' S w w'):St W O' w':=by
 have:=h.1.goes h.2.size hg
 exact ⟨this.1,h.2.trans this.2⟩
theorem St2.goes {O O' P:aC} (h:St2 W O P w) (hg:∀ S,O.at_ S w→aA O' S w w'):St2 W O' P w':=by
 obtain ⟨⟨S,T,h1,h2,h3,h4,h5⟩,h6⟩:=h
 obtain ⟨⟨S',g1,g2⟩,g3⟩:=hg S h1
 refine ⟨⟨S',T,g1,P.kept h2 (fun k hk=>g3.block k (P.lt h2 k hk) (fun hs=>h5 k hs hk)) g3.size,fun k hk=>?_,h4,fun k hk hk'=>?_⟩,h6.trans (g3.below h6.size h3)⟩
 · exact (g2 k hk).elim (h3 k) (fun h=>Nat.le_trans h6.size h)
 · exact (g2 k hk).elim (fun h=>h5 k h hk') (fun h=>by have:=P.lt h2 k hk';omega)
section
variable {O O' T T':aC}
theorem St.call (h:St W O w) (hc:∀ S,O.at_ S w→Calls P f args w fun e w'=>e=.returned v∧aA O' S w w'):
 Calls P f args w fun e w'=>e=.returned v∧St W O' w':=by
 obtain ⟨⟨S,h1,h2⟩,h3⟩:=h
 refine (hc S h1).mono fun e w' ⟨he,hg⟩=>⟨he,?_⟩
 obtain ⟨⟨S',g1,g2⟩,g3⟩:=hg
 exact ⟨⟨S',g1,fun k hk=>(g2 k hk).elim (h2 k) (fun h=>Nat.le_trans h3.size h)⟩,h3.trans (g3.below h3.size h2)⟩
theorem St.look (h:St W O w) (hc:∀ S,O.at_ S w→Calls P f args w fun e w'=>e=.returned v∧w=w'):
 Calls P f args w fun e w'=>e=.returned v∧w=w':=hc h.1.choose h.1.choose_spec.1
theorem St2.call (h:St2 W O T w) (hc:∀ S,O.at_ S w→Calls P f args w fun e w'=>e=.returned v∧aA O' S w w'):
 Calls P f args w fun e w'=>e=.returned v∧St2 W O' T w':=by
 obtain ⟨⟨S,U,h1,h2,h3,h4,h5⟩,h6⟩:=h
 refine (hc S h1).mono fun e w' ⟨he,hg⟩=>⟨he,?_⟩
 obtain ⟨⟨S',g1,g2⟩,g3⟩:=hg
 refine ⟨⟨S',U,g1,T.kept h2 (fun k hk=>g3.block k (T.lt h2 k hk) (fun hs=>h5 k hs hk)) g3.size,fun k hk=>?_,h4,fun k hk hk'=>?_⟩,h6.trans (g3.below h6.size h3)⟩
 · exact (g2 k hk).elim (h3 k) (fun h=>Nat.le_trans h6.size h)
 · exact (g2 k hk).elim (fun h=>h5 k h hk') (fun h=>by have:=T.lt h2 k hk';omega)
theorem St2.look (h:St2 W O T w) (hc:∀ S,O.at_ S w→Calls P f args w fun e w'=>e=.returned v∧w=w'):
 Calls P f args w fun e w'=>e=.returned v∧w=w':=hc h.1.choose h.1.choose_spec.choose_spec.1
end
def IsRow (k:IntKind) (w:World) (a:Option Addr) (len cap:Nat) (zs:List Int):Prop:=
 (a=none∧len=0∧cap=0∧zs=[])∨
 ∃ x,a=some x∧len≤cap∧cap≤maxLen∧zs.length=cap∧(∀ i,i<zs.length→w.cell? (x.add i)=some (.int k (zs.getD i 0)))∧∀ n∈zs,(Lit.int k n).wf=true
theorem row_at {k:IntKind} (h:IsRow k w a len cap zs) (hi:i<len):
 ∃ b off,a=some ⟨b,off,none⟩∧b<w.heap.size∧i<zs.length∧∀ j,j<len→w.cell? ⟨b,off+j,none⟩=some (.int k (zs.getD j 0)):=by
 rcases h with ⟨_,h,_⟩|⟨⟨b,off,spot⟩,rfl,h1,h2,h3,h4,h5⟩
 · omega
 · have h0:=h4 0 (by omega)
   obtain rfl:spot=none:=by
    cases spot with
    | none=>rfl
    | some s=>simp [Addr.add,World.cell?] at h0;split at h0<;>simp at h0
   refine ⟨b,off,rfl,World.block_lt_of_cell? _ _ h0,by omega,fun j hj=>?_⟩
   have:=h4 j (by omega)
   unfold Addr.add at this;split at this
   · rename_i h;subst h;exact this
   · exact this
theorem take_succ_getD (z:List Int) (k:Nat) (h:k<z.length):z.take (k+1)=z.take k++[z.getD k 0]:=by
 rw [List.take_succ_eq_append_getElem h];simp [List.getD,h]
theorem IsRow.at_ {k:IntKind} (h:IsRow k w a len cap zs) (hi:i<len):
 ∃ b off x,a=some ⟨b,off,none⟩∧b<w.heap.size∧Hid (zs.take (i+1)=zs.take i++[x])∧w.cell? ⟨b,off+i,none⟩=some (.int k x):=by
 obtain ⟨b,off,h1,h2,h3,h4⟩:=row_at h hi
 exact ⟨b,off,_,h1,h2,take_succ_getD _ _ h3,h4 i hi⟩
def aB (O P:aC) (U:Nat→Prop) (w:World):Prop:=∃ S T,O.at_ S w∧P.at_ T w∧(∀ k,S k→¬T k)∧(∀ k,S k→U k)∧(∀ k,T k→U k)∧∀ k,U k→S k∨T k
def Sep (O P:aC):aC where
 at_:=aB O P
 lt:=fun ⟨_,_,h1,h2,_,_,_,h6⟩ k hk=>(h6 k hk).elim (O.lt h1 k) (P.lt h2 k)
 kept:=fun ⟨S,T,h1,h2,h3,h4,h5,h6⟩ hk hs=>⟨S,T,O.kept h1 (fun k hS=>hk k (h4 k hS)) hs,P.kept h2 (fun k hT=>hk k (h5 k hT)) hs,h3,h4,h5,h6⟩
section
variable {O O' P P':aC}
theorem aB.swap (h:aB O P U w):aB P O U w:=by
 obtain ⟨S,T,h1,h2,h3,h4,h5,h6⟩:=h
 exact ⟨T,S,h2,h1,fun k hT hS=>h3 k hS hT,h5,h4,fun k hU=>(h6 k hU).symm⟩
theorem aA.conv (hg:aA O U w w') (h:∀ S w,O.at_ S w→O'.at_ S w):aA O' U w w':=by
 obtain ⟨⟨S,g1,g2⟩,g3⟩:=hg
 exact ⟨⟨S,h S w' g1,g2⟩,g3⟩
theorem aA.same (h:O.at_ U w):aA O U w w:=⟨⟨U,h,fun _ hk=>.inl hk⟩,aY.refl U w⟩
theorem aA.later (h:O.at_ U w) (hb:Below w.heap.size w w'):aA O U w w':=
 ⟨⟨U,O.kept h (fun k hk=>hb.block k (O.lt h k hk)) hb.size,fun _ hk=>.inl hk⟩,⟨hb.os,hb.tape,hb.output,hb.size,fun k hk _=>hb.block k hk⟩⟩
theorem gH {T:Nat→Prop} (h2:P.at_ T w) (h3:∀ k,S k→¬T k) (h4:∀ k,S k→U k) (h5:∀ k,T k→U k) (hg:aA O' S w w'):aA (Sep O' P) U w w':=by
 obtain ⟨⟨S',g1,g2⟩,g3⟩:=hg
 refine ⟨⟨fun k=>S' k∨T k,⟨S',T,g1,P.kept h2 (fun k hk=>g3.block k (P.lt h2 k hk) (fun hs=>h3 k hs hk)) g3.size,fun k hk hT=>?_,fun k h=>.inl h,fun k h=>.inr h,fun k h=>h⟩,fun k hk=>?_⟩,?_⟩
 · exact (g2 k hk).elim (fun h=>h3 k h hT) (fun h=>by have:=P.lt h2 k hT;omega)
 · exact hk.elim (fun h=>(g2 k h).imp (h4 k) id) (fun h=>.inl (h5 k h))
 · exact ⟨g3.os,g3.tape,g3.output,g3.size,fun k hk hU=>g3.block k hk (fun hS=>hU (h4 k hS))⟩
end
section
variable {A B A' B':aC}
theorem bR (hc:∀ S,A.at_ S w→Calls P f args w fun e w'=>R e∧aA A' S w w'):∀ U,(Sep A B).at_ U w→Calls P f args w fun e w'=>R e∧aA (Sep A' B) U w w':=
 fun _ ⟨_,_,h1,h2,h3,h4,h5,_⟩=>(hc _ h1).mono fun _ _ ⟨he,hg⟩=>⟨he,gH h2 h3 h4 h5 hg⟩
theorem cY (hc:∀ S,B.at_ S w→Calls P f args w fun e w'=>R e∧aA B' S w w'):∀ U,(Sep A B).at_ U w→Calls P f args w fun e w'=>R e∧aA (Sep A B') U w w':=
 fun _ ⟨_,_,h1,h2,h3,h4,h5,_⟩=>(hc _ h2).mono fun _ _ ⟨he,hg⟩=>⟨he,(gH h1 (fun k hT hS=>h3 k hS hT) h5 h4 hg).conv fun _ _ h=>aB.swap h⟩
theorem lookL (hc:∀ S,A.at_ S w→Calls P f args w fun e w'=>R e∧w=w'):∀ U,(Sep A B).at_ U w→Calls P f args w fun e w'=>R e∧w=w':=fun _ ⟨_,_,h1,_⟩=>hc _ h1
theorem lookR (hc:∀ S,B.at_ S w→Calls P f args w fun e w'=>R e∧w=w'):∀ U,(Sep A B).at_ U w→Calls P f args w fun e w'=>R e∧w=w':=fun _ ⟨_,_,_,h2,_⟩=>hc _ h2
end
section
variable {A B C A' B':aC}
theorem St.left (h:St W (Sep A B) w):St W A w:=by
 obtain ⟨⟨U,⟨S,T,h1,h2,h3,h4,h5,h6⟩,h7⟩,h8⟩:=h
 exact ⟨⟨S,h1,fun k hk=>h7 k (h4 k hk)⟩,h8⟩
theorem St.right (h:St W (Sep A B) w):St W B w:=by
 obtain ⟨⟨U,⟨S,T,h1,h2,h3,h4,h5,h6⟩,h7⟩,h8⟩:=h
 exact ⟨⟨T,h2,fun k hk=>h7 k (h5 k hk)⟩,h8⟩
theorem St.swap (h:St W (Sep A B) w):St W (Sep B A) w:=by
 obtain ⟨⟨U,h,h7⟩,h8⟩:=h
 exact ⟨⟨U,aB.swap h,h7⟩,h8⟩
theorem St.more (h:St W A w) (hn:∃ S,B.at_ S w'∧∀ k,S k→w.heap.size≤k) (hb:Below w.heap.size w w'):St W (Sep A B) w':=by
 obtain ⟨T,h3,h4⟩:=hn
 have hl:=h.later hb
 obtain ⟨⟨S,h1,h2⟩,h5⟩:=h
 refine ⟨⟨fun k=>S k∨T k,⟨S,T,A.kept h1 (fun k hk=>hb.block k (A.lt h1 k hk)) hb.size,h3,fun k hk hk'=>?_,fun k h=>.inl h,fun k h=>.inr h,fun k h=>h⟩,fun k hk=>hk.elim (h2 k) fun h=>Nat.le_trans h5.size (h4 k h)⟩,hl.2⟩
 have:=A.lt h1 k hk
 have:=h4 k hk'
 omega
end
def varAt (b:Nat) (cs:Array Value) (t:TypeId) (S:Nat→Prop) (w:World):Prop:=Blk w b cs t∧S b∧∀ k,S k→k=b
def Var (b:Nat) (cs:Array Value) (t:TypeId):aC where
 at_:=varAt b cs t
 lt:=fun ⟨h1,_,h3⟩ k hk=>by rw [h3 k hk];exact h1.lt
 kept:=fun ⟨h1,h2,h3⟩ hk _=>⟨by unfold Blk at *;rw [hk b h2];exact h1,h2,h3⟩
theorem St.var {A:aC} (h:St W A w) (cs:Array Value) (t:TypeId):St W (Sep A (Var w.heap.size cs t)) (w.alloc (.cells cs t)):=
 h.more ⟨fun k=>k=w.heap.size,⟨Blk.new w cs t,rfl,fun _ h=>h⟩,fun k hk=>by omega⟩ ((Below.refl _ _).alloc (Nat.le_refl _) _)
theorem St.blk (h:St W (Var b cs t) w):Blk w b cs t:=h.1.choose_spec.1.1
theorem dD (h:(Var b cs t).at_ S w) (i:Nat) (v:Value):aA (Var b (cs.setIfInBounds i v) t) S w (w.setCell ⟨b,i,none⟩ v):=by
 obtain ⟨h1,h2,h3⟩:=h
 exact ⟨⟨S,⟨h1.set i v,h2,h3⟩,fun _ h=>.inl h⟩,(aY.refl S w).setCell (.inl h2) v⟩
theorem aG {A A' B:aC} (hc:∀ S,A.at_ S w→aA A' S w w'):∀ U,(Sep A B).at_ U w→aA (Sep A' B) U w w':=
 fun _ ⟨_,_,h1,h2,h3,h4,h5,_⟩=>gH h2 h3 h4 h5 (hc _ h1)
theorem aH {A B B':aC} (hc:∀ S,B.at_ S w→aA B' S w w'):∀ U,(Sep A B).at_ U w→aA (Sep A B') U w w':=
 fun _ ⟨_,_,h1,h2,h3,h4,h5,_⟩=>(gH h1 (fun k hT hS=>h3 k hS hT) h5 h4 (hc _ h2)).conv fun _ _ h=>aB.swap h
def boolsAt (q n:Nat) (t:TypeId) (m:Nat→Bool) (S:Nat→Prop) (w:World):Prop:=∃ cs,Blk w q cs t∧cs.size=n∧(∀ j,j<n→cs[j]? = some (.bool (m j)))∧S q∧∀ k,S k→k=q
def fY (q n:Nat) (t:TypeId) (m:Nat→Bool):aC where
 at_:=boolsAt q n t m
 lt:=fun ⟨_,h1,_,_,_,h3⟩ k hk=>by rw [h3 k hk];exact h1.lt
 kept:=fun ⟨cs,h1,h2,h3,h4,h5⟩ hk _=>⟨cs,by unfold Blk at *;rw [hk q h4];exact h1,h2,h3,h4,h5⟩
theorem St.boolCell (h:St W (fY q n t m) w) (hj:j<n):w.cell? ⟨q,j,none⟩=some (.bool (m j)):=by
 obtain ⟨⟨S,⟨cs,h1,h2,h3,h4,h5⟩,_⟩,_⟩:=h
 rw [h1.cell];exact h3 j hj
theorem St.boolFree (h:St W (fY q n t m) w) (j:Nat):w.frozen? ⟨q,j,none⟩=false:=by
 obtain ⟨⟨S,⟨cs,h1,h2,h3,h4,h5⟩,_⟩,_⟩:=h
 exact h1.free j
def fC (m:Nat→Bool) (j:Nat) (x:Bool):Nat→Bool:=fun k=>if k=j then x else m k
theorem bools_set (h:(fY q n t m).at_ S w) (j:Nat) (x:Bool):aA (fY q n t (fC m j x)) S w (w.setCell ⟨q,j,none⟩ (.bool x)):=by
 obtain ⟨cs,h1,h2,h3,h4,h5⟩:=h
 refine ⟨⟨S,⟨_,h1.set j (.bool x),by simpa using h2,fun k hk=>?_,h4,h5⟩,fun _ h=>.inl h⟩,(aY.refl S w).setCell (.inl h4) _⟩
 by_cases e:k=j
 · subst e;simp [fC,h2,hk]
 · rw [Array.getElem?_setIfInBounds_ne (by omega)];simp only [fC,e,if_false];exact h3 k hk
theorem St.conv {A B:aC} (h:St W A w) (hc:∀ S w,A.at_ S w→B.at_ S w):St W B w:=⟨⟨_,hc _ _ h.1.choose_spec.1,h.1.choose_spec.2⟩,h.2⟩
theorem St.drewN {W w:World} {A:aC} (h:St W A w) (n:Nat):St W A (w.drewN n):=h.later (below_drewN (Below.refl _ _) n)
theorem St.onward {A:aC} (h:Below W.heap.size W w) (hs:St w A w'):St W A w':=
 ⟨⟨_,hs.1.choose_spec.1,fun k hk=>Nat.le_trans h.size (hs.1.choose_spec.2 k hk)⟩,h.trans (hs.2.mono h.size)⟩
section
variable {O O':aC}
theorem aA.then (h:aA O S w w1) (hc:∀ S',O.at_ S' w1→aA O' S' w1 w2):aA O' S w w2:=by
 obtain ⟨⟨S1,a1,a2⟩,a3⟩:=h
 obtain ⟨⟨S2,b1,b2⟩,b3⟩:=hc S1 a1
 exact ⟨⟨S2,b1,fun k hk=>(b2 k hk).elim (a2 k) fun h=>.inr (Nat.le_trans a3.size h)⟩,a3.trans b3 (fun _ h=>h) a2⟩
theorem aA.call (h:aA O S w w1) (hc:∀ S',O.at_ S' w1→Calls P f args w1 fun e w2=>R e∧aA O' S' w1 w2):Calls P f args w1 fun e w2=>R e∧aA O' S w w2:=by
 obtain ⟨⟨S1,a1,a2⟩,a3⟩:=h
 exact (hc S1 a1).mono fun e w2 ⟨he,hg⟩=>⟨he,by
  obtain ⟨⟨S2,b1,b2⟩,b3⟩:=hg
  exact ⟨⟨S2,b1,fun k hk=>(b2 k hk).elim (a2 k) fun h=>.inr (Nat.le_trans a3.size h)⟩,a3.trans b3 (fun _ h=>h) a2⟩⟩
theorem aA.look (h:aA O S w w1) (hc:∀ S',O.at_ S' w1→Calls P f args w1 fun e w2=>R e∧w1=w2):Calls P f args w1 fun e w2=>R e∧w1=w2:=hc _ h.now.choose_spec.1
end
theorem bU (b off n:Nat):(⟨b,off,none⟩:Addr).add n=⟨b,off+n,none⟩:=by unfold Addr.add;split<;>simp_all
theorem bI {a:Act} {Q:Exit→Act→World→Prop} (hgd:o.guard=none) (s x:Operand) (t:TypeId)
 (ho:o.op=.call {callee:=.builtin .append,args:=#[s,x],argTypes:=#[t,t]})
 (e:TypeId) (i:TypeInfo) (z:Value) (size bytes:Nat) (ht:P.underlying t=some (.slice e)) (hi:P.info? e=some i) (hz:i.zero=some z)
 (hsize:i.size=size) (hby:i.bytes=bytes) (hzs:z.cells.size=size) (hsz:0<size)
 (v:Value) (n:Nat) (xs:List Value) (hs:a.eval s=v) (hown:w.ownsRow 0 e size v n xs)
 (ad:Addr) (m c:Nat) (news:List Value) (hx:a.eval x=.slice (some ad) m c) (hl:news.length=m*size) (hnews:∀ j u,news[j]? = some u→w.cell? (ad.add j)=some u) (h1:∀ u∈news,u.oneCell'=true)
 (hn:n+m≤1000000) (hbb:bytes≤64)
 (h:∀ v' w',w'.ownsRow 0 e size v' (n+m) (xs++news)→w.grownBy w' v.ownBlock→(v'.ownBlock=v.ownBlock∨v'.ownBlock=some w.heap.size)→wpList P ops Q rest (a.put o.dst v') w'):wpList P ops Q (o::rest) a w:=by
 refine wpList_plain hgd fun K hK=>?_
 obtain ⟨v',w',hr,h2,h3,h4⟩:=bZ (P:=P) w 0 t o.type e i z size bytes ht hi hz hsize hby hzs hsz v n xs hown ad m c news (by omega) hnews h1 (by unfold maxLen;omega)
  (by have:(n+m)*bytes≤1000000*64:=Nat.mul_le_mul hn hbb;omega) (Nat.zero_le _)
 unfold Oper.wp execOp
 simp only [ho,resolve,invoke,builtin,Sem.run_bind,Sem.run_pure,Result.andThen_ok,List.map_toArray,List.map_cons,List.map_nil,hs,hx,hr]
 exact hK _ _ (h v' w' h2 h3 h4)
def rowGAt (e size:Nat) (v:Value) (n:Nat) (xs:List Value) (S:Nat→Prop) (w:World):Prop:=w.ownsRow 0 e size v n xs∧∀ k,S k↔v.ownBlock=some k
def cQ (e size:Nat) (v:Value) (n:Nat) (xs:List Value):aC where
 at_:=rowGAt e size v n xs
 lt:=fun ⟨h1,h2⟩ k hk=>(h1.lt k ((h2 k).1 hk)).2
 kept:=fun ⟨h1,h2⟩ hk _=>⟨dN h1 fun k hv=>hk k ((h2 k).2 hv),h2⟩
theorem eW (e size:Nat) (w:World):(cQ e size (.slice none 0 0) 0 []).at_ (fun _=>False) w:=⟨⟨by simp,.inl ⟨rfl,rfl⟩⟩,fun k=>⟨False.elim,fun h=>by simp [Value.ownBlock] at h⟩⟩
theorem bS {e m:Nat} {w0:World} (h:(cQ e size v n xs).at_ S w) (hb:Below w.heap.size w w0)
 (ho:w1.ownsRow 0 e size v' (n+m) (xs++news)) (hg:w0.grownBy w1 v.ownBlock)
 (hbk:v'.ownBlock=v.ownBlock∨v'.ownBlock=some w0.heap.size):aA (cQ e size v' (n+m) (xs++news)) S w w1:=by
 obtain ⟨h1,h2⟩:=h
 refine ⟨⟨fun k=>v'.ownBlock=some k,⟨ho,fun k=>Iff.rfl⟩,fun k hk=>?_⟩,aY.grown ⟨hb.os,hb.tape,hb.output,hb.size,fun k hk _=>hb.block k hk⟩ hg fun k hk=>.inl ((h2 k).2 hk)⟩
 rcases hbk with e|e
 · exact .inl ((h2 k).2 (e▸hk))
 · rw [e] at hk;simp at hk;subst hk;exact .inr hb.size
theorem iB {O:aC} (h:O.at_ S w) (n:Nat):aA O S w (w.drewN n):=aA.later h (below_drewN (Below.refl _ _) n)
theorem jJ {O:aC} (h:O.at_ S w):aA O S w w.drew:=iB h 1
theorem St.fresh (cs:Array Value) (t:TypeId):St w (Var w.heap.size cs t) (w.alloc (.cells cs t)):=
 St.begin (Below.refl _ _) ⟨fun k=>k=w.heap.size,⟨Blk.new w cs t,rfl,fun _ h=>h⟩,fun k hk=>by omega⟩ ((Below.refl _ _).alloc (Nat.le_refl _) _)
def exAt {α:Type} (T:α→aC) (S:Nat→Prop) (w:World):Prop:=∃ x,(T x).at_ S w
def Ex {α:Type} (T:α→aC):aC where
 at_:=exAt T
 lt:=fun ⟨x,h⟩=>(T x).lt h
 kept:=fun ⟨x,h⟩ hk hs=>⟨x,(T x).kept h hk hs⟩
def puAt (p:Prop) (T:aC) (S:Nat→Prop) (w:World):Prop:=p∧T.at_ S w
def Pu (p:Prop) (T:aC):aC where
 at_:=puAt p T
 lt:=fun ⟨_,h⟩=>T.lt h
 kept:=fun ⟨p,h⟩ hk hs=>⟨p,T.kept h hk hs⟩
def empAt (S:Nat→Prop) (_:World):Prop:=∀ k,¬S k
def Emp:aC where
 at_:=empAt
 lt:=fun h k hk=>(h k hk).elim
 kept:=fun h _ _=>h
def All:Nat→(Nat→aC)→aC
 | 0,_=>Emp
 | n+1,T=>Sep (All n T) (T n)
section
variable {α:Type} {R:α→Ending→Prop} {A B O:aC} {A' B' O':α→aC}
theorem keep {O:aC} (h:O.at_ S w) (hb:Below w.heap.size w w'):O.at_ S w':=O.kept h (fun k hk=>hb.block k (O.lt h k hk)) hb.size
theorem aA.ex {T:α→aC} {x:α} (h:aA (T x) S w w'):aA (Ex T) S w w':=h.conv fun _ _ h=>⟨x,h⟩
theorem aA.below_ (h:aA A S w w') (hb:Below w'.heap.size w' w2):aA A S w w2:=h.then fun _ h=>aA.later h hb
theorem aA.alloc_ (h:aA A S w w') (o:Obj):aA A S w (w'.alloc o):=h.below_ ((Below.refl _ _).alloc (Nat.le_refl _) o)
theorem aA.drew_ (h:aA A S w w'):aA A S w w'.drew:=h.below_ (Below.refl _ _).drew
theorem aA.drewN_ (h:aA A S w w') (n:Nat):aA A S w (w'.drewN n):=h.below_ (below_drewN (Below.refl _ _) n)
theorem sepLx (hc:∀ S,A.at_ S w→Calls P f args w fun e w'=>∃ x,R x e∧aA (A' x) S w w'):∀ U,(Sep A B).at_ U w→Calls P f args w fun e w'=>∃ x,R x e∧aA (Sep (A' x) B) U w w':=
 fun _ ⟨_,_,h1,h2,h3,h4,h5,_⟩=>(hc _ h1).mono fun _ _ ⟨x,he,hg⟩=>⟨x,he,gH h2 h3 h4 h5 hg⟩
theorem sepRx (hc:∀ S,B.at_ S w→Calls P f args w fun e w'=>∃ x,R x e∧aA (B' x) S w w'):∀ U,(Sep A B).at_ U w→Calls P f args w fun e w'=>∃ x,R x e∧aA (Sep A (B' x)) U w w':=
 fun _ ⟨_,_,h1,h2,h3,h4,h5,_⟩=>(hc _ h2).mono fun _ _ ⟨x,he,hg⟩=>⟨x,he,(gH h1 (fun k hT hS=>h3 k hS hT) h5 h4 hg).conv fun _ _ h=>aB.swap h⟩
theorem aA.callx (h:aA O S w w1) (hc:∀ S',O.at_ S' w1→Calls P f args w1 fun e w2=>∃ x,R x e∧aA (O' x) S' w1 w2):Calls P f args w1 fun e w2=>∃ x,R x e∧aA (O' x) S w w2:=by
 obtain ⟨⟨S1,a1,a2⟩,a3⟩:=h
 exact (hc S1 a1).mono fun e w2 ⟨x,he,hg⟩=>⟨x,he,by
  obtain ⟨⟨S2,b1,b2⟩,b3⟩:=hg
  exact ⟨⟨S2,b1,fun k hk=>(b2 k hk).elim (a2 k) fun h=>.inr (Nat.le_trans a3.size h)⟩,a3.trans b3 (fun _ h=>h) a2⟩⟩
theorem St.callx (h:St W O w) (hc:∀ S,O.at_ S w→Calls P f args w fun e w'=>∃ x,R x e∧aA (O' x) S w w'):Calls P f args w fun e w'=>∃ x,R x e∧St W (O' x) w':=by
 obtain ⟨⟨S,h1,h2⟩,h3⟩:=h
 refine (hc S h1).mono fun e w' ⟨x,he,hg⟩=>⟨x,he,?_⟩
 obtain ⟨⟨S',g1,g2⟩,g3⟩:=hg
 exact ⟨⟨S',g1,fun k hk=>(g2 k hk).elim (h2 k) (fun h=>Nat.le_trans h3.size h)⟩,h3.trans (g3.below h3.size h2)⟩
theorem aA.see (h:aA O S w w1) (hc:∀ S',O.at_ S' w1→Calls P f args w1 fun e w2=>e=.returned v∧Below w1.heap.size w1 w2):Calls P f args w1 fun e w2=>e=.returned v∧aA O S w w2:=
 h.call fun S' h'=>(hc S' h').mono fun _ _ ⟨he,hb⟩=>⟨he,aA.later h' hb⟩
theorem aA.plain (h:aA O S w w1) (hc:Calls P f args w1 fun e w2=>e=.returned v∧Below w1.heap.size w1 w2):Calls P f args w1 fun e w2=>e=.returned v∧aA O S w w2:=
 hc.mono fun _ _ ⟨he,hb⟩=>⟨he,h.below_ hb⟩
theorem aB.l (h:(Sep A B).at_ U w):∃ S,A.at_ S w∧∀ k,S k→U k:=by obtain ⟨S,T,h1,_,_,h4,_⟩:=h;exact ⟨S,h1,h4⟩
theorem aB.r (h:(Sep A B).at_ U w):∃ S,B.at_ S w∧∀ k,S k→U k:=by obtain ⟨S,T,_,h2,_,_,h5,_⟩:=h;exact ⟨T,h2,h5⟩
theorem aA.l (h:aA (Sep A B) U w w'):aA A U w w':=by
 obtain ⟨⟨S',h1,h2⟩,h3⟩:=h
 obtain ⟨S,h4,h5⟩:=aB.l h1
 exact ⟨⟨S,h4,fun k hk=>h2 k (h5 k hk)⟩,h3⟩
theorem aA.r (h:aA (Sep A B) U w w'):aA B U w w':=by
 obtain ⟨⟨S',h1,h2⟩,h3⟩:=h
 obtain ⟨S,h4,h5⟩:=aB.r h1
 exact ⟨⟨S,h4,fun k hk=>h2 k (h5 k hk)⟩,h3⟩
theorem aA.vc (h:aA (Var b cs t) U w w') (i:Nat) (hv:cs[i]? = some v):w'.cell? ⟨b,i,none⟩=some v:=by
 obtain ⟨⟨S,⟨h1,_⟩,_⟩,_⟩:=h
 rw [h1.cell];exact hv
theorem aA.vf (h:aA (Var b cs t) U w w') (i:Nat):w'.frozen? ⟨b,i,none⟩=false:=by
 obtain ⟨⟨S,⟨h1,_⟩,_⟩,_⟩:=h
 exact h1.free i
theorem aA.vi (h:aA (Var b cs t) U w w') (i:Nat) (x:Int) (hv:cs[i]? = some (.int .i64 x):=by exact rfl):w'.cell? ⟨b,i,none⟩=some (.int .i64 x):=h.vc i hv
theorem aA.vb (h:aA (Var b cs t) U w w') (i:Nat) (x:Bool) (hv:cs[i]? = some (.bool x):=by exact rfl):w'.cell? ⟨b,i,none⟩=some (.bool x):=h.vc i hv
theorem aA.vp (h:aA (Var b cs t) U w w') (i x:Nat) (hv:cs[i]? = some (.pointer (some ⟨x,0,none⟩)):=by exact rfl):w'.cell? ⟨b,i,none⟩=some (.pointer (some ⟨x,0,none⟩)):=h.vc i hv
theorem aA.vC (h:aA (Var b cs t) U w w') (i:Nat) (x:Value) (hv:cs[i]? = some x:=by exact rfl):w'.cell? ⟨b,i,none⟩=some x:=h.vc i hv
theorem aA.c {X:aC} (h:aA (Sep (Var b cs t) X) U w w') (i:Nat) (hv:cs[i]? = some v):w'.cell? ⟨b,i,none⟩=some v:=h.l.vc i hv
theorem aA.fr {X:aC} (h:aA (Sep (Var b cs t) X) U w w') (i:Nat):w'.frozen? ⟨b,i,none⟩=false:=h.l.vf i
theorem aA.ci {X:aC} (h:aA (Sep (Var b cs t) X) U w w') (i:Nat) (x:Int) (hv:cs[i]? = some (.int .i64 x):=by exact rfl):w'.cell? ⟨b,i,none⟩=some (.int .i64 x):=h.c i hv
theorem aA.cb {X:aC} (h:aA (Sep (Var b cs t) X) U w w') (i:Nat) (x:Bool) (hv:cs[i]? = some (.bool x):=by exact rfl):w'.cell? ⟨b,i,none⟩=some (.bool x):=h.c i hv
theorem aA.cp {X:aC} (h:aA (Sep (Var b cs t) X) U w w') (i x:Nat) (hv:cs[i]? = some (.pointer (some ⟨x,0,none⟩)):=by exact rfl):w'.cell? ⟨b,i,none⟩=some (.pointer (some ⟨x,0,none⟩)):=h.c i hv
theorem aA.cC {X:aC} (h:aA (Sep (Var b cs t) X) U w w') (i:Nat) (x:Value) (hv:cs[i]? = some x:=by exact rfl):w'.cell? ⟨b,i,none⟩=some x:=h.c i hv
theorem aA.vput (h:aA (Var b cs t) U w w') (i:Nat) (v:Value) (hv:cs.setIfInBounds i v=cs'):aA (Var b cs' t) U w (w'.setCell ⟨b,i,none⟩ v):=
 h.then fun _ h=>hv▸dD h i v
theorem aA.p5 (h:aA (Var b #[x0,x1,x2,x3,x4] t) U w w') (a0 a1 a2 a3 a4:Value):aA (Var b #[a0,a1,a2,a3,a4] t) U w (((((w'.setCell ⟨b,0,none⟩ a0).setCell ⟨b,1,none⟩ a1).setCell ⟨b,2,none⟩ a2).setCell ⟨b,3,none⟩ a3).setCell ⟨b,4,none⟩ a4):=(((((h.vput 0 a0 (cs':=#[a0,x1,x2,x3,x4]) rfl).vput 1 a1 (cs':=#[a0,a1,x2,x3,x4]) rfl).vput 2 a2 (cs':=#[a0,a1,a2,x3,x4]) rfl).vput 3 a3 (cs':=#[a0,a1,a2,a3,x4]) rfl).vput 4 a4 (cs':=#[a0,a1,a2,a3,a4]) rfl)
theorem aA.p6 (h:aA (Var b #[x0,x1,x2,x3,x4,x5] t) U w w') (a0 a1 a2 a3 a4 a5:Value):aA (Var b #[a0,a1,a2,a3,a4,a5] t) U w ((((((w'.setCell ⟨b,0,none⟩ a0).setCell ⟨b,1,none⟩ a1).setCell ⟨b,2,none⟩ a2).setCell ⟨b,3,none⟩ a3).setCell ⟨b,4,none⟩ a4).setCell ⟨b,5,none⟩ a5):=((((((h.vput 0 a0 (cs':=#[a0,x1,x2,x3,x4,x5]) rfl).vput 1 a1 (cs':=#[a0,a1,x2,x3,x4,x5]) rfl).vput 2 a2 (cs':=#[a0,a1,a2,x3,x4,x5]) rfl).vput 3 a3 (cs':=#[a0,a1,a2,a3,x4,x5]) rfl).vput 4 a4 (cs':=#[a0,a1,a2,a3,a4,x5]) rfl).vput 5 a5 (cs':=#[a0,a1,a2,a3,a4,a5]) rfl)
theorem aA.p7 (h:aA (Var b #[x0,x1,x2,x3,x4,x5,x6] t) U w w') (a0 a1 a2 a3 a4 a5 a6:Value):aA (Var b #[a0,a1,a2,a3,a4,a5,a6] t) U w (((((((w'.setCell ⟨b,0,none⟩ a0).setCell ⟨b,1,none⟩ a1).setCell ⟨b,2,none⟩ a2).setCell ⟨b,3,none⟩ a3).setCell ⟨b,4,none⟩ a4).setCell ⟨b,5,none⟩ a5).setCell ⟨b,6,none⟩ a6):=(((((((h.vput 0 a0 (cs':=#[a0,x1,x2,x3,x4,x5,x6]) rfl).vput 1 a1 (cs':=#[a0,a1,x2,x3,x4,x5,x6]) rfl).vput 2 a2 (cs':=#[a0,a1,a2,x3,x4,x5,x6]) rfl).vput 3 a3 (cs':=#[a0,a1,a2,a3,x4,x5,x6]) rfl).vput 4 a4 (cs':=#[a0,a1,a2,a3,a4,x5,x6]) rfl).vput 5 a5 (cs':=#[a0,a1,a2,a3,a4,a5,x6]) rfl).vput 6 a6 (cs':=#[a0,a1,a2,a3,a4,a5,a6]) rfl)
theorem aA.p9 {x7 x8:Value} (h:aA (Var b #[x0,x1,x2,x3,x4,x5,x6,x7,x8] t) U w w') (a0 a1 a2 a3 a4 a5 a6 a7 a8:Value):aA (Var b #[a0,a1,a2,a3,a4,a5,a6,a7,a8] t) U w (((((((((w'.setCell ⟨b,0,none⟩ a0).setCell ⟨b,1,none⟩ a1).setCell ⟨b,2,none⟩ a2).setCell ⟨b,3,none⟩ a3).setCell ⟨b,4,none⟩ a4).setCell ⟨b,5,none⟩ a5).setCell ⟨b,6,none⟩ a6).setCell ⟨b,7,none⟩ a7).setCell ⟨b,8,none⟩ a8):=(((((((((h.vput 0 a0 (cs':=#[a0,x1,x2,x3,x4,x5,x6,x7,x8]) rfl).vput 1 a1 (cs':=#[a0,a1,x2,x3,x4,x5,x6,x7,x8]) rfl).vput 2 a2 (cs':=#[a0,a1,a2,x3,x4,x5,x6,x7,x8]) rfl).vput 3 a3 (cs':=#[a0,a1,a2,a3,x4,x5,x6,x7,x8]) rfl).vput 4 a4 (cs':=#[a0,a1,a2,a3,a4,x5,x6,x7,x8]) rfl).vput 5 a5 (cs':=#[a0,a1,a2,a3,a4,a5,x6,x7,x8]) rfl).vput 6 a6 (cs':=#[a0,a1,a2,a3,a4,a5,a6,x7,x8]) rfl).vput 7 a7 (cs':=#[a0,a1,a2,a3,a4,a5,a6,a7,x8]) rfl).vput 8 a8 (cs':=#[a0,a1,a2,a3,a4,a5,a6,a7,a8]) rfl)
theorem aA.put {X:aC} (h:aA (Sep (Var b cs t) X) U w w') (i:Nat) (v:Value) (hv:cs.setIfInBounds i v=cs'):aA (Sep (Var b cs' t) X) U w (w'.setCell ⟨b,i,none⟩ v):=
 h.then (aG (fun _ h=>hv▸dD h i v))
theorem aA.begin (h:O.at_ S w):aA O S w w:=aA.same h
theorem aB.assoc {C:aC} (h:(Sep (Sep A B) C).at_ U w):(Sep A (Sep B C)).at_ U w:=by
 obtain ⟨S,T,⟨S1,S2,a1,a2,a3,a4,a5,a6⟩,h2,h3,h4,h5,h6⟩:=h
 refine ⟨S1,fun k=>S2 k∨T k,a1,⟨S2,T,a2,h2,fun k hs=>h3 k (a5 k hs),fun k h=>.inl h,fun k h=>.inr h,fun k h=>h⟩,?_,fun k hk=>h4 k (a4 k hk),?_,?_⟩
 · rintro k hk (h|h)
   · exact a3 k hk h
   · exact h3 k (a4 k hk) h
 · rintro k (h|h)
   · exact h4 k (a5 k h)
   · exact h5 k h
 · intro k hk
   rcases h6 k hk with h|h
   · rcases a6 k h with h|h
     · exact .inl h
     · exact .inr (.inl h)
   · exact .inr (.inr h)
theorem aB.assoc' {C:aC} (h:(Sep A (Sep B C)).at_ U w):(Sep (Sep A B) C).at_ U w:=
 aB.swap (aB.assoc (aB.swap (aB.assoc (aB.swap h))))
theorem aB.monoR {C:aC} (hc:∀ S,B.at_ S w→C.at_ S w) (h:(Sep A B).at_ U w):(Sep A C).at_ U w:=by
 obtain ⟨S,T,h1,h2,h⟩:=h;exact ⟨S,T,h1,hc _ h2,h⟩
theorem aB.monoL {C:aC} (hc:∀ S,A.at_ S w→C.at_ S w) (h:(Sep A B).at_ U w):(Sep C B).at_ U w:=by
 obtain ⟨S,T,h1,h2,h⟩:=h;exact ⟨S,T,hc _ h1,h2,h⟩
theorem aA.more (h:aA A S w w1) (hn:∃ S,B.at_ S w2∧∀ k,S k→w1.heap.size≤k) (hb:Below w1.heap.size w1 w2):aA (Sep A B) S w w2:=by
 obtain ⟨T,h3,h4⟩:=hn
 obtain ⟨⟨S1,a1,a2⟩,a3⟩:=h
 have hk:=aA.later a1 hb
 refine ⟨⟨fun k=>S1 k∨T k,⟨S1,T,A.kept a1 (fun k hk=>hb.block k (A.lt a1 k hk)) hb.size,h3,fun k hk hk'=>?_,fun k h=>.inl h,fun k h=>.inr h,fun k h=>h⟩,fun k hk=>hk.elim (a2 k) fun h=>.inr (Nat.le_trans a3.size (h4 k h))⟩,a3.trans hk.turned (fun _ h=>h) a2⟩
 have:=A.lt a1 k hk
 have:=h4 k hk'
 omega
theorem aA.moreSt (h:aA A S w w1) (hs:St w1 B w2):aA (Sep A B) S w w2:=h.more ⟨_,hs.1.choose_spec.1,hs.1.choose_spec.2⟩ hs.2
theorem aA.swap (h:aA (Sep A B) U w w'):aA (Sep B A) U w w':=h.conv fun _ _ h=>aB.swap h
theorem aA.assoc {C:aC} (h:aA (Sep (Sep A B) C) U w w'):aA (Sep A (Sep B C)) U w w':=h.conv fun _ _ h=>aB.assoc h
theorem aA.assoc' {C:aC} (h:aA (Sep A (Sep B C)) U w w'):aA (Sep (Sep A B) C) U w w':=h.conv fun _ _ h=>aB.assoc' h
end
end Go.Proofs.YtgcmiahhkalfmaaGreat
