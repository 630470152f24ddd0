import Derived.Test.YtgcmiahhkalfmaaGreatM5
import Derived.Test.YtgcmiahhkalfmaaGreatM7
import Derived.Test.YtgcmiahhkalfmaaGreatM9
set_option maxRecDepth 100000
set_option maxHeartbeats 8000000
set_option linter.unusedVariables false
set_option linter.unusedSimpArgs false
namespace Go.Proofs.YtgcmiahhkalfmaaGreat
attribute [local go_sem] aF
open Go.Proofs.Tryz
open Go.RowKit
variable {args cs:Array Value} {s z:Bool} {c:Cf} {ct:Int} {x:List Nat} {rest:List Value} {b bp bt c0 c1 cap g i k n n0 n1 st:Nat} {f t':Nat→One} {S U:Nat→Prop} {a a0 a1:Option Addr} {P:Program} {q q':Sw.Q} {r':Sw.Rq} {A A' B C O X:aC} {t:TypeId} {gv gv' v:Value} {w w' w1 w2:World}
section
variable {f:FuncId} {α:Type} {R:α→Ending→Prop} {O':α→aC}
def aN (P:Program) (f:FuncId) (args:Array Value) (w:World) (O:aC) (R:α→Ending→Prop) (O':α→aC):Prop:=
 ∀ S,O.at_ S w→Calls P f args w fun e w'=>∃ x,R x e∧aA (O' x) S w w'
theorem aN.l (h:aN P f args w A R O'):aN P f args w (Sep A B) R (fun x=>Sep (O' x) B):=sepLx h
theorem aN.r (h:aN P f args w A R O'):aN P f args w (Sep B A) R (fun x=>Sep B (O' x)):=sepRx h
theorem aN.on (h:aN P f args w1 O R O') (hg:aA O S w w1):Calls P f args w1 fun e w2=>∃ x,R x e∧aA (O' x) S w w2:=hg.callx h
theorem aN.ofGoes (h:∀ S,A.at_ S w→Calls P f args w fun e w'=>e=.returned v∧aA A' S w w'):aN P f args w A (fun (_:Unit) e=>e=.returned v) (fun _=>A'):=
 fun S hs=>(h S hs).mono fun e w' ⟨h1,h2⟩=>⟨(),h1,h2⟩
theorem aN.conv {β:Type} {A2:aC} {R2:β→Ending→Prop} {O2:β→aC} (h:aN P f args w A2 R2 O2) (h1:∀ S w,A.at_ S w→A2.at_ S w)
 (h2:∀ y e,R2 y e→∃ x,R x e∧∀ S w,(O2 y).at_ S w→(O' x).at_ S w):aN P f args w A R O':=
 fun S hs=>(h S (h1 S w hs)).mono fun e w' ⟨y,he,hg⟩=>let ⟨x,hx,hk⟩:=h2 y e he;⟨x,hx,hg.conv hk⟩
theorem aN.assoc {O1 O2 O3:α→aC} (h:aN P f args w (Sep A (Sep B C)) R (fun x=>Sep (O1 x) (Sep (O2 x) (O3 x)))):aN P f args w (Sep (Sep A B) C) R (fun x=>Sep (Sep (O1 x) (O2 x)) (O3 x)):=
 h.conv (fun _ _ h=>aB.assoc h) fun y e he=>⟨y,he,fun _ _ h=>aB.assoc' h⟩
theorem aN.assoc' {O1 O2 O3:α→aC} (h:aN P f args w (Sep (Sep A B) C) R (fun x=>Sep (Sep (O1 x) (O2 x)) (O3 x))):aN P f args w (Sep A (Sep B C)) R (fun x=>Sep (O1 x) (Sep (O2 x) (O3 x))):=
 h.conv (fun _ _ h=>aB.assoc' h) fun y e he=>⟨y,he,fun _ _ h=>aB.assoc h⟩
theorem aN.swap {O1 O2:α→aC} (h:aN P f args w (Sep A B) R (fun x=>Sep (O1 x) (O2 x))):aN P f args w (Sep B A) R (fun x=>Sep (O2 x) (O1 x)):=
 h.conv (fun _ _ h=>aB.swap h) fun y e he=>⟨y,he,fun _ _ h=>aB.swap h⟩
theorem aN.lX {O1 Y:α→aC} (h:aN P f args w A R (fun x=>Sep (O1 x) (Y x))):aN P f args w (Sep A B) R (fun x=>Sep (Sep (O1 x) B) (Y x)):=
 aN.conv (R2:=R) h.l (fun _ _ h=>h) fun y e he=>⟨y,he,fun S w h=>aB.assoc' (aB.monoR (fun S h=>aB.swap h) (aB.assoc h))⟩
theorem aN.rX {O1 Y:α→aC} (h:aN P f args w A R (fun x=>Sep (O1 x) (Y x))):aN P f args w (Sep B A) R (fun x=>Sep (Sep B (O1 x)) (Y x)):=
 aN.conv (R2:=R) h.r (fun _ _ h=>h) fun y e he=>⟨y,he,fun S w h=>aB.assoc' h⟩
theorem aN.assocX {O1 O2 O3 Y:α→aC} (h:aN P f args w (Sep (Sep A B) C) R (fun x=>Sep (Sep (Sep (O1 x) (O2 x)) (O3 x)) (Y x))):aN P f args w (Sep A (Sep B C)) R (fun x=>Sep (Sep (O1 x) (Sep (O2 x) (O3 x))) (Y x)):=
 aN.conv (R2:=R) h (fun _ _ h=>aB.assoc' h) fun y e he=>⟨y,he,fun S w h=>aB.monoL (fun S h=>aB.assoc h) h⟩
def kM (T:Nat→aC) (j:Nat) (X:aC):Nat→aC:=fun k=>if k=j then X else T k
theorem fH {T T':Nat→aC}:∀ {n:Nat},(∀ k,k<n→T k=T' k)→All n T=All n T'
 | 0,_=>rfl
 | n+1,h=>by simp only [All];rw [fH (n:=n) fun k hk=>h k (by omega),h n (by omega)]
theorem aN.all {T:Nat→aC} {C:aC} {C':α→aC} {X:α→aC}:∀ {n j:Nat},j<n→aN P f args w (Sep C (T j)) R (fun x=>Sep (C' x) (X x))→aN P f args w (Sep C (All n T)) R (fun x=>Sep (C' x) (All n (kM T j (X x))))
 | 0,_,h,_=>absurd h (Nat.not_lt_zero _)
 | n+1,j,hj,h=>by
  by_cases e:j=n
  · subst e
    refine aN.conv (R2:=R) (O2:=fun x=>Sep (Sep (C' x) (X x)) (All j T)) (h.l) (fun S w h=>aB.assoc' (aB.monoR (fun S h=>aB.swap h) h)) fun y e he=>⟨y,he,fun S w h=>?_⟩
    have e1:All (j+1) (kM T j (X y))=Sep (All j T) (X y):=by
     simp only [All];rw [fH (T:=kM T j (X y)) (T':=T) fun k hk=>by simp [kM];omega];simp [kM]
    rw [e1]
    exact aB.monoR (fun S h=>aB.swap h) (aB.assoc h)
  · have ih:=aN.all (n:=n) (j:=j) (T:=T) (by omega) h
    refine aN.conv (R2:=R) (O2:=fun x=>Sep (Sep (C' x) (All n (kM T j (X x)))) (T n)) (ih.l) (fun S w h=>aB.assoc' h) fun y e he=>⟨y,he,fun S w h=>?_⟩
    have e1:All (n+1) (kM T j (X y))=Sep (All n (kM T j (X y))) (T n):=by simp only [All];simp [kM,show n≠j by omega]
    rw [e1]
    exact aB.assoc h
end
section
variable {f:FuncId} {O':aC}
def aJ (P:Program) (f:FuncId) (args:Array Value) (w:World) (A:aC) (v:Value) (A':aC):Prop:=
 ∀ S,A.at_ S w→Calls P f args w fun e w'=>e=.returned v∧aA A' S w w'
theorem aJ.l (h:aJ P f args w A v A'):aJ P f args w (Sep A B) v (Sep A' B):=bR h
theorem aJ.r (h:aJ P f args w A v A'):aJ P f args w (Sep B A) v (Sep B A'):=cY h
theorem aJ.on (h:aJ P f args w1 O v O') (hg:aA O S w w1):Calls P f args w1 fun e w2=>e=.returned v∧aA O' S w w2:=hg.call h
theorem aJ.conv {A2 O2:aC} (h:aJ P f args w A2 v O2) (h1:∀ S w,A.at_ S w→A2.at_ S w) (h2:∀ S w,O2.at_ S w→O'.at_ S w):aJ P f args w A v O':=
 fun S hs=>(h S (h1 S w hs)).mono fun _ _ ⟨he,hg⟩=>⟨he,hg.conv h2⟩
theorem aJ.look (h:∀ S,A.at_ S w→Calls P f args w fun e w'=>e=.returned v∧w=w'):aJ P f args w A v A:=fun S hs=>(h S hs).mono fun _ _ ⟨h1,h2⟩=>⟨h1,h2▸aA.same hs⟩
theorem aJ.see (h:∀ S,A.at_ S w→Calls P f args w fun e w'=>e=.returned v∧Below w.heap.size w w'):aJ P f args w A v A:=fun S hs=>(h S hs).mono fun _ _ ⟨h1,h2⟩=>⟨h1,aA.later hs h2⟩
theorem aJ.ex {α:Type} {T T':α→aC} (h:∀ x,∃ y,aJ P f args w (T x) v (T' y)):aJ P f args w (Ex T) v (Ex T'):=fun S ⟨x,hs⟩=>let ⟨y,h⟩:=h x;(h S hs).mono fun _ _ ⟨he,hg⟩=>⟨he,hg.ex⟩
theorem aJ.assoc (h:aJ P f args w (Sep A (Sep B C)) v (Sep A' (Sep O O'))):aJ P f args w (Sep (Sep A B) C) v (Sep (Sep A' O) O'):=h.conv (fun _ _ h=>aB.assoc h) fun _ _ h=>aB.assoc' h
theorem aJ.assoc' (h:aJ P f args w (Sep (Sep A B) C) v (Sep (Sep A' O) O')):aJ P f args w (Sep A (Sep B C)) v (Sep A' (Sep O O')):=h.conv (fun _ _ h=>aB.assoc' h) fun _ _ h=>aB.assoc h
theorem aJ.swap (h:aJ P f args w (Sep A B) v (Sep A' O)):aJ P f args w (Sep B A) v (Sep O A'):=h.conv (fun _ _ h=>aB.swap h) fun _ _ h=>aB.swap h
theorem aJ.does (h:aJ P f args w A v A'):aN P f args w A (fun (_:Unit) e=>e=.returned v) (fun _=>A'):=aN.ofGoes h
theorem turned_sets (hb:U b) (vs:List Value):∀ (w:World) (i:Nat),aY U w1 w→aY U w1 (setCells w b i vs):=by
 induction vs with
 | nil=>intro w i h;exact h
 | cons v vs ih=>intro w i h;exact ih _ _ (h.setCell (.inl hb) v)
theorem aA.fill {k:Nat} {cs:Array Value} {t:TypeId} (h:aA (Sep O (Var k cs t)) S w w') (vs:List Value) (hl:vs.length=cs.size):aA (Sep O (Var k vs.toArray t)) S w (setCells w' k 0 vs):=
 h.then (aH (fun S (h:varAt k cs t S w')=>(⟨⟨S,⟨h.1.fill vs hl,h.2.1,h.2.2⟩,fun _ h=>.inl h⟩,turned_sets h.2.1 vs _ 0 (aY.refl _ _)⟩:aA (Var k vs.toArray t) S w' _)))
end
def ShQ (b bt:Nat) (c:Cf) (q:Sw.Q):aC:=Ex fun x:Nat×Int=>cO b bt x.1 c.frags q.t (q.pl.map Int.ofNat) (c.stack:Int) q.lo x.2
section
theorem kN (h:i<n):iH n f i=(f i).hd:=by unfold iH;rw [if_pos (show tIn n (i:Int) from ⟨by omega,by omega⟩)];simp
theorem tState_lt (h:i<n):fJ n f i=(f i).st:=by unfold fJ;rw [if_pos (show tIn n (i:Int) from ⟨by omega,by omega⟩)];simp
theorem jC (h:i<n):jV n f i s=((f i).st==2&&((f i).sn==s)):=by unfold jV;rw [if_pos (show tIn n (i:Int) from ⟨by omega,by omega⟩)];simp
theorem iI (h:aA (cO b bt bp c.frags q'.t (q'.pl.map Int.ofNat) (c.stack:Int) q'.lo ct) S w w'):aA (ShQ b bt c q') S w w':=h.conv fun _ _ h=>⟨(bp,ct),h⟩
theorem sh_grey (hi:i<c.frags) (hu:(q.t i).hd=true→(q.t i).st=2) (hp:q.pl.length≤c.stack) (hm:c.stack≤256) (w:World):
 aJ prog 128 #[.pointer (some ⟨b,0,none⟩),.int .i64 (i:Int),.bool s] w (ShQ b bt c q) (.bool ((q.t i).hd&&!q.blk i s)) (ShQ b bt c (q.grey c i s)):=by
 rintro S ⟨⟨bp,ct⟩,h⟩
 change (cO b bt bp c.frags q.t (q.pl.map Int.ofNat) (c.stack:Int) q.lo ct).at_ S w at h
 have hw:iO c.frags q.t i s=((q.t i).hd&&!q.blk i s):=by unfold iO;rw [kN hi,jC hi];rfl
 cases hc:((q.t i).hd&&!q.blk i s) with
 | false=>
  have e:q.grey c i s=q:=by unfold Sw.Q.grey;rw [if_neg];rintro ⟨a,b⟩;rw [a,b] at hc;simp at hc
  rw [e]
  exact (shade_grey_no _ s h (hw.trans hc)).mono fun e w' ⟨he,hg⟩=>⟨he,iI hg⟩
 | true=>
  have hc2:(q.t i).hd=true∧q.blk i s=false:=by simpa using hc
  have e:tMark c.frags q.t i s=Sw.set q.t i {q.t i with sn:=s}:=by
   have hb:=hc2.2
   unfold Sw.Q.blk at hb
   unfold tMark tMarks;rw [tState_lt hi,jC hi,if_pos (by rw [hb,hu hc2.1];rfl)];rfl
  have eg:q.grey c i s={q with t:=Sw.set q.t i {q.t i with sn:=s},pl:=if q.pl.length<c.stack then q.pl++[i] else q.pl,lo:=if q.pl.length<c.stack then q.lo else true}:=by
   unfold Sw.Q.grey;rw [if_pos hc2]
  rw [eg]
  by_cases hl:q.pl.length<c.stack
  · refine (shade_grey_lt _ s h (hw.trans hc) (by simpa using hl) (by omega)).mono fun e' w' ⟨he,hg⟩=>⟨he,iI (bp:=bp) (ct:=wrap64 (ct+1)) (hg.conv fun S w h=>?_)⟩
    rw [e] at h;simp only [if_pos hl,List.map_append];exact h
  · refine (shade_grey_eq _ s h (hw.trans hc) (by simp;omega) (by omega)).mono fun e' w' ⟨he,hg⟩=>⟨he,iI (bp:=bp) (ct:=wrap64 (ct+1)) (hg.conv fun S w h=>?_)⟩
    rw [e] at h;simp only [if_neg hl];exact h
theorem sh_black (hi:i<c.frags) (w:World):aJ prog 135 #[.pointer (some ⟨b,0,none⟩),.int .i64 (i:Int),.bool s] w (ShQ b bt c q) (.bool ((q.t i).hd&&q.blk i s)) (ShQ b bt c q):=by
 rintro S ⟨⟨bp,ct⟩,h⟩
 refine (shade_black i s h).mono fun e w' ⟨he,hg⟩=>⟨?_,iI hg⟩
 rw [he,kN hi,jC hi];rfl
theorem sh_next0 (h0:q.pl=[]) (w:World):aJ prog 130 #[.pointer (some ⟨b,0,none⟩)] w (ShQ b bt c q) (.tuple #[.int .i64 0,.bool false]) (ShQ b bt c q):=by
 rintro S ⟨⟨bp,ct⟩,h⟩
 change (cO b bt bp c.frags q.t (q.pl.map Int.ofNat) (c.stack:Int) q.lo ct).at_ S w at h
 rw [h0] at h
 exact (shade_next_none h).mono fun e w' ⟨he,hg⟩=>⟨he,iI (by rw [h0];exact hg)⟩
theorem sh_next (h0:q.pl=x++[i]) (w:World):aJ prog 130 #[.pointer (some ⟨b,0,none⟩)] w (ShQ b bt c q) (.tuple #[.int .i64 (i:Int),.bool true]) (ShQ b bt c {q with pl:=x}):=by
 rintro S ⟨⟨bp,ct⟩,h⟩
 change (cO b bt bp c.frags q.t (q.pl.map Int.ofNat) (c.stack:Int) q.lo ct).at_ S w at h
 rw [h0,List.map_append] at h
 exact (shade_next (i:=(i:Int)) h).mono fun e w' ⟨he,hg⟩=>⟨he,iI (q':={q with pl:=x}) hg⟩
theorem sh_lost (w:World):aJ prog 134 #[.pointer (some ⟨b,0,none⟩)] w (ShQ b bt c q) (.bool q.lo) (ShQ b bt c {q with lo:=false}):=by
 rintro S ⟨⟨bp,ct⟩,h⟩
 exact (shade_lost h).mono fun e w' ⟨he,hg⟩=>⟨he,iI (q':={q with lo:=false}) hg⟩
theorem kV {g:FuncId} (h:aJ P g args w (Tab bt c.frags q.t) v (Tab bt c.frags t')):aJ P g args w (ShQ b bt c q) v (ShQ b bt c {q with t:=t'}):=
 fun S ⟨⟨bp,ct⟩,hs⟩=>((h.l.r:aJ P g args w (cO b bt bp c.frags q.t (q.pl.map Int.ofNat) (c.stack:Int) q.lo ct) v (cO b bt bp c.frags t' (q.pl.map Int.ofNat) (c.stack:Int) q.lo ct)) S hs).mono fun e w' ⟨he,hg⟩=>⟨he,iI (q':={q with t:=t'}) hg⟩
theorem tq_state (hi:i<c.frags) (w:World):aJ prog 53 #[.pointer (some ⟨bt,0,none⟩),.int .i64 (i:Int)] w (ShQ b bt c q) (.int .i64 ((q.t i).st:Int)) (ShQ b bt c q):=
 kV (t':=q.t) (.look fun S h=>by have:=gT (i:Int) h;rw [tState_lt hi] at this;exact this)
theorem tq_black (hi:i<c.frags) (w:World):aJ prog 201 #[.pointer (some ⟨bt,0,none⟩),.int .i64 (i:Int),.bool s] w (ShQ b bt c q) (.bool (q.blk i s)) (ShQ b bt c q):=
 kV (t':=q.t) (.look fun S h=>by have:=gU (i:Int) s h;rw [jC hi] at this;exact this)
theorem tq_set (hi:i<c.frags) (hs:st≤2) (w:World):aJ prog 256 #[.pointer (some ⟨bt,0,none⟩),.int .i64 (i:Int),.int .i64 (st:Int),.bool false,.bool s] w (ShQ b bt c q) (.bool true) (ShQ b bt c {q with t:=Sw.set q.t i ⟨st,false,s⟩}):=
 kV (fun S h=>(tint_set (i:Int) (st:Int) false s h).mono fun e w' ⟨he,hg⟩=>by
  have e1:tSets c.frags (i:Int) (st:Int)=true:=by unfold tSets tIn;simp;omega
  have e2:tSet c.frags q.t (i:Int) (st:Int) false s=Sw.set q.t i ⟨st,false,s⟩:=by unfold tSet;rw [if_pos e1];simp [upd,Sw.set];rfl
  rw [e1] at he;rw [e2] at hg;exact ⟨he,hg⟩)
theorem tq_born (hi:i<c.frags) (h2:(q.t i).st=2) (hd:(q.t i).hd=false) (w:World):aJ prog 286 #[.pointer (some ⟨bt,0,none⟩),.int .i64 (i:Int)] w (ShQ b bt c q) (.bool true) (ShQ b bt c {q with t:=Sw.set q.t i {q.t i with hd:=true}}):=
 kV (fun S h=>(tint_born (i:Int) h).mono fun e w' ⟨he,hg⟩=>by
  have e1:jW c.frags q.t (i:Int)=true:=by unfold jW;rw [tState_lt hi,kN hi,h2,hd];rfl
  have e2:tBorn c.frags q.t (i:Int)=Sw.set q.t i {q.t i with hd:=true}:=by unfold tBorn;rw [if_pos e1];rfl
  rw [e1] at he;rw [e2] at hg;exact ⟨he,hg⟩)
end
def eC (r:Sw.Rq) (gv:Value) (rest:List Value):Array Value:=
 (.int .i64 0::.int .i64 1::.int .i64 0::.int .i64 (r.st:Int)::.int .i64 (r.cy:Int)::.int .i64 (-1)::gv::.bool r.nt::rest).toArray
def LnR (b g cap:Nat) (r:Sw.Rq) (gv:Value) (rest:List Value):aC:=Sep (Var b #[.slice (some ⟨g,0,none⟩) 1 cap] 263) (Var g (eC r gv rest) 305)
section
variable {r:Sw.Rq}
theorem fT (h:aA (LnR b g cap r gv rest) S w w'):w'.cell? ⟨b,0,none⟩=some (.slice (some ⟨g,0,none⟩) 1 cap)∧w'.cell? ⟨g,0,none⟩=some (.int .i64 0)∧w'.cell? ⟨g,1,none⟩=some (.int .i64 1)∧w'.cell? ⟨g,2,none⟩=some (.int .i64 0)∧
 w'.cell? ⟨g,3,none⟩=some (.int .i64 (r.st:Int))∧w'.cell? ⟨g,4,none⟩=some (.int .i64 (r.cy:Int))∧w'.cell? ⟨g,5,none⟩=some (.int .i64 (-1))∧w'.cell? ⟨g,6,none⟩=some gv∧w'.cell? ⟨g,7,none⟩=some (.bool r.nt):=
 ⟨h.l.vc 0 rfl,h.r.vc 0 (by simp [eC]),h.r.vc 1 (by simp [eC]),h.r.vc 2 (by simp [eC]),h.r.vc 3 (by simp [eC]),h.r.vc 4 (by simp [eC]),h.r.vc 5 (by simp [eC]),h.r.vc 6 (by simp [eC]),h.r.vc 7 (by simp [eC])⟩
def eV (r:Sw.Rq) (gv:Value):Value:=.agg #[.int .i64 0,.int .i64 1,.int .i64 0,.int .i64 (r.st:Int),.int .i64 (r.cy:Int),.int .i64 (-1),gv,.bool r.nt]
theorem ln_of1 (hk:w.cell? ⟨k,0,none⟩=some (.int .i64 0)):Calls prog 325 #[eV r gv,.pointer (some ⟨k,0,none⟩)] w fun e w'=>e=.returned (.bool true)∧Below w.heap.size w w':=by
 have hl:=World.block_lt_of_cell? _ _ hk
 unfold eV
 go_enter func325,ntmps325
 go_wp2_with fail
 go_ret
 exact ⟨rfl,(Below.refl _ _).alloc (Nat.le_refl _) _⟩
theorem ln_first1 (z:Bool) (hz:decide ((r.st:Int)=0)=z):Calls prog 310 #[eV r gv] w fun e w'=>e=.returned (.bool z)∧Below w.heap.size w w':=by
 have hz2:((r.st:Int)==0)=z:=hz
 unfold eV
 cases z<;>
 · go_enter func310,ntmps310
   go_wp2_with fail
   go_ret
   exact ⟨rfl,(Below.refl _ _).alloc (Nat.le_refl _) _⟩
theorem ln_index_of (p:Value) (h:O.at_ S w) (hc:∀ w',aA O S w w'→aA (LnR b g cap r gv rest) S w w') (hF:∀ w',aA O S w w'→Calls prog 325 #[eV r gv,p] w' fun e w2=>e=.returned (.bool z)∧aA O S w w2):
 Calls prog 309 #[.slice (some ⟨g,0,none⟩) 1 cap,.func (.func 325) #[] #[p]] w fun e w'=>e=.returned (.int .i64 (if z then 0 else -1))∧aA O S w w':=by
 have HH:=zz h
 have HF:=zz hF
 unfold eV at HF
 clear h hF
 go_enter func309,ntmps309
 go_wp2_with fail
 go_loopw [5,8] (fun u i wr=>(i=.int .i64 0∨i=.int .i64 1∧z=false)∧aA O S w wr) (fun _ i _=>1-(intOf i).toNat)
 case atStart=>exact ⟨.inl rfl,aA.same HH.out⟩
 case round=>
  obtain ⟨hi,hb⟩:=hrel
  rcases hi with rfl|⟨rfl,rfl⟩
  · obtain ⟨-,d0,d1,d2,d3,d4,d5,d6,d7⟩:=fT (hc _ hb)
    have HB:=zz hb
    clear hb
    go_wp2_with fail
    refine qz (HF.out _ HB.out) fun w3 hb=>?_
    clear HB
    cases z with
    | true=>
     go_wp2_with fail
     go_ret
     exact ⟨rfl,hb⟩
    | false=>
     go_wp2_with fail
     go_round
     case rel=>exact ⟨.inr ⟨rfl,trivial⟩,hb⟩
     case measure=>decide
  · go_wp2_with fail
    go_ret
    exact ⟨rfl,hb⟩
theorem ln_index_first (h:O.at_ S w) (hc:∀ w',aA O S w w'→aA (LnR b g cap r gv rest) S w w') (hF:∀ w',aA O S w w'→Calls prog 310 #[eV r gv] w' fun e w2=>e=.returned (.bool z)∧aA O S w w2):
 Calls prog 309 #[.slice (some ⟨g,0,none⟩) 1 cap,.func (.func 310) #[] #[]] w fun e w'=>e=.returned (.int .i64 (if z then 0 else -1))∧aA O S w w':=by
 have HH:=zz h
 have HF:=zz hF
 unfold eV at HF
 clear h hF
 go_enter func309,ntmps309
 go_wp2_with fail
 go_loopw [5,8] (fun u i wr=>(i=.int .i64 0∨i=.int .i64 1∧z=false)∧aA O S w wr) (fun _ i _=>1-(intOf i).toNat)
 case atStart=>exact ⟨.inl rfl,aA.same HH.out⟩
 case round=>
  obtain ⟨hi,hb⟩:=hrel
  rcases hi with rfl|⟨rfl,rfl⟩
  · obtain ⟨-,d0,d1,d2,d3,d4,d5,d6,d7⟩:=fT (hc _ hb)
    have HB:=zz hb
    clear hb
    go_wp2_with fail
    refine qz (HF.out _ HB.out) fun w3 hb=>?_
    clear HB
    cases z with
    | true=>
     go_wp2_with fail
     go_ret
     exact ⟨rfl,hb⟩
    | false=>
     go_wp2_with fail
     go_round
     case rel=>exact ⟨.inr ⟨rfl,trivial⟩,hb⟩
     case measure=>decide
  · go_wp2_with fail
    go_ret
    exact ⟨rfl,hb⟩
theorem ln_of (h:(LnR b g cap r gv rest).at_ S w):Calls prog 287 #[.pointer (some ⟨b,0,none⟩),.int .i64 0] w fun e w'=>e=.returned (.int .i64 0)∧aA (LnR b g cap r gv rest) S w w':=by
 have g0:=(aA.begin h).moreSt (St.fresh #[.int .i64 0] 3)
 obtain ⟨k,hk⟩:∃ k,w.heap.size=k:=⟨_,rfl⟩
 rw [hk] at g0
 obtain ⟨c0,-⟩:=fT g0.l
 have HL:=zz (g0.call fun S h=>ln_index_of (z:=true) (.pointer (some ⟨k,0,none⟩)) h (fun _ hg=>hg.l) fun w' hg=>(ln_of1 (hg.r.vi 0 0)).mono fun _ _ ⟨he,hb⟩=>⟨he,hg.below_ hb⟩)
 clear h g0
 go_enter func287,ntmps287
 go_upto_region 1 with fail
 generalize w.alloc _=w1 at*
 go_wp2_with fail
 refine qz HL.out fun w2 hg=>?_
 have HG:=zz hg.l
 clear hg HL
 go_wp2_with fail
 go_ret
 exact ⟨rfl,HG.out⟩
theorem lD (hz:decide ((r.st:Int)=0)=z) (h:(LnR b g cap r gv rest).at_ S w):Calls prog 259 #[.pointer (some ⟨b,0,none⟩)] w fun e w'=>e=.returned (.int .i64 (if z then 0 else -1))∧aA (LnR b g cap r gv rest) S w w':=by
 obtain ⟨c0,-⟩:=fT (aA.begin h)
 have HL:=zz (ln_index_first (z:=z) h (fun _ hg=>hg) fun w' hg=>(ln_first1 _ hz).mono fun _ _ ⟨he,hb⟩=>⟨he,hg.below_ hb⟩)
 clear h hz
 cases z<;>
 · go_enter func259,ntmps259
   go_wp2_with fail
   refine qz HL.out fun w2 hg=>?_
   have HG:=zz hg
   clear hg HL
   go_wp2_with fail
   go_ret
   exact ⟨rfl,HG.out⟩
end
abbrev Sl:=Option Addr×Nat×Nat
def slV (x:Sl):Value:=.slice x.1 x.2.1 x.2.2
def rqV (r:Sw.Rq) (gv:Value):Value:=.agg #[.int .i64 0,.int .i64 1,.int .i64 0,.int .i64 (r.st:Int),.int .i64 (r.cy:Int),.int .i64 (-1),gv]
def rqC (r:Sw.Rq) (gv:Value):Array Value:=#[.int .i64 0,.int .i64 1,.int .i64 0,.int .i64 (r.st:Int),.int .i64 (r.cy:Int),.int .i64 (-1),gv]
section
variable {r:Sw.Rq} {p:Sl→Prop} {O':Sl→aC}
theorem dQ {v0 v1 v2 v3 v4 v5 v6:Value} (hcs:cs=#[v0,v1,v2,v3,v4,v5,v6]) (h:aA (Sep O (Var k cs t)) S w w'):
 w'.cell? ⟨k,0,none⟩=some v0∧w'.cell? ⟨k,1,none⟩=some v1∧w'.cell? ⟨k,2,none⟩=some v2∧w'.cell? ⟨k,3,none⟩=some v3∧w'.cell? ⟨k,4,none⟩=some v4∧w'.cell? ⟨k,5,none⟩=some v5∧w'.cell? ⟨k,6,none⟩=some v6∧
 w'.frozen? ⟨k,0,none⟩=false∧w'.frozen? ⟨k,1,none⟩=false∧w'.frozen? ⟨k,2,none⟩=false∧w'.frozen? ⟨k,3,none⟩=false∧w'.frozen? ⟨k,4,none⟩=false∧w'.frozen? ⟨k,5,none⟩=false∧w'.frozen? ⟨k,6,none⟩=false:=by
 subst hcs
 exact ⟨h.r.vc 0 rfl,h.r.vc 1 rfl,h.r.vc 2 rfl,h.r.vc 3 rfl,h.r.vc 4 rfl,h.r.vc 5 rfl,h.r.vc 6 rfl,h.r.vf 0,h.r.vf 1,h.r.vf 2,h.r.vf 3,h.r.vf 4,h.r.vf 5,h.r.vf 6⟩
theorem ln_at (hc:∀ w,aN prog 266 #[.slice a0 n0 c0] w (Sep (LnR b g cap r (.slice a0 n0 c0) rest) X) (fun (x:Sl) e=>e=.returned (.slice x.1 x.2.1 x.2.2)∧p x) O'):
 aN prog 258 #[.pointer (some ⟨b,0,none⟩),.int .i64 0] w (Sep (LnR b g cap r (.slice a0 n0 c0) rest) X) (fun x e=>e=.returned (.tuple #[rqV r (.slice x.1 x.2.1 x.2.2),.bool true])∧p x) O':=by
 intro S h
 have g0:=(aA.begin h).moreSt (St.fresh aS 272)
 obtain ⟨k,hk⟩:∃ k,w.heap.size=k:=⟨_,rfl⟩
 have g1:=g0.moreSt (St.fresh (rqC r (.slice a0 n0 c0)) 272)
 rw [World.size_alloc,hk] at g1
 rw [hk] at g0
 obtain ⟨d8,d0,d1,d2,d3,d4,d5,d6,d7⟩:=fT g0.l.l
 have HC:=zz hc
 have HG:=zz g1
 simp only [aS,rqC] at*
 clear h hc g0 g1
 go_enter func258,ntmps258
 go_upto_region 1 with fail
 have HL:=zz ((HC.out _).l.l.on HG.out)
 go_wp2_with fail
 generalize (w.alloc _).alloc _=w1 at*
 clear d8 d0 d1 d2 d3 d4 d5 d6 d7 HC HG hk
 with_reducible refine HL.out.mono ?_
 rintro e w2 ⟨⟨a1,n1,c1⟩,⟨rfl,hp⟩,hg⟩
 have HP:=zz hp
 clear HL hp
 have f6:=hg.r.vf 6
 have d6:=hg.r.vC 6 (.slice a0 n0 c0)
 have g2:=hg.then (aH (fun S h=>(aA.begin h).vput 6 (.slice a1 n1 c1) (cs':=#[.int .i64 0,.int .i64 1,.int .i64 0,.int .i64 (r.st:Int),.int .i64 (r.cy:Int),.int .i64 (-1),.slice a1 n1 c1]) rfl))
 obtain ⟨e0,e1,e2,e3,e4,e5,e6,-⟩:=dQ rfl g2
 obtain ⟨z0,z1,z2,z3,z4,z5,z6,y0,y1,y2,y3,y4,y5,y6⟩:=dQ rfl g2.l
 have g3:=g2.l.fill [.int .i64 0,.int .i64 1,.int .i64 0,.int .i64 (r.st:Int),.int .i64 (r.cy:Int),.int .i64 (-1),.slice a1 n1 c1] rfl
 obtain ⟨x0,x1,x2,x3,x4,x5,x6,-⟩:=dQ rfl g3
 have HG:=zz g3.l
 simp only [setCells,Nat.zero_add,Nat.reduceAdd] at x0 x1 x2 x3 x4 x5 x6 HG
 clear hg g2 g3
 go_wp2_with fail
 exact bodyPost_ret (v:=.tuple #[rqV r (.slice a1 n1 c1),.bool true]) (by simp [results,results258,go_sem,rqV,x0,x1,x2,x3,x4,x5,x6]) rfl ⟨(a1,n1,c1),⟨rfl,HP.out⟩,HG.out⟩
theorem ln_Of (hc:∀ w,aN prog 266 #[.slice a0 n0 c0] w (Sep (LnR b g cap r (.slice a0 n0 c0) rest) X) (fun (x:Sl) e=>e=.returned (.slice x.1 x.2.1 x.2.2)∧p x) O') (w:World):
 aN prog 238 #[.pointer (some ⟨b,0,none⟩),.int .i64 0] w (Sep (LnR b g cap r (.slice a0 n0 c0) rest) X) (fun x e=>e=.returned (.tuple #[rqV r (.slice x.1 x.2.1 x.2.2),.bool true])∧p x) O':=by
 intro S h
 have g0:=(aA.begin h).moreSt (St.fresh aS 272)
 obtain ⟨k,hk⟩:∃ k,w.heap.size=k:=⟨_,rfl⟩
 rw [hk] at g0
 have HL:=zz (g0.call (bR (bR fun S h=>ln_of h)))
 have HC:=zz hc
 simp only [aS] at*
 clear h hc g0
 go_enter func238,ntmps238
 go_upto_region 1 with fail
 generalize w.alloc _=w1 at*
 go_wp2_with fail
 refine qz HL.out fun w2 hg=>?_
 have HA:=zz ((ln_at HC.out (w:=w2)).l.on hg)
 clear hg HL HC
 go_wp2_with fail
 with_reducible refine HA.out.mono ?_
 rintro e w3 ⟨⟨a1,n1,c1⟩,⟨rfl,hp⟩,hg⟩
 obtain ⟨z0,z1,z2,z3,z4,z5,z6,y0,y1,y2,y3,y4,y5,y6⟩:=dQ rfl hg
 have g3:=hg.fill [.int .i64 0,.int .i64 1,.int .i64 0,.int .i64 (r.st:Int),.int .i64 (r.cy:Int),.int .i64 (-1),.slice a1 n1 c1] rfl
 obtain ⟨x0,x1,x2,x3,x4,x5,x6,-⟩:=dQ rfl g3
 have HG:=zz g3.l
 have HP:=zz hp
 simp only [setCells,Nat.zero_add,Nat.reduceAdd] at x0 x1 x2 x3 x4 x5 x6 HG
 unfold rqV
 clear hg g3 HA hp
 go_wp2_with fail
 exact bodyPost_ret (v:=.tuple #[rqV r (.slice a1 n1 c1),.bool true]) (by simp [results,results238,go_sem,rqV,x0,x1,x2,x3,x4,x5,x6]) rfl ⟨(a1,n1,c1),⟨rfl,HP.out⟩,HG.out⟩
theorem ln_First1 (h0:r.st=0) (hc:∀ w,aN prog 266 #[.slice a0 n0 c0] w (Sep (LnR b g cap r (.slice a0 n0 c0) rest) X) (fun (x:Sl) e=>e=.returned (.slice x.1 x.2.1 x.2.2)∧p x) O') (w:World):
 aN prog 207 #[.pointer (some ⟨b,0,none⟩)] w (Sep (LnR b g cap r (.slice a0 n0 c0) rest) X) (fun x e=>e=.returned (.tuple #[rqV r (.slice x.1 x.2.1 x.2.2),.bool true])∧p x) O':=by
 intro S h
 have g0:=(aA.begin h).moreSt (St.fresh aS 272)
 obtain ⟨k,hk⟩:∃ k,w.heap.size=k:=⟨_,rfl⟩
 rw [hk] at g0
 have HL:=zz (g0.call (bR (bR fun S h=>lD (z:=true) (by simp [h0]) h)))
 have HC:=zz hc
 simp only [aS] at*
 clear h hc g0 h0
 go_enter func207,ntmps207
 go_upto_region 1 with fail
 generalize w.alloc _=w1 at*
 go_wp2_with fail
 refine qz HL.out fun w2 hg=>?_
 have HA:=zz ((ln_at HC.out (w:=w2)).l.on hg)
 clear hg HL HC
 go_wp2_with fail
 with_reducible refine HA.out.mono ?_
 rintro e w3 ⟨⟨a1,n1,c1⟩,⟨rfl,hp⟩,hg⟩
 obtain ⟨z0,z1,z2,z3,z4,z5,z6,y0,y1,y2,y3,y4,y5,y6⟩:=dQ rfl hg
 have g3:=hg.fill [.int .i64 0,.int .i64 1,.int .i64 0,.int .i64 (r.st:Int),.int .i64 (r.cy:Int),.int .i64 (-1),.slice a1 n1 c1] rfl
 obtain ⟨x0,x1,x2,x3,x4,x5,x6,-⟩:=dQ rfl g3
 have HG:=zz g3.l
 have HP:=zz hp
 simp only [setCells,Nat.zero_add,Nat.reduceAdd] at x0 x1 x2 x3 x4 x5 x6 HG
 unfold rqV
 clear hg g3 HA hp
 go_wp2_with fail
 exact bodyPost_ret (v:=.tuple #[rqV r (.slice a1 n1 c1),.bool true]) (by simp [results,results207,go_sem,rqV,x0,x1,x2,x3,x4,x5,x6]) rfl ⟨(a1,n1,c1),⟨rfl,HP.out⟩,HG.out⟩
end
section
variable {r:Sw.Rq} {p:Sl→Prop} {O':Sl→aC}
theorem lC (i:Nat) (v:Value) (h:aA (LnR b g cap r gv rest) S w w') (he:(eC r gv rest).setIfInBounds i v=eC r' gv' rest):aA (LnR b g cap r' gv' rest) S w (w'.setCell ⟨g,i,none⟩ v):=by
 unfold LnR;rw [←he];exact h.then (aH (fun S h=>dD h i v))
theorem lnr_st (s:Nat) (h:aA (LnR b g cap r gv rest) S w w'):aA (LnR b g cap {r with st:=s} gv rest) S w (w'.setCell ⟨g,3,none⟩ (.int .i64 (s:Int))):=lC 3 _ h (by simp [eC])
theorem lnr_cy (s:Nat) (h:aA (LnR b g cap r gv rest) S w w'):aA (LnR b g cap {r with cy:=s} gv rest) S w (w'.setCell ⟨g,4,none⟩ (.int .i64 (s:Int))):=lC 4 _ h (by simp [eC])
theorem lnr_at (h:aA (LnR b g cap r gv rest) S w w'):aA (LnR b g cap r gv rest) S w (w'.setCell ⟨g,5,none⟩ (.int .i64 (-1))):=lC 5 _ h (by simp [eC])
theorem lnr_gv (gv':Value) (h:aA (LnR b g cap r gv rest) S w w'):aA (LnR b g cap r gv' rest) S w (w'.setCell ⟨g,6,none⟩ gv'):=lC 6 _ h (by simp [eC])
theorem lnr_nt (s:Bool) (h:aA (LnR b g cap r gv rest) S w w'):aA (LnR b g cap {r with nt:=s} gv rest) S w (w'.setCell ⟨g,7,none⟩ (.bool s)):=lC 7 _ h (by simp [eC])
theorem kC (i:Nat) (h:aA (LnR b g cap r gv rest) S w w'):w'.frozen? ⟨g,i,none⟩=false:=h.r.vf i
theorem ln_Fail (h0:r.st=0) (hcap:cap≤maxLen) (h1:1≤cap) (h:(LnR b g cap r gv rest).at_ S w):Calls prog 212 #[.pointer (some ⟨b,0,none⟩)] w fun e w'=>e=.returned (.bool true)∧aA (LnR b g cap {r with st:=2} gv rest) S w w':=by
 have HL:=zz (lD (z:=true) (by simp [h0]) h)
 clear h h0
 go_enter func212,ntmps212
 go_wp2_with fail
 refine qz HL.out fun w2 hg=>?_
 obtain ⟨d8,d0,d1,d2,d3,d4,d5,d6,d7⟩:=fT hg
 have f3:=kC 3 hg
 have HG:=zz (lnr_st 2 hg)
 clear hg HL
 go_wp2_with fail
 go_ret
 exact ⟨rfl,HG.out⟩
theorem ln_Waits (z:Bool) (hz:decide ((r.st:Int)=0)=z) (h:(LnR b g cap r (.slice a0 n0 c0) rest).at_ S w):Calls prog 188 #[.pointer (some ⟨b,0,none⟩)] w fun e w'=>e=.returned (.int .i64 (if z then 1 else 0))∧aA (LnR b g cap r (.slice a0 n0 c0) rest) S w w':=by
 have HH:=zz h
 obtain ⟨d8,-⟩:=fT (aA.begin h)
 have hz1:((r.st:Int)==0)=z:=hz
 have hz2:decide (r.st=0)=z:=by rw [←hz];simp
 clear h
 go_enter func188,ntmps188
 go_wp2_with fail
 go_loopw [3,5,11] (fun u _ i wr=>((i=.int .i64 0∧u=.int .i64 0)∨(i=.int .i64 1∧u=.int .i64 (if z then 1 else 0)))∧aA (LnR b g cap r (.slice a0 n0 c0) rest) S w wr) (fun _ _ i _=>1-(intOf i).toNat)
 case atStart=>exact ⟨.inl ⟨rfl,rfl⟩,aA.same HH.out⟩
 case round=>
  obtain ⟨hi,hb⟩:=hrel
  rcases hi with ⟨rfl,rfl⟩|⟨rfl,rfl⟩
  · obtain ⟨-,d0,d1,d2,d3,d4,d5,d6,d7⟩:=fT hb
    have HB:=zz (hb.alloc_ (.cells #[.int .i64 0,.int .i64 1,.int .i64 0,.int .i64 (r.st:Int),.int .i64 (r.cy:Int),.int .i64 (-1),.slice a0 n0 c0,.bool r.nt] 305))
    clear hb
    cases z with
    | true=>
     go_wp2_with fail
     go_round
     case rel=>exact ⟨.inr ⟨rfl,rfl⟩,HB.out⟩
     case measure=>decide
    | false=>
     go_wp2_with fail
     go_round
     case rel=>exact ⟨.inr ⟨rfl,rfl⟩,HB.out⟩
     case measure=>decide
  · have HB:=zz hb
    clear hb
    cases z<;>
    · go_wp2_with fail
      go_ret
      exact ⟨rfl,HB.out⟩
end
section
variable {r:Sw.Rq} {p:Sl→Prop} {O':Sl→aC}
theorem ln_Begin (z:Bool) (hz:decide ((r.st:Int)=0)=z) (h1:1≤cap) (h:(LnR b g cap r gv rest).at_ S w):Calls prog 190 #[.pointer (some ⟨b,0,none⟩)] w fun e w'=>e=.returned (.tuple #[])∧aA (LnR b g cap {r with nt:=z} gv rest) S w w':=by
 have HH:=zz h
 obtain ⟨d8,-⟩:=fT (aA.begin h)
 have hz1:((r.st:Int)==0)=z:=hz
 have hz2:decide (r.st=0)=z:=by rw [←hz];simp
 clear h
 go_enter func190,ntmps190
 go_wp2_with fail
 go_loopw [2,8] (fun _ i wr=>(i=.int .i64 0∧aA (LnR b g cap r gv rest) S w wr)∨(i=.int .i64 1∧aA (LnR b g cap {r with nt:=z} gv rest) S w wr)) (fun _ i _=>1-(intOf i).toNat)
 case atStart=>exact .inl ⟨rfl,aA.same HH.out⟩
 case round=>
  rcases hrel with ⟨rfl,hb⟩|⟨rfl,hb⟩
  · obtain ⟨d8,d0,d1,d2,d3,d4,d5,d6,d7⟩:=fT hb.drew_
    have f7:=kC 7 hb.drew_
    have HB:=zz (lnr_nt z hb.drew_)
    clear hb
    go_wp2_with fail
    go_still_tail 17,(by kernel_rfl)
    change wpList _ _ _ _ _ wr.drew
    generalize wr.drew=wd at*
    go_wp2_with fail
    go_round
    case rel=>exact .inr ⟨rfl,HB.out⟩
    case measure=>decide
  · have HB:=zz hb
    clear hb
    go_wp2_with fail
    go_end0
    exact ⟨rfl,HB.out⟩
theorem ln_End (z:Bool) (hz:decide ((r.st:Int)=0)=z) (h1:1≤cap) (hcy:r.cy≤1000) (h:(LnR b g cap r gv rest).at_ S w):Calls prog 206 #[.pointer (some ⟨b,0,none⟩)] w fun e w'=>e=.returned (.tuple #[])∧aA (LnR b g cap {r with cy:=if r.nt&&z then r.cy+1 else r.cy,nt:=false} gv rest) S w w':=by
 have HH:=zz h
 obtain ⟨d8,-⟩:=fT (aA.begin h)
 have hz1:((r.st:Int)==0)=z:=hz
 have hz2:decide (r.st=0)=z:=by rw [←hz];simp
 generalize hc2:(if r.nt&&z then r.cy+1 else r.cy)=cy2
 have HC:=zz hc2
 clear h hc2
 go_enter func206,ntmps206
 go_wp2_with fail
 go_loopw [2,3,9] (fun _ _ i wr=>(i=.int .i64 0∧aA (LnR b g cap r gv rest) S w wr)∨(i=.int .i64 1∧aA (LnR b g cap {r with cy:=cy2,nt:=false} gv rest) S w wr)) (fun _ _ i _=>1-(intOf i).toNat)
 case atStart=>exact .inl ⟨rfl,aA.same HH.out⟩
 case round=>
  rcases hrel with ⟨rfl,hb⟩|⟨rfl,hb⟩
  · obtain ⟨d8,d0,d1,d2,d3,d4,d5,d6,d7⟩:=fT hb
    have f7:=kC 7 hb
    have f4:=kC 4 hb
    cases hn:r.nt with
    | false=>
     rw [hn] at d7
     have hc3:=HC.out
     rw [hn] at hc3
     have HB:=lnr_nt false hb
     rw [show r.cy=cy2 by simpa using hc3] at HB
     have HB:=zz HB
     clear hc3
     clear hb
     go_wp2_with fail
     go_round
     case rel=>exact .inr ⟨rfl,HB.out⟩
     case measure=>decide
    | true=>
     rw [hn] at d7
     cases z with
     | false=>
      have hc3:=HC.out
      have HB:=lnr_nt false hb
      rw [show r.cy=cy2 by simpa using hc3] at HB
      have HB:=zz HB
      clear hb hc3
      go_wp2_with fail
      go_round
      case rel=>exact .inr ⟨rfl,HB.out⟩
      case measure=>decide
     | true=>
      have hc3:=HC.out
      rw [hn] at hc3
      have HB:=lnr_nt false (lnr_cy (r.cy+1) hb)
      rw [show ((r.cy+1:Nat):Int)=(r.cy:Int)+1 by omega,show r.cy+1=cy2 by simpa using hc3] at HB
      have HB:=zz HB
      clear hb hc3
      go_wp2_with fail
      go_round
      case rel=>exact .inr ⟨rfl,HB.out⟩
      case measure=>decide
  · have HB:=zz hb
    clear hb
    go_wp2_with fail
    go_end0
    exact ⟨rfl,HB.out⟩
theorem ln_Grant (hst:r.st=0) (h1:1≤cap) (hc:∀ w,aN prog 266 #[.slice a1 n1 c1] w (Sep (LnR b g cap r gv rest) X) (fun (x:Sl) e=>e=.returned (.slice x.1 x.2.1 x.2.2)∧p x) (fun x=>Sep (LnR b g cap r gv rest) (O' x))) (w:World):
 aN prog 211 #[.pointer (some ⟨b,0,none⟩),.slice a1 n1 c1,.int .i64 (-1)] w (Sep (LnR b g cap r gv rest) X) (fun x e=>e=.returned (.bool true)∧p x) (fun x=>Sep (LnR b g cap {r with st:=1} (.slice x.1 x.2.1 x.2.2) rest) (O' x)):=by
 intro S h
 have HL:=zz ((aA.begin h).call (bR fun S h=>lD (z:=true) (by simp [hst]) h))
 have HC:=zz hc
 clear h hc hst
 go_enter func211,ntmps211
 go_wp2_with fail
 refine qz HL.out fun w2 hg=>?_
 obtain ⟨d8,d0,d1,d2,d3,d4,d5,d6,d7⟩:=fT hg.l
 have HA:=zz ((HC.out w2).on hg)
 clear hg HL HC
 go_wp2_with fail
 with_reducible refine HA.out.mono ?_
 rintro e w3 ⟨⟨a2,n2,c2⟩,⟨rfl,hp⟩,hg⟩
 clear d8 d0 d1 d2 d3 d4 d5 d6 d7 HA
 obtain ⟨d8,d0,d1,d2,d3,d4,d5,d6,d7⟩:=fT hg.l
 have f3:=kC 3 hg.l
 have f5:=kC 5 hg.l
 have f6:=kC 6 hg.l
 have HP:=zz hp
 have HG:=zz (hg.then (aG (fun S h=>lnr_at (lnr_gv (.slice a2 n2 c2) (lnr_st 1 (aA.begin h))))))
 clear hg hp
 go_wp2_with fail
 go_ret
 exact ⟨(a2,n2,c2),⟨rfl,HP.out⟩,HG.out⟩
end
end Go.Proofs.YtgcmiahhkalfmaaGreat
