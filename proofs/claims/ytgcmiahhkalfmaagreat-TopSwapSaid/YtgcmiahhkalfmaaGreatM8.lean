import Derived.Test.YtgcmiahhkalfmaaGreatM3
set_option maxRecDepth 100000
set_option maxHeartbeats 8000000
set_option linter.unusedVariables false
set_option linter.unusedSimpArgs false
namespace Go.Proofs.YtgcmiahhkalfmaaGreat
open Go.Proofs.Tryz
open Go.RowKit
variable {x:Bool} {k s:Int} {xs:List Int} {b g i j m n q:Nat} {f f' m':Nat→Bool} {S:Nat→Prop} {r:Option Nat} {A:aC} {t:TypeId} {v v':Value} {W w w' w1:World}
theorem kB (n:Nat) (hn:n≤1024) (w:World):(Instr.makeSlice 50 (.int .i64 n) (.int .i64 n)).run prog w=.ok (.slice (some ⟨w.heap.size,0,none⟩) n n) (w.alloc (.cells (madeCells #[.bool false] n) 4)):=by
 obtain ⟨i0,hi,hz0,hz1,hz2⟩:=info_parts Tryz.info4
 have:=run_make (P:=prog) w 50 4 i0 _ underlying50 hi hz0 .i64 .i64 n n (by omega) (by omega) (by rw [hz2];omega) (by omega)
 rw [this,hz1];simp [Value.cells]
def cF:Nat→(Nat→Bool)→Nat
 | 0,_=>0
 | n+1,f=>cF n f+if f n then 1 else 0
theorem pcnt_le (n:Nat) (f:Nat→Bool):cF n f≤n:=by
 induction n with
 | zero=>exact Nat.le_refl 0
 | succ n ih=>simp only [cF];split<;>omega
theorem jY (n:Nat) (h:∀ j,j<n→f j=f' j):cF n f=cF n f':=by
 induction n with
 | zero=>rfl
 | succ n ih=>simp only [cF];rw [ih fun j hj=>h j (by omega),h n (by omega)]
theorem pcnt_out (h:n≤i):cF n (fC f i x)=cF n f:=jY n fun j hj=>by simp [fC];omega
theorem pcnt_set (h:i<n):cF n (fC f i x)+(if f i then 1 else 0)=cF n f+(if x then 1 else 0):=by
 induction n with
 | zero=>omega
 | succ n ih=>
  simp only [cF]
  by_cases e:i=n
  · subst e
    rw [pcnt_out (Nat.le_refl _)]
    simp only [fC,if_true];omega
  · have:=ih (by omega)
    have e2:fC f i x n=f n:=by simp [fC];omega
    rw [e2];omega
theorem pcnt_off (h:i<n) (hf:f i=true):(cF n (fC f i false):Int)=cF n f-1:=by
 have:=pcnt_set (x:=false) (f:=f) h
 simp [hf] at this;omega
theorem pcnt_on (h:i<n) (hf:f i=false):(cF n (fC f i true):Int)=cF n f+1:=by
 have:=pcnt_set (x:=true) (f:=f) h
 simp [hf] at this;omega
def dP (b g n:Nat) (f:Nat→Bool):aC:=Sep (Var b #[.slice (some ⟨g,0,none⟩) n n,.int .i64 (cF n f)] 260) (fY g n 4 f)
def full:Nat→Bool:=fun _=>true
def inN (n:Nat) (i:Int):Prop:=0≤i∧i<n
instance (n:Nat) (i:Int):Decidable (inN n i):=by unfold inN;infer_instance
def pH (n:Nat) (f:Nat→Bool) (i:Int):Bool:=decide (inN n i)&&f i.toNat
theorem pH_in {k:Nat} (h:k<n):pH n f k=f k:=by
 have:inN n (k:Int):=⟨by omega,by omega⟩
 simp [pH,this]
def gB (n:Nat) (f:Nat→Bool) (i:Int):Bool:=decide (inN n i)&&!f i.toNat
def gF (n:Nat) (f:Nat→Bool) (i:Int):Nat→Bool:=if gB n f i=true then fC f i.toNat true else f
theorem gB_in {k:Nat} (h:k<n):gB n f k=!f k:=by
 have:inN n (k:Int):=⟨by omega,by omega⟩
 simp [gB,this]
theorem gB_out {i:Int} (h:¬inN n i):gB n f i=false:=by simp [gB,h]
theorem bools_congr {m:Nat→Bool} (h:∀ j,j<n→m j=m' j) (ht:(fY q n t m).at_ S w):(fY q n t m').at_ S w:=by
 obtain ⟨cs,h1,h2,h3,h4⟩:=ht
 exact ⟨cs,h1,h2,fun j hj=>by rw [←h j hj];exact h3 j hj,h4⟩
section
theorem pool_congr (h:∀ j,j<n→f j=f' j) (hp:(dP b g n f).at_ S w):(dP b g n f').at_ S w:=by
 obtain ⟨A,B,h1,h2,h3⟩:=hp
 exact ⟨A,B,by rw [←jY n h];exact h1,bools_congr h h2,h3⟩
theorem eM (h:(dP b g n f).at_ S w):w.cell? ⟨b,0,none⟩=some (.slice (some ⟨g,0,none⟩) n n)∧w.cell? ⟨b,1,none⟩=some (.int .i64 (cF n f))∧w.frozen? ⟨b,1,none⟩=false:=by
 obtain ⟨_,_,h,_⟩:=h
 have h:=h.1
 exact ⟨by rw [h.cell];rfl,by rw [h.cell];rfl,h.free 1⟩
theorem pool_bit (h:(dP b g n f).at_ S w) (hj:j<n):w.cell? ⟨g,j,none⟩=some (.bool (f j))∧w.frozen? ⟨g,j,none⟩=false:=by
 obtain ⟨_,_,_,⟨cs,h1,h2,h3,_⟩,_⟩:=h
 exact ⟨by rw [h1.cell];exact h3 j hj,h1.free j⟩
theorem pool_free (h:(dP b g n f).at_ S w):Calls prog 189 #[.pointer (some ⟨b,0,none⟩)] w fun e w'=>e=.returned (.int .i64 (cF n f))∧w=w':=by
 obtain ⟨c0,c1,-⟩:=eM h
 clear h
 go_enter func189,ntmps189
 go_wp2_with fail
 go_ret
 exact ⟨rfl,rfl⟩
theorem pool_takes (i:Nat) (hn:n≤1024) (hi:i<n) (hf:f i=true) (h:(dP b g n f).at_ S w):
 Calls prog 312 #[.pointer (some ⟨b,0,none⟩),.int .i64 (i:Int)] w fun e w'=>e=.returned (.tuple #[])∧aA (dP b g n (fC f i false)) S w w':=by
 obtain ⟨c0,c1,f1⟩:=eM h
 obtain ⟨c2,f2⟩:=pool_bit h hi
 have e1:=pcnt_off hi hf
 have hc:=pcnt_le n f
 have g1:aA (Sep (Var b #[.slice (some ⟨g,0,none⟩) n n,.int .i64 (cF n f)] 260) (fY g n 4 (fC f i false))) S w (w.setCell ⟨g,i,none⟩ (.bool false)):=aH (fun _ h=>bools_set h i false) S h
 have hb:∀ S' w',(Sep (Var b #[.slice (some ⟨g,0,none⟩) n n,.int .i64 (cF n f)] 260) (fY g n 4 (fC f i false))).at_ S' w'→w'.cell? ⟨b,1,none⟩=some (.int .i64 (cF n f))∧w'.frozen? ⟨b,1,none⟩=false:=by
  rintro S' w' ⟨_,_,h,_⟩
  exact ⟨by rw [h.1.cell];rfl,h.1.free 1⟩
 obtain ⟨d1,d2⟩:=hb _ _ g1.now.choose_spec.1
 have d0:(w.setCell ⟨g,i,none⟩ (.bool false)).cell? ⟨b,0,none⟩=some (.slice (some ⟨g,0,none⟩) n n):=by
  obtain ⟨_,_,h,_⟩:=g1.now.choose_spec.1
  rw [h.1.cell];rfl
 have g2:aA (dP b g n (fC f i false)) S w ((w.setCell ⟨g,i,none⟩ (.bool false)).setCell ⟨b,1,none⟩ (.int .i64 (cF n f-1))):=by
  have:=g1.then (aG (fun _ h=>dD h 1 (.int .i64 ((cF n f:Int)-1))))
  unfold dP;rw [e1];exact this
 have HG:=zz g2
 clear g1 g2 h hb hf e1
 generalize cF n f=ct at*
 go_enter func312,ntmps312
 go_wp2_with fail
 go_end0
 exact ⟨rfl,HG.out⟩
theorem pool_give (i:Int) (hn:n≤1024) (h:(dP b g n f).at_ S w):
 Calls prog 257 #[.pointer (some ⟨b,0,none⟩),.int .i64 i] w fun e w'=>e=.returned (.bool (gB n f i))∧aA (dP b g n (gF n f i)) S w w':=by
 obtain ⟨c0,c1,f1⟩:=eM h
 have HS:=zz (aA.same h)
 by_cases hi:inN n i
 · obtain ⟨k,rfl⟩:∃ k:Nat,i=(k:Int):=⟨i.toNat,by have:=hi.1;omega⟩
   have hk:k<n:=by have:=hi.2;omega
   rw [gB_in hk]
   obtain ⟨c2,f2⟩:=pool_bit h hk
   clear hi
   unfold gF
   rw [gB_in hk]
   cases hf:f k
   · rw [hf] at c2
     simp only [Bool.not_false,if_true]
     have e1:=pcnt_on hk hf
     have hc:=pcnt_le n f
     have g1:aA (Sep (Var b #[.slice (some ⟨g,0,none⟩) n n,.int .i64 (cF n f)] 260) (fY g n 4 (fC f k true))) S w (w.setCell ⟨g,k,none⟩ (.bool true)):=aH (fun _ h=>bools_set h k true) S h
     have hb:∀ S' w',(Sep (Var b #[.slice (some ⟨g,0,none⟩) n n,.int .i64 (cF n f)] 260) (fY g n 4 (fC f k true))).at_ S' w'→w'.cell? ⟨b,1,none⟩=some (.int .i64 (cF n f))∧w'.frozen? ⟨b,1,none⟩=false:=by
      rintro S' w' ⟨_,_,h,_⟩
      exact ⟨by rw [h.1.cell];rfl,h.1.free 1⟩
     obtain ⟨d1,d2⟩:=hb _ _ g1.now.choose_spec.1
     have g2:aA (dP b g n (fC f k true)) S w ((w.setCell ⟨g,k,none⟩ (.bool true)).setCell ⟨b,1,none⟩ (.int .i64 (cF n f+1))):=by
      have:=g1.then (aG (fun _ h=>dD h 1 (.int .i64 ((cF n f:Int)+1))))
      unfold dP;rw [e1];exact this
     have HG:=zz g2
     clear g1 g2 h hb hf e1 HS
     rw [show (k:Int).toNat=k from rfl]
     generalize cF n f=ct at*
     go_enter func257,ntmps257
     go_wp2_with fail
     go_ret
     exact ⟨rfl,HG.out⟩
   · rw [hf] at c2
     simp only [Bool.not_true,Bool.false_eq_true,if_false]
     clear h hf
     generalize cF n f=ct at*
     go_enter func257,ntmps257
     go_wp2_with fail
     go_ret
     exact ⟨rfl,HS.out⟩
 · unfold gF
   rw [gB_out hi]
   simp only [Bool.false_eq_true,if_false]
   unfold inN at hi
   clear h
   by_cases h0:0≤i
   · have hd:decide (i<(n:Int))=false:=by simp;omega
     have hge:(n:Int)≤i:=by omega
     clear hi
     go_enter func257,ntmps257
     go_wp2_with fail
     go_ret
     exact ⟨rfl,HS.out⟩
   · have hlt:i<0:=by omega
     clear hi h0
     go_enter func257,ntmps257
     go_wp2_with fail
     go_ret
     exact ⟨rfl,HS.out⟩
end
def fN (q:Nat):Nat→Bool:=fun j=>decide (j<q)
theorem fN_step (q:Nat):fC (fN q) q true=fN (q+1):=by
 funext k
 by_cases e:k=q
 · subst e;simp [fC,fN]
 · have:(k<q+1)↔(k<q):=by omega
   simp [fC,fN,e,this]
theorem pcnt_full (n:Nat):cF n full=n:=by
 induction n with
 | zero=>rfl
 | succ n ih=>simp [cF,ih,full]
theorem pool_new (n:Nat) (w:World) (h2:n≤1024):
 Calls prog 117 #[.int .i64 n] w fun e w'=>∃ b g,e=.returned (.tuple #[.pointer (some ⟨b,0,none⟩),.int .i64 0])∧St w (dP b g n full) w':=by
 have hmk:=kB n (by omega)
 go_enter func117,ntmps117
 go_wp2_with fail
 clear hmk
 have h3:St w (Sep (fY w.heap.size n 4 fun _=>false) (Var (w.heap.size+1) #[.slice (some ⟨w.heap.size,0,none⟩) n n,.int .i64 n] 260)) ((w.alloc (.cells (madeCells #[.bool false] n) 4)).alloc (.cells #[.slice (some ⟨w.heap.size,0,none⟩) n n,.int .i64 n] 260)):=by
  have h4:St w (fY w.heap.size n 4 fun _=>false) (w.alloc (.cells (madeCells #[.bool false] n) 4)):=
   ⟨⟨fun k=>k=w.heap.size,⟨_,Blk.new w _ 4,by simp [madeCells],fun j hj=>by simp [madeCells,hj,Nat.mod_one],rfl,fun _ h=>h⟩,fun k hk=>by omega⟩,(Below.refl _ _).alloc (Nat.le_refl _) _⟩
  have:=h4.var #[.slice (some ⟨w.heap.size,0,none⟩) n n,.int .i64 n] 260
  simpa using this
 have h3:=h3.swap
 generalize hbh:w.heap.size+1=b at h3 ⊢
 generalize hg:w.heap.size=g at h3 ⊢
 generalize hW:(w.alloc (.cells (madeCells #[.bool false] n) 4)).alloc (.cells #[.slice (some ⟨g,0,none⟩) n n,.int .i64 n] 260)=W1 at h3 ⊢
 clear hbh hg hW
 have c0:W1.cell? ⟨b,0,none⟩=some (.slice (some ⟨g,0,none⟩) n n):=by rw [h3.left.blk.cell];rfl
 go_wp2_with fail
 go_loopw [22] (fun k w'=>∃ q:Nat,q≤n∧k=.int .i64 q∧St w (Sep (Var b #[.slice (some ⟨g,0,none⟩) n n,.int .i64 n] 260) (fY g n 4 (fN q))) w') (fun k _=>n-(intOf k).toNat)
 case atStart=>exact ⟨0,Nat.zero_le _,rfl,by rw [show fN 0=fun _=>false by funext k;simp [fN]];exact h3⟩
 case round=>
  clear h3 c0
  obtain ⟨q,hq,rfl,hs⟩:=hrel
  have c0:wr.cell? ⟨b,0,none⟩=some (.slice (some ⟨g,0,none⟩) n n):=by rw [hs.left.blk.cell];rfl
  by_cases hlt:q<n
  · have c2:=hs.right.boolCell hlt
    have f2:=hs.right.boolFree q
    have h6:=hs.goes (w':=wr.setCell ⟨g,q,none⟩ (.bool true)) (aH fun S h=>bools_set h q true)
    rw [fN_step] at h6
    clear hs
    go_wp2_with fail
    go_round
    case rel=>exact ⟨q+1,by omega,by go_num,h6⟩
    case measure=>simp [intOf];omega
  · obtain rfl:q=n:=by omega
    go_wp2_with fail
    go_ret2
    refine ⟨b,g,rfl,hs.conv fun S w h=>pool_congr (f:=fN q) (fun j hj=>by simp [fN,full,hj]) ?_⟩
    obtain ⟨A,B,a1,a2,a3⟩:=h
    refine ⟨A,B,?_,a2,a3⟩
    have:cF q (fN q)=q:=by rw [jY q (f':=full) fun j hj=>by simp [fN,full,hj],pcnt_full]
    rw [this];exact a1
def isRun (f:Nat→Bool) (a k:Nat):Prop:=∀ j,j<k→f (a+j)=true
def iZ (n:Nat) (f:Nat→Bool) (k:Int):Option Nat→Prop
 | some a=>1≤k∧a+k.toNat≤n∧isRun f a k.toNat∧∀ b,a<b→b+k.toNat≤n→¬isRun f b k.toNat
 | none=>k<1∨∀ b,b+k.toNat≤n→¬isRun f b k.toNat
theorem iZ.unique:∀ {r r':Option Nat},iZ n f k r→iZ n f k r'→r=r'
 | none,none,_,_=>rfl
 | some a,none,h,h'=>(h'.elim (fun e=>by have:=h.1;omega) fun e=>(e a h.2.1 h.2.2.1).elim)
 | none,some a,h',h=>(h'.elim (fun e=>by have:=h.1;omega) fun e=>(e a h.2.1 h.2.2.1).elim)
 | some a,some b,h,h'=>by
  by_cases e:a=b
  · rw [e]
  · by_cases e2:a<b
    · exact (h.2.2.2 b e2 h'.2.1 h'.2.2.1).elim
    · exact (h'.2.2.2 a (by omega) h.2.1 h.2.2.1).elim
open Classical in
noncomputable def runOf (n:Nat) (f:Nat→Bool) (k:Int):Option Nat:=if h:∃ r,iZ n f k r then h.choose else none
theorem iZ.is (h:iZ n f k r):runOf n f k=r:=by
 have he:∃ r,iZ n f k r:=⟨r,h⟩
 unfold runOf;rw [dif_pos he]
 exact iZ.unique he.choose_spec h
noncomputable def rV (n:Nat) (f:Nat→Bool) (k:Int):Int:=match runOf n f k with|some a=>a|none=>0
noncomputable def rB (n:Nat) (f:Nat→Bool) (k:Int):Bool:=(runOf n f k).isSome
theorem iZ.some {n a:Nat} {f:Nat→Bool} {k:Int} (h:iZ n f k (some a)):rV n f k=a∧rB n f k=true:=by unfold rV rB;rw [h.is];exact ⟨rfl,rfl⟩
theorem iZ.none {n:Nat} {f:Nat→Bool} {k:Int} (h:iZ n f k none):rV n f k=0∧rB n f k=false:=by unfold rV rB;rw [h.is];exact ⟨rfl,rfl⟩
def iY (n:Nat) (f:Nat→Bool) (k:Int) (q m:Nat):Prop:=
 q+m≤n∧(m:Int)<k∧(∀ j,j<m→f (q+j)=true)∧(q+m=n∨f (q+m)=false)∧∀ a,q≤a→a+k.toNat≤n→¬isRun f a k.toNat
theorem runInv_first (hk:1≤k):iY n f k n 0:=
 ⟨by omega,by omega,fun j hj=>by omega,.inl rfl,fun a h1 h2=>by omega⟩
theorem runInv_off (h:iY n f k (q+1) m) (hf:f q=false):iY n f k q 0:=by
 obtain ⟨h1,h2,h3,h4,h5⟩:=h
 refine ⟨by omega,by omega,fun j hj=>by omega,.inr hf,fun a ha hn hr=>?_⟩
 by_cases e:a=q
 · subst e
   have:=hr 0 (by omega)
   rw [Nat.add_zero,hf] at this;cases this
 · exact h5 a (by omega) hn hr
theorem runInv_on (h:iY n f k (q+1) m) (hf:f q=true) (hm:((m:Int)+1)≠k):iY n f k q (m+1):=by
 obtain ⟨h1,h2,h3,h4,h5⟩:=h
 refine ⟨by omega,by omega,fun j hj=>?_,?_,fun a ha hn hr=>?_⟩
 · by_cases e:j=0
   · subst e;exact hf
   · have:=h3 (j-1) (by omega)
     rwa [show q+1+(j-1)=q+j by omega] at this
 · rwa [show q+(m+1)=q+1+m by omega]
 · by_cases e:a=q
   · subst e
     rcases h4 with e|e
     · omega
     · have:=hr (m+1) (by omega)
       rw [show a+(m+1)=a+1+m by omega,e] at this;cases this
   · exact h5 a (by omega) hn hr
theorem runInv_found (h:iY n f k (q+1) m) (hf:f q=true) (hm:((m:Int)+1)=k):iZ n f k (some q):=by
 obtain ⟨h1,h2,h3,h4,h5⟩:=h
 refine ⟨by omega,by omega,fun j hj=>?_,fun a ha hn=>h5 a (by omega) hn⟩
 by_cases e:j=0
 · subst e;exact hf
 · have:=h3 (j-1) (by omega)
   rwa [show q+1+(j-1)=q+j by omega] at this
theorem runInv_none (h:iY n f k 0 m):iZ n f k none:=.inr fun a hn=>h.2.2.2.2 a (Nat.zero_le _) hn
section
theorem pool_run (k:Int) (hn:n≤1024) (h:(dP b g n f).at_ S w):
 Calls prog 260 #[.pointer (some ⟨b,0,none⟩),.int .i64 k] w fun e w'=>e=.returned (.tuple #[.int .i64 (rV n f k),.bool (rB n f k)])∧w=w':=by
 obtain ⟨c0,-,-⟩:=eM h
 have HB:=zz fun j (hj:j<n)=>(pool_bit h hj).1
 clear h
 by_cases hk:k<1
 · rw [(iZ.none (f:=f) (n:=n) (k:=k) (.inl hk)).1,(iZ.none (f:=f) (n:=n) (k:=k) (.inl hk)).2]
   go_enter func260,ntmps260
   go_wp2_with fail
   go_ret2
   exact ⟨rfl,rfl⟩
 · have hk1:1≤k:=by omega
   have hR0:=zz (runInv_first (n:=n) (f:=f) hk1)
   go_enter func260,ntmps260
   go_wp2_with fail
   go_loopw [6,7] (fun c i w'=>∃ q m:Nat,q≤n∧c=.int .i64 m∧i=.int .i64 ((q:Int)-1)∧Hid (iY n f k q m)∧w'=w) (fun _ i _=>(intOf i+1).toNat)
   case atStart=>exact ⟨n,0,Nat.le_refl _,rfl,rfl,hR0,rfl⟩
   case round=>
    clear hR0
    obtain ⟨q,m,hq,rfl,rfl,hR,rfl⟩:=hrel
    cases q with
    | zero=>
     rw [show ((0:Nat):Int)-1=-1 from rfl]
     go_wp2_with fail
     go_ret2
     exact ⟨by rw [(runInv_none hR.out).none.1,(runInv_none hR.out).none.2];rfl,rfl⟩
    | succ q=>
     have hm1:(m:Int)<k:=hR.out.2.1
     have hm2:q+1+m≤n:=hR.out.1
     have c2:=HB.out q (by omega)
     have e0:((q+1:Nat):Int)-1=(q:Int):=by omega
     rw [e0]
     cases hf:f q
     · rw [hf] at c2
       have HI:=zz (runInv_off hR.out hf)
       clear hR hf
       go_wp2_with fail
       go_round
       case rel=>exact ⟨q,0,by omega,rfl,by go_num,HI,by first|rfl|trivial⟩
       case measure=>first|(simp [intOf];done)|(simp [intOf];omega)
     · rw [hf] at c2
       by_cases hm:(m:Int)+1=k
       · have HI:=zz (runInv_found hR.out hf hm)
         clear hR hf
         subst hm
         go_wp2_with fail
         go_ret2
         exact ⟨by rw [HI.out.some.1,HI.out.some.2];rfl,rfl⟩
       · have HI:=zz (runInv_on hR.out hf hm)
         have hmb:((m:Int)+1==k)=false:=by simpa using hm
         clear hR hf
         go_wp2_with fail
         go_round
         case rel=>exact ⟨q,m+1,by omega,by go_num,by go_num,HI,by first|rfl|trivial⟩
         case measure=>first|(simp [intOf];done)|(simp [intOf];omega)
end
def rowAt (v:Value) (xs:List Int) (S:Nat→Prop) (w:World):Prop:=w.ownsRow 0 3 1 v xs.length (xs.map (Value.int .i64))∧∀ k,S k↔v.ownBlock=some k
def RowT (v:Value) (xs:List Int):aC where
 at_:=rowAt v xs
 lt:=fun ⟨h1,h2⟩ k hk=>dF h1 ((h2 k).1 hk)
 kept:=fun ⟨h1,h2⟩ hk _=>⟨dN h1 fun k hv=>hk k ((h2 k).2 hv),h2⟩
theorem row_nil (w:World):(RowT (.slice none 0 0) []).at_ (fun _=>False) w:=⟨⟨rfl,.inl ⟨rfl,rfl⟩⟩,fun k=>⟨False.elim,fun h=>by simp [Value.ownBlock] at h⟩⟩
theorem St.nilRow (h:St W A w):St W (Sep A (RowT (.slice none 0 0) [])) w:=
 h.more ⟨_,row_nil w,fun k hk=>hk.elim⟩ (Below.refl _ _)
theorem St.row (h:St W (RowT v xs) w):w.ownsRow 0 3 1 v xs.length (xs.map (Value.int .i64)):=h.1.choose_spec.1.1
theorem row_push {x:Int} (h:(RowT v xs).at_ S w)
 (ho:w1.ownsRow 0 3 1 v' (xs.length+1) (xs.map (Value.int .i64)++[.int .i64 x])) (hg:(w.alloc (.cells #[.int .i64 x] 3)).grownBy w1 v.ownBlock)
 (hbk:v'.ownBlock=v.ownBlock∨v'.ownBlock=some (w.heap.size+1)):aA (RowT v' (xs++[x])) S w w1:=by
 obtain ⟨h1,h2⟩:=h
 refine ⟨⟨fun k=>v'.ownBlock=some k,⟨?_,fun k=>Iff.rfl⟩,fun k hk=>?_⟩,((aY.refl S w).alloc _).grown hg fun k hk=>.inl ((h2 k).2 hk)⟩
 · simpa using ho
 · rcases hbk with e|e
   · exact .inl ((h2 k).2 (e▸hk))
   · rw [e] at hk;simp at hk;subst hk;exact .inr (by omega)
def lowL (f:Nat→Bool) (K:Nat):Nat→List Int
 | 0=>[]
 | q+1=>if (f q&&decide ((lowL f K q).length<K))=true then lowL f K q++[(q:Int)] else lowL f K q
def lowF (f:Nat→Bool) (K:Nat):Nat→Nat→Bool
 | 0=>f
 | q+1=>if (f q&&decide ((lowL f K q).length<K))=true then fC (lowF f K q) q false else lowF f K q
def Rises (l:List Int):Prop:=∀ i j:Nat,i<j→j<l.length→l[i]?.getD 0<l[j]?.getD 0
def rnL (a:Nat):Nat→List Int
 | 0=>[]
 | m+1=>rnL a m++[((a+m:Nat):Int)]
def rnF (f:Nat→Bool) (a:Nat):Nat→Nat→Bool
 | 0=>f
 | m+1=>fC (rnF f a m) (a+m) false
def tkB (n:Nat) (f:Nat→Bool) (k:Int):Bool:=decide (1≤k∧k≤cF n f)
noncomputable def tkL (n:Nat) (f:Nat→Bool) (k:Int):List Int:=
 if 1≤k∧k≤cF n f then (match runOf n f k with|some a=>rnL a k.toNat|none=>lowL f k.toNat n) else []
noncomputable def tkF (n:Nat) (f:Nat→Bool) (k:Int):Nat→Bool:=
 if 1≤k∧k≤cF n f then (match runOf n f k with|some a=>rnF f a k.toNat|none=>lowF f k.toNat n) else f
structure Cs where
 cur:Bool
 u0:Int
 u1:Int
 k:Int
def cN (b:Bool):Int:=if b then 1 else 0
def Cs.here (c:Cs):Int:=if c.cur then c.u1 else c.u0
def Cs.there (c:Cs):Int:=if c.cur then c.u0 else c.u1
def Cs.lay (c:Cs) (n:Int):Cs:=if c.cur then ⟨c.cur,c.u0,c.u1+n,c.k⟩ else ⟨c.cur,c.u0+n,c.u1,c.k⟩
def Cs.room (c:Cs) (s:Int):Int:=s-c.here-c.k
def Cs.turn (c:Cs):Cs:=⟨!c.cur,c.u0,c.u1,c.here⟩
def Cs.done (c:Cs):Cs:=if c.cur then ⟨c.cur,0,c.u1,c.k⟩ else ⟨c.cur,c.u0,0,c.k⟩
def cc (s:Int) (c:Cs):Array Value:=#[.int .i64 s,.int .i64 (cN c.cur),.int .i64 c.u0,.int .i64 c.u1,.int .i64 c.k]
def iG (s:Int) (c:Cs):Prop:=0≤s∧s≤2048∧0≤c.u0∧c.u0≤s∧0≤c.u1∧c.u1≤s∧0≤c.k∧c.here+c.k≤s
def fZ (b:Nat) (s:Int) (c:Cs):aC:=Var b (cc s c) 255
def aP (b:Nat):Value:=.pointer (some ⟨b,0,none⟩)
section
variable {c:Cs}
theorem coil_current (h:(fZ b s c).at_ S w):Calls prog 106 #[.pointer (some ⟨b,0,none⟩)] w fun e w'=>e=.returned (.int .i64 (cN c.cur))∧w=w':=by
 have c0:w.cell? ⟨b,1,none⟩=some (.int .i64 (cN c.cur)):=by rw [h.1.cell];rfl
 clear h
 go_enter func106,ntmps106
 go_wp2_with fail
 go_ret
 exact ⟨rfl,rfl⟩
theorem coil_used0 (h:(fZ b s c).at_ S w):Calls prog 107 #[.pointer (some ⟨b,0,none⟩),.int .i64 0] w fun e w'=>e=.returned (.int .i64 c.u0)∧w=w':=by
 have c0:w.cell? ⟨b,2,none⟩=some (.int .i64 c.u0):=by rw [h.1.cell];rfl
 clear h
 go_enter func107,ntmps107
 go_wp2
 go_ret
 exact ⟨rfl,rfl⟩
theorem coil_used1 (h:(fZ b s c).at_ S w):Calls prog 107 #[.pointer (some ⟨b,0,none⟩),.int .i64 1] w fun e w'=>e=.returned (.int .i64 c.u1)∧w=w':=by
 have c0:w.cell? ⟨b,3,none⟩=some (.int .i64 c.u1):=by rw [h.1.cell];rfl
 clear h
 go_enter func107,ntmps107
 go_wp2
 go_ret
 exact ⟨rfl,rfl⟩
theorem iD (h:Blk w b (cc s c) 255):w.cell? ⟨b,0,none⟩=some (.int .i64 s)∧w.cell? ⟨b,1,none⟩=some (.int .i64 (cN c.cur))∧w.cell? ⟨b,2,none⟩=some (.int .i64 c.u0)∧w.cell? ⟨b,3,none⟩=some (.int .i64 c.u1)∧w.cell? ⟨b,4,none⟩=some (.int .i64 c.k)∧
 w.frozen? ⟨b,1,none⟩=false∧w.frozen? ⟨b,2,none⟩=false∧w.frozen? ⟨b,3,none⟩=false∧w.frozen? ⟨b,4,none⟩=false:=
 ⟨by rw [h.cell];rfl,by rw [h.cell];rfl,by rw [h.cell];rfl,by rw [h.cell];rfl,by rw [h.cell];rfl,h.free 1,h.free 2,h.free 3,h.free 4⟩
end
def cNew:Cs:=⟨false,0,0,0⟩
def Cs.skip (c:Cs) (n:Int):Cs:=⟨c.cur,c.u0,c.u1,c.k-n⟩
theorem coil_new (s:Int) (w:World) (h0:0≤s) (h1:s≤2048):
 Calls prog 118 #[.int .i64 s] w fun e w'=>∃ b,e=.returned (.tuple #[.pointer (some ⟨b,0,none⟩),.int .i64 0])∧St w (fZ b s cNew) w':=by
 go_enter func118,ntmps118
 go_wp2_with fail
 go_ret2
 exact ⟨_,rfl,St.fresh _ _⟩
section
variable {c:Cs}
theorem coil_turn (hg:iG s c) (ht:c.there=0) (h:(fZ b s c).at_ S w):Calls prog 202 #[.pointer (some ⟨b,0,none⟩)] w fun e w'=>e=.returned (.bool true)∧aA (fZ b s c.turn) S w w':=by
 obtain ⟨c0,c1,c2,c3,c4,-⟩:=iD h.1
 have G:=zz (iB h)
 clear h
 obtain ⟨cur,u0,u1,k⟩:=c
 simp only [iG,Cs.here] at hg
 obtain ⟨g1,g2,g3,g4,g5,g6,g7,g8⟩:=hg
 cases cur
 · simp only [cN,Cs.there,Cs.turn,Cs.here,Bool.false_eq_true,if_false,Bool.not_false] at c1 c2 c3 g3 g4 g5 g6 g7 g8 ht ⊢
   subst ht
   go_enter func202,ntmps202
   go_wp2_with fail
   go_quiet (fail)
   have G1:=G.out nq
   clear G c0 c1 c2 c3 c4
   generalize w.drewN nq=W1 at*
   obtain ⟨c0,c1,c2,c3,c4,f1,f2,f3,f4⟩:=iD G1.now.choose_spec.1.1
   have G2:=zz (G1.then fun S h=>(jJ h).then fun S h=>(dD h 4 (.int .i64 u0)).then fun S h=>dD h 1 (.int .i64 1))
   clear G1
   simp only [cN,Bool.false_eq_true,if_false] at c1 c2 c3
   go_wp2_with fail
   go_still_tail 12,(by kernel_rfl)
   change wpList _ _ _ _ _ W1.drew
   go_wp2
   go_ret
   exact ⟨rfl,G2.out⟩
 · simp only [cN,Cs.there,Cs.turn,Cs.here,if_true,Bool.not_true] at c1 c2 c3 g3 g4 g5 g6 g7 g8 ht ⊢
   subst ht
   go_enter func202,ntmps202
   go_wp2_with fail
   go_quiet (fail)
   have G1:=G.out nq
   clear G c0 c1 c2 c3 c4
   generalize w.drewN nq=W1 at*
   obtain ⟨c0,c1,c2,c3,c4,f1,f2,f3,f4⟩:=iD G1.now.choose_spec.1.1
   have G2:=zz (G1.then fun S h=>(jJ h).then fun S h=>(dD h 4 (.int .i64 u1)).then fun S h=>dD h 1 (.int .i64 0))
   clear G1
   simp only [cN,if_true] at c1 c2 c3
   go_wp2_with fail
   go_still_tail 12,(by kernel_rfl)
   change wpList _ _ _ _ _ W1.drew
   go_wp2
   go_ret
   exact ⟨rfl,G2.out⟩
theorem coil_done (hn:c.k=0) (h:(fZ b s c).at_ S w):Calls prog 204 #[.pointer (some ⟨b,0,none⟩)] w fun e w'=>e=.returned (.bool true)∧aA (fZ b s c.done) S w w':=by
 obtain ⟨c0,c1,c2,c3,c4,f1,f2,f3,f4⟩:=iD h.1
 have G:=zz fun i=>(jJ h).then fun S h=>dD h i (.int .i64 0)
 clear h
 obtain ⟨cur,u0,u1,k⟩:=c
 simp only at hn
 subst hn
 cases cur
 · simp only [cN,Cs.done,Bool.false_eq_true,if_false] at c1 c2 c3 ⊢
   go_enter func204,ntmps204
   go_wp2_with fail
   go_region
   go_wp2
   go_ret
   exact ⟨rfl,G.out 3⟩
 · simp only [cN,Cs.done,if_true] at c1 c2 c3 ⊢
   go_enter func204,ntmps204
   go_wp2_with fail
   go_region
   go_wp2
   go_ret
   exact ⟨rfl,G.out 2⟩
theorem iG.skip {n:Int} (hg:iG s c) (h0:1≤n) (hn:n≤c.k):iG s (c.skip n):=by
 obtain ⟨cur,u0,u1,k⟩:=c;simp only [iG,Cs.here,Cs.skip] at hg hn ⊢;cases cur<;>simp at hg hn ⊢<;>omega
theorem iG.lay {n:Int} (hg:iG s c) (h0:1≤n) (hn:n≤c.room s):iG s (c.lay n):=by
 obtain ⟨cur,u0,u1,k⟩:=c;simp only [iG,Cs.here,Cs.lay,Cs.room] at hg hn ⊢;cases cur<;>simp at hg hn ⊢<;>omega
theorem iG.turn (hg:iG s c) (ht:c.there=0):iG s c.turn:=by
 obtain ⟨cur,u0,u1,k⟩:=c;simp only [iG,Cs.here,Cs.turn,Cs.there] at hg ht ⊢;cases cur<;>simp at hg ht ⊢<;>omega
theorem iG.done (hg:iG s c):iG s c.done:=by
 obtain ⟨cur,u0,u1,k⟩:=c;simp only [iG,Cs.here,Cs.done] at hg ⊢;cases cur<;>simp at hg ⊢<;>omega
end
end Go.Proofs.YtgcmiahhkalfmaaGreat
