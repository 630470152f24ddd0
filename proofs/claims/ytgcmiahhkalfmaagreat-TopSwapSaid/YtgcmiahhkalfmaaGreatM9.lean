import Derived.Test.YtgcmiahhkalfmaaGreatM6
import Derived.Test.YtgcmiahhkalfmaaGreatM8
set_option maxRecDepth 100000
set_option maxHeartbeats 8000000
set_option linter.unusedVariables false
set_option linter.unusedSimpArgs false
namespace Go.Proofs.YtgcmiahhkalfmaaGreat
section
open Go.Proofs.Tryz
open Go.RowKit
variable {sn:Bool} {ct st:Int} {b bh g j n q:Nat} {f f' m own own':Nat→Int} {S:Nat→Prop} {t:TypeId} {W w w':World}
def intsAt (q n:Nat) (t:TypeId) (m:Nat→Int) (S:Nat→Prop) (w:World):Prop:=∃ cs,Blk w q cs t∧cs.size=n∧(∀ j,j<n→cs[j]? = some (.int .i64 (m j)))∧S q∧∀ k,S k→k=q
def Ints (q n:Nat) (t:TypeId) (m:Nat→Int):aC where
 at_:=intsAt q n t m
 lt:=fun ⟨_,h1,_,_,_,h3⟩ k hk=>by rw [h3 k hk];exact h1.lt
 kept:=fun ⟨cs,h1,a,b,h2,h3⟩ hk _=>⟨cs,by unfold Blk at *;rw [hk q h2];exact h1,a,b,h2,h3⟩
def setI (m:Nat→Int) (j:Nat) (x:Int):Nat→Int:=fun k=>if k=j then x else m k
theorem ints_set (h:(Ints q n t m).at_ S w) (j:Nat) (x:Int):aA (Ints q n t (setI m j x)) S w (w.setCell ⟨q,j,none⟩ (.int .i64 x)):=by
 obtain ⟨cs,h1,h2,h3,h4,h5⟩:=h
 refine ⟨⟨S,⟨_,h1.set j (.int .i64 x),by simpa using h2,fun k hk=>?_,h4,h5⟩,fun _ h=>.inl h⟩,(aY.refl S w).setCell (.inl h4) _⟩
 by_cases e:k=j
 · subst e;simp [setI,h2,hk]
 · rw [Array.getElem?_setIfInBounds_ne (by omega)];simp only [setI,e,if_false];exact h3 k hk
def Hnd (bh g n:Nat) (st:Int) (sn:Bool) (own:Nat→Int) (ct:Int):aC:=
 Sep (Var bh #[.int .i64 st,.bool sn,.slice (some ⟨g,0,none⟩) n n,.int .i64 ct] 219) (Ints g n 3 own)
def hIn (n:Nat) (i:Int):Prop:=0≤i∧i<n
instance (n:Nat) (i:Int):Decidable (hIn n i):=by unfold hIn;infer_instance
def hSt (n:Nat) (own:Nat→Int) (t:Int):Int:=if hIn n t then own t.toNat else -1
theorem hSt_in (h:j<n):hSt n own j=own j:=by unfold hSt;rw [if_pos ⟨by omega,by omega⟩];rfl
theorem hSt_out {t:Int} (h:¬hIn n t):hSt n own t=-1:=by unfold hSt;rw [if_neg h]
section
theorem bT (h:(Hnd bh g n st sn own ct).at_ S w):w.cell? ⟨bh,0,none⟩=some (.int .i64 st)∧w.cell? ⟨bh,1,none⟩=some (.bool sn)∧w.cell? ⟨bh,2,none⟩=some (.slice (some ⟨g,0,none⟩) n n)∧w.cell? ⟨bh,3,none⟩=some (.int .i64 ct)∧
 ∀ i,w.frozen? ⟨bh,i,none⟩=false:=by
 obtain ⟨_,_,h,_⟩:=h
 have h:=h.1
 exact ⟨by rw [h.cell];rfl,by rw [h.cell];rfl,by rw [h.cell];rfl,by rw [h.cell];rfl,h.free⟩
theorem lF (h:(Hnd bh g n st sn own ct).at_ S w) (hj:j<n):w.cell? ⟨g,j,none⟩=some (.int .i64 (own j))∧w.frozen? ⟨g,j,none⟩=false:=by
 obtain ⟨_,_,_,⟨cs,h1,h2,h3,_⟩,_⟩:=h
 exact ⟨by rw [h1.cell];exact h3 j hj,h1.free j⟩
theorem fF (h:(Hnd bh g n st sn own ct).at_ S w):aA (Hnd bh g n st sn own (wrap64 (ct+1))) S w (w.setCell ⟨bh,3,none⟩ (.int .i64 (wrap64 (ct+1)))):=
 aG (fun _ h=>dD h 3 (.int .i64 (wrap64 (ct+1)))) S h
theorem hnd_set (x:Int) (h:(Hnd bh g n st sn own ct).at_ S w):aA (Hnd bh g n st sn (setI own j x) ct) S w (w.setCell ⟨g,j,none⟩ (.int .i64 x)):=
 aH (fun _ h=>ints_set h j x) S h
theorem fK (k:Nat) (hk:k<n) (_hn:n≤16) (h:(Hnd bh g n st sn own ct).at_ S w):
 Calls prog 252 #[.pointer (some ⟨bh,0,none⟩),.int .i64 (k:Int)] w fun e w'=>e=.returned (.int .i64 (own k))∧w=w':=by
 obtain ⟨-,-,c2,-,-⟩:=bT h
 obtain ⟨c4,-⟩:=lF h hk
 clear h
 go_enter func252,ntmps252
 go_wp2_with fail
 go_ret
 exact ⟨rfl,rfl⟩
theorem hand_status_out (i:Int) (hi:¬hIn n i) (h:(Hnd bh g n st sn own ct).at_ S w):
 Calls prog 252 #[.pointer (some ⟨bh,0,none⟩),.int .i64 i] w fun e w'=>e=.returned (.int .i64 (-1))∧w=w':=by
 obtain ⟨-,-,c2,-,-⟩:=bT h
 clear h
 unfold hIn at hi
 by_cases h0:i<0
 · clear hi
   go_enter func252,ntmps252
   go_wp2_with fail
   go_ret
   exact ⟨rfl,rfl⟩
 · have h1:(n:Int)≤i:=by omega
   have hd:decide (i<(n:Int))=false:=by simp;omega
   clear hi
   go_enter func252,ntmps252
   go_wp2_with fail
   go_ret
   exact ⟨rfl,rfl⟩
theorem hand_status (i:Int) (hn:n≤16) (h:(Hnd bh g n st sn own ct).at_ S w):
 Calls prog 252 #[.pointer (some ⟨bh,0,none⟩),.int .i64 i] w fun e w'=>e=.returned (.int .i64 (hSt n own i))∧w=w':=by
 by_cases hi:hIn n i
 · obtain ⟨k,rfl⟩:∃ k:Nat,i=(k:Int):=⟨i.toNat,by have:=hi.1;omega⟩
   have hk:k<n:=by have:=hi.2;omega
   rw [hSt_in hk]
   exact fK k hk hn h
 · rw [hSt_out hi];exact hand_status_out i hi h
theorem hand_known (x:Int):Calls prog 191 #[.int .i64 x] w fun e w'=>e=.returned (.bool (decide (0≤x∧x≤4)))∧w=w':=by
 by_cases h0:0≤x
 · by_cases h1:x≤4
   · rw [decide_eq_true ⟨h0,h1⟩]
     go_enter func191,ntmps191
     go_wp2_with fail
     go_ret
     exact ⟨rfl,rfl⟩
   · rw [decide_eq_false fun h=>h1 h.2]
     have h2:decide (x≤4)=false:=by simpa using h1
     go_enter func191,ntmps191
     go_wp2_with fail
     go_ret
     exact ⟨by first|rfl|(show Ending.returned (.bool _)=_;rw [h2]),rfl⟩
 · rw [decide_eq_false fun h=>h0 h.1]
   go_enter func191,ntmps191
   go_wp2_with fail
   go_ret
   exact ⟨rfl,rfl⟩
theorem hand_poll (i:Int) (hn:n≤16) (h:(Hnd bh g n st sn own ct).at_ S w):
 Calls prog 192 #[.pointer (some ⟨bh,0,none⟩),.int .i64 i] w fun e w'=>e=.returned (.bool (hSt n own i==-1||hSt n own i==st))∧aA (Hnd bh g n st sn own (wrap64 (ct+1))) S w w':=by
 obtain ⟨-,-,-,c3,f⟩:=bT h
 have f3:=f 3
 have g1:=fF h
 obtain ⟨d0,-,-,-,-⟩:=bT g1.now.choose_spec.1
 have HS:=zz (g1.look fun S h=>hand_status i hn h)
 have HG:=zz g1
 clear g1 h f
 generalize hSt n own i=x at*
 by_cases hx:x=-1
 · subst hx
   go_enter func192,ntmps192
   go_wp2_with fail
   refine qq HS.out ?_
   go_wp2_with fail
   go_ret
   exact ⟨rfl,HG.out⟩
 · have e1:(x==-1)=false:=by simpa using hx
   go_enter func192,ntmps192
   go_wp2_with fail
   refine qq HS.out ?_
   go_wp2_with fail
   go_ret
   exact ⟨by simp [e1],HG.out⟩
end
section
theorem hnd_put (i:Nat) (v:Value) (st':Int) (sn':Bool) (he:(#[.int .i64 st,.bool sn,.slice (some ⟨g,0,none⟩) n n,.int .i64 ct]:Array Value).setIfInBounds i v=#[.int .i64 st',.bool sn',.slice (some ⟨g,0,none⟩) n n,.int .i64 ct])
 (h:(Hnd bh g n st sn own ct).at_ S w):aA (Hnd bh g n st' sn' own ct) S w (w.setCell ⟨bh,i,none⟩ v):=
 aG (fun _ h=>by have:=dD h i v;rw [he] at this;exact this) S h
theorem hand_post (x:Int) (fl:Bool) (hx:0≤x) (hx4:x≤4) (h:(Hnd bh g n st sn own ct).at_ S w):
 Calls prog 126 #[.pointer (some ⟨bh,0,none⟩),.int .i64 x,.bool fl] w fun e w'=>e=.returned (.bool true)∧aA (Hnd bh g n x (sn != fl) own (wrap64 (ct+1))) S w w':=by
 obtain ⟨-,c1,-,c3,f⟩:=bT h
 have f3:=f 3
 have f0:=f 0
 have f1:=f 1
 have g1:=fF h
 have HK:=zz (hand_known (w:=w.setCell ⟨bh,3,none⟩ (.int .i64 (wrap64 (ct+1)))) x)
 rw [decide_eq_true ⟨hx,hx4⟩] at HK
 have g2:=g1.then fun S h=>hnd_put 0 (.int .i64 x) x sn rfl h
 obtain ⟨d0,-,-,-,d5⟩:=bT g1.now.choose_spec.1
 obtain ⟨-,d1,-,-,d6⟩:=bT g2.now.choose_spec.1
 have d5:=d5 0
 have d6:=d6 1
 have HG:=zz (g2.then fun S h=>hnd_put 1 (.bool (sn != fl)) x (sn != fl) rfl h)
 clear g1 g2 h f
 go_enter func126,ntmps126
 go_wp2_with fail
 refine qq HK.out ?_
 clear HK
 go_wp2_with fail
 go_ret
 exact ⟨rfl,HG.out⟩
theorem hand_look (h:(Hnd bh g n st sn own ct).at_ S w):
 Calls prog 213 #[.pointer (some ⟨bh,0,none⟩)] w fun e w'=>e=.returned (.tuple #[.int .i64 st,.bool sn])∧aA (Hnd bh g n st sn own (wrap64 (ct+1))) S w w':=by
 obtain ⟨-,-,-,c3,f⟩:=bT h
 have f3:=f 3
 have g1:=fF h
 obtain ⟨d0,d1,-,-,-⟩:=bT g1.now.choose_spec.1
 have HG:=zz g1
 clear g1 h f
 go_enter func213,ntmps213
 go_wp2_with fail
 go_quiet (fail)
 go_wp2_with fail
 go_ret2
 exact ⟨rfl,HG.out.then fun S h=>iB h _⟩
theorem hand_answer (k:Nat) (x:Int) (hk:k<n) (hn:n≤16) (ho:own k≠-1) (hx:0≤x) (hx4:x≤4) (h:(Hnd bh g n st sn own ct).at_ S w):
 Calls prog 214 #[.pointer (some ⟨bh,0,none⟩),.int .i64 (k:Int),.int .i64 x] w fun e w'=>e=.returned (.bool true)∧aA (Hnd bh g n st sn (setI own k x) (wrap64 (ct+1))) S w w':=by
 obtain ⟨-,-,-,c3,f⟩:=bT h
 have f3:=f 3
 have g1:=fF h
 obtain ⟨-,-,d2,-,-⟩:=bT g1.now.choose_spec.1
 obtain ⟨d4,d5⟩:=lF g1.now.choose_spec.1 hk
 have HS:=zz (g1.look fun S h=>fK k hk hn h)
 have HK:=zz (hand_known (w:=w.setCell ⟨bh,3,none⟩ (.int .i64 (wrap64 (ct+1)))) x)
 rw [decide_eq_true ⟨hx,hx4⟩] at HK
 have HG:=zz (g1.then fun S h=>hnd_set (j:=k) x h)
 clear g1 h f
 generalize own k=y at*
 go_enter func214,ntmps214
 go_wp2_with fail
 refine qq HS.out ?_
 clear HS
 go_wp2_with fail
 refine qq HK.out ?_
 clear HK
 go_wp2_with fail
 go_ret
 exact ⟨rfl,HG.out⟩
theorem hand_leave (k:Nat) (hk:k<n) (hn:n≤16) (ho:own k≠-1) (h:(Hnd bh g n st sn own ct).at_ S w):
 Calls prog 217 #[.pointer (some ⟨bh,0,none⟩),.int .i64 (k:Int)] w fun e w'=>e=.returned (.bool true)∧aA (Hnd bh g n st sn (setI own k (-1)) (wrap64 (ct+1))) S w w':=by
 obtain ⟨-,-,-,c3,f⟩:=bT h
 have f3:=f 3
 have g1:=fF h
 obtain ⟨-,-,d2,-,-⟩:=bT g1.now.choose_spec.1
 obtain ⟨d4,d5⟩:=lF g1.now.choose_spec.1 hk
 have HS:=zz (g1.look fun S h=>fK k hk hn h)
 have HG:=zz (g1.then fun S h=>hnd_set (j:=k) (-1) h)
 clear g1 h f
 generalize own k=y at*
 go_enter func217,ntmps217
 go_wp2_with fail
 refine qq HS.out ?_
 clear HS
 go_wp2_with fail
 go_ret
 exact ⟨rfl,HG.out⟩
theorem hand_join (k:Nat) (hk:k<n) (_hn:n≤16) (ho:own k=-1) (h:(Hnd bh g n st sn own ct).at_ S w):
 Calls prog 75 #[.pointer (some ⟨bh,0,none⟩),.int .i64 (k:Int)] w fun e w'=>e=.returned (.tuple #[.int .i64 st,.bool sn,.bool true])∧aA (Hnd bh g n st sn (setI own k st) (wrap64 (ct+1))) S w w':=by
 obtain ⟨-,-,-,c3,f⟩:=bT h
 have f3:=f 3
 have g1:=fF h
 obtain ⟨d0,-,d2,-,-⟩:=bT g1.now.choose_spec.1
 obtain ⟨d4,d5⟩:=lF g1.now.choose_spec.1 hk
 have HG:=zz g1
 clear g1 h f
 rw [ho] at d4
 go_enter func75,ntmps75
 go_wp2_with fail
 have G1:=HG.out
 generalize w.setCell ⟨bh,3,none⟩ (.int .i64 (wrap64 (ct+1)))=W1 at*
 have g2:=G1.then fun S h=>(hnd_set (j:=k) st h).then fun S h=>jJ h
 clear G1 HG
 go_still_tail 10,(by kernel_rfl)
 change wpList _ _ _ _ _ W1.drew
 go_upto_region 5 with fail
 obtain ⟨e0,e1,-,-,-⟩:=bT g2.now.choose_spec.1
 have HG:=zz g2
 clear g2 d0 d2 d4 d5 c3 f3
 generalize (W1.setCell ⟨g,k,none⟩ (.int .i64 st)).drew=W2 at*
 go_wp2_with fail
 go_quiet (fail)
 go_wp2_with fail
 go_ret3
 exact ⟨rfl,HG.out.then fun S h=>iB h _⟩
end
theorem make_ints (n:Nat) (hn:n≤1024) (w:World):(Instr.makeSlice 22 (.int .i64 n) (.int .i64 n)).run prog w=.ok (.slice (some ⟨w.heap.size,0,none⟩) n n) (w.alloc (.cells (madeCells #[.int .i64 0] n) 3)):=by
 obtain ⟨i0,hi,hz0,hz1,hz2⟩:=info_parts Tryz.info3
 have:=run_make (P:=prog) w 22 3 i0 _ underlying22 hi hz0 .i64 .i64 n n (by omega) (by omega) (by rw [hz2];omega) (by omega)
 rw [this,hz1];simp [Value.cells]
theorem St.ints (w:World) (n:Nat) (t:TypeId):St w (Ints w.heap.size n t fun _=>0) (w.alloc (.cells (madeCells #[.int .i64 0] n) t)):=
 ⟨⟨fun k=>k=w.heap.size,⟨_,Blk.new w _ t,by simp [madeCells],fun j hj=>by simp [madeCells,hj,Nat.mod_one],rfl,fun _ h=>h⟩,fun k hk=>by omega⟩,(Below.refl _ _).alloc (Nat.le_refl _) _⟩
theorem ints_congr (h:∀ k,k<n→f k=f' k) (ht:(Ints b n t f).at_ S w):(Ints b n t f').at_ S w:=by
 obtain ⟨cs,h1,h2,h3,h4⟩:=ht
 exact ⟨cs,h1,h2,fun j hj=>by rw [←h j hj];exact h3 j hj,h4⟩
section
theorem hnd_congr (h:∀ k,k<n→own k=own' k) (hs:St W (Hnd bh g n st sn own ct) w):St W (Hnd bh g n st sn own' ct) w:=
 hs.conv fun _ _ ⟨S,T,h1,h2,h3⟩=>⟨S,T,h1,ints_congr h h2,h3⟩
end
def oN (q:Nat):Nat→Int:=fun j=>if j<q then -1 else 0
def gone:Nat→Int:=fun _=>-1
theorem oN_step (q:Nat):setI (oN q) q (-1)=oN (q+1):=by
 funext k
 by_cases e:k=q
 · subst e;simp [setI,oN]
 · have:(k<q+1)↔(k<q):=by omega
   simp [setI,oN,e,this]
theorem hand_new (n:Nat) (w:World) (h1:1≤n) (h2:n≤16):
 Calls prog 59 #[.int .i64 n] w fun e w'=>∃ bh g,e=.returned (.tuple #[.pointer (some ⟨bh,0,none⟩),.int .i64 0])∧St w (Hnd bh g n 0 false gone 0) w':=by
 have hmk:=make_ints n (by omega)
 go_enter func59,ntmps59
 go_wp2_with fail
 clear hmk
 have h3:=((St.ints w n 3).var #[.int .i64 0,.bool false,.slice (some ⟨w.heap.size,0,none⟩) n n,.int .i64 0] 219).swap
 have e0:(w.alloc (.cells (madeCells #[.int .i64 0] n) 3)).heap.size=w.heap.size+1:=by simp
 rw [e0] at h3
 generalize hbh:w.heap.size+1=bh at h3 ⊢
 generalize hg:w.heap.size=g at h3 ⊢
 generalize hW:(w.alloc (.cells (madeCells #[.int .i64 0] n) 3)).alloc (.cells #[.int .i64 0,.bool false,.slice (some ⟨g,0,none⟩) n n,.int .i64 0] 219)=W1 at h3 ⊢
 clear e0 hbh hg hW
 go_loopw [21] (fun k w'=>∃ q:Nat,q≤n∧k=.int .i64 q∧St w (Hnd bh g n 0 false (oN q) 0) w') (fun k _=>n-(intOf k).toNat)
 case atStart=>exact ⟨0,Nat.zero_le _,rfl,hnd_congr (fun k _=>by simp [oN]) h3⟩
 case round=>
  clear h3
  obtain ⟨q,hq,rfl,hs⟩:=hrel
  obtain ⟨c0,c1,c2,c3,f⟩:=bT hs.1.choose_spec.1
  by_cases hlt:q<n
  · obtain ⟨c4,f4⟩:=lF hs.1.choose_spec.1 hlt
    have h6:=hs.goes fun S h=>hnd_set (j:=q) (-1) h
    rw [oN_step] at h6
    clear hs f
    go_wp2_with fail
    go_round
    case rel=>exact ⟨q+1,by omega,by go_num,h6⟩
    case measure=>simp [intOf];omega
  · obtain rfl:q=n:=by omega
    clear f
    go_wp2_with fail
    go_ret2
    exact ⟨_,_,rfl,hnd_congr (fun k hk=>by simp [oN,gone,hk]) hs⟩
end
section
structure Lc where
 ref:Bool
 k:Nat
 i:Nat
structure Opn where
 kd:Nat
 a:Nat
 b:Nat
 c:Nat
 n:Nat
 zk:Nat
 zi:Nat
structure Sw.Wd where
 k:Nat
 i:Nat
 deriving DecidableEq
def Lc.w (l:Lc):Sw.Wd:=⟨l.k,l.i⟩
def Cf.refs (c:Cf):List Bool:=(c.shapes.head?.getD (false,[])).2
def Cf.fw (_:Cf) (i k:Nat):Nat:=i*8+k
def Cf.gw (c:Cf) (g:Nat):Nat:=c.frags*8+c.spine+c.spine+g
namespace Sw
def wN:Wd:=⟨0,1⟩
def wR (j:Nat):Wd:=⟨j+1,1⟩
def w0:Wd:=⟨0,0⟩
def Wd.ix (w:Wd):Option Nat:=if w.i=1∧1≤w.k then some (w.k-1) else none
structure Rq where
 st:Nat
 cy:Nat
 nt:Bool
 got:Nat
structure Q where
 m:Nat→Wd
 t:Nat→One
 pl:List Nat
 lo:Bool
 fr:Nat→Bool
 ln:Option Rq
 st:Int
 sn:Bool
 own:Nat→Int
def set {α:Type} (f:Nat→α) (i:Nat) (x:α):Nat→α:=fun k=>if k=i then x else f k
structure T where
 ph:Int
 st:Int
 sn:Bool
 nx:Nat
 pc:Int
 seen:Int
 grey:List Nat
 at_:Int
 ad:Nat
 rf:Bool
 old:Wd
 w:Wd
 got:Nat
 wk:Nat
 l:Nat→Lc
structure Rs where
 d:Bool
 nx:Nat
 er:Int
 r:Bool
 z:Wd
def rs0:Rs:=⟨false,0,0,false,w0⟩
def Q.blk (q:Q) (i:Nat) (s:Bool):Bool:=(q.t i).st==2&&((q.t i).sn==s)
def Q.grey (q:Q) (c:Cf) (i:Nat) (s:Bool):Q:=
 if (q.t i).hd=true∧q.blk i s=false then
  {q with t:=set q.t i {q.t i with sn:=s},pl:=if q.pl.length<c.stack then q.pl++[i] else q.pl,lo:=if q.pl.length<c.stack then q.lo else true}
 else q
def topF (f:Nat→Bool):Nat→Option Nat
 | 0=>none
 | n+1=>if f n then some n else topF f n
def Q.take (q:Q) (i:Nat) (s:Bool):Q:={q with fr:=set q.fr i false,t:=set q.t i ⟨2,false,s⟩}
def shades (s:Int):Bool:=s==1||s==2||s==3
def both (s:Int):Bool:=s==1||s==2
def T.fresh (p:T):T:={p with ph:=2,at_:=0,ad:=0,rf:=false,old:=w0,w:=w0}
def T.next (p:T):T:={p with nx:=p.nx+1,ph:=1,pc:=0}
def T.er (p:T) (e:Int):T×Rs:=(p.next,⟨true,p.nx,e,false,w0⟩)
def T.lay (p:T) (a:Nat) (v:Lc):T×Rs:=({p.next with l:=set p.l a v},⟨true,p.nx,0,v.ref,v.w⟩)
def T.ends (p:T):T×Rs:=(p.next,⟨true,p.nx,0,false,w0⟩)
def greys (n:Nat) (l:Nat→Lc):List Nat:=(List.range n).filterMap fun j=>if (l j).ref then (l j).w.ix else none
def must (o:Opn):Option (Nat×Bool):=
 if o.kd=3∨o.kd=11 then some (o.b,true) else if o.kd=4 then some (o.a,true) else if o.kd=8 then some (o.b,false) else none
def opEr (o:Opn) (l:Nat→Lc):Int:=
 match must o with
 | none=>0
 | some (j,some_)=>if (l j).ref=false then 4 else if some_=true∧(l j).w=wN then 3 else 0
def T.chooses (p:T) (o:Opn):T:={p with w:=(p.l o.b).w,at_:=if p.rf&&shades p.st then 3 else 6}
def behind (w:Wd) (st:Int):Int:=if w.ix.isSome&&both st then 5 else 6
def T.olds (p:T) (m:Nat→Wd):T:={p with old:=m p.ad,at_:=if (m p.ad).ix.isSome then 4 else behind p.w p.st}
def plW (l:List Bool) (k:Nat):Wd:=if k=0 then wN else if k=1 then ⟨0,1⟩ else match l[k-2]? with|some true=>wN|_=>w0
inductive TS (c:Cf) (t no:Nat) (o:Nat→Opn):Q→T→Q→T→Rs→Prop
 | out {q p}:p.ph=0→TS c t no o q p {q with own:=set q.own t q.st} {p with ph:=1,pc:=0,st:=q.st,sn:=q.sn} rs0
 | go {q p}:p.ph=1→p.pc=0→q.st=p.st→p.nx<no→TS c t no o q p q p.fresh rs0
 | quit {q p}:p.ph=1→p.pc=0→q.st=p.st→no≤p.nx→TS c t no o q p q {p with pc:=3} rs0
 | look {q p}:(p.ph=1∨p.ph=3)→p.pc=0→q.st≠p.st→
  TS c t no o q p q {p with seen:=q.st,sn:=if q.st=1 then q.sn else p.sn,grey:=if q.st=3 then greys c.locals p.l else [],pc:=if q.st=3∧greys c.locals p.l≠[] then 1 else 2} rs0
 | grey {q p i g}:(p.ph=1∨p.ph=3)→p.pc=1→p.grey=i::g→TS c t no o q p (q.grey c i p.sn) {p with grey:=g,pc:=if g=[] then 2 else 1} rs0
 | answer {q p}:(p.ph=1∨p.ph=3)→p.pc=2→TS c t no o q p {q with own:=set q.own t p.seen} {p with st:=p.seen,pc:=if p.ph=1 then 0 else 5} rs0
 | drain {q p}:p.ph=1→p.pc=3→TS c t no o q p q {p with pc:=4} rs0
 | leave {q p}:p.ph=1→p.pc=4→TS c t no o q p {q with own:=set q.own t (-1)} {p with ph:=4,l:=fun _=>⟨false,0,0⟩} rs0
 | gone {q p}:p.ph=4→TS c t no o q p q p rs0
 | err {q p}:p.ph=2→p.at_=0→opEr (o p.nx) p.l≠0→TS c t no o q p q (p.er (opEr (o p.nx) p.l)).1 (p.er (opEr (o p.nx) p.l)).2
 | num {q p}:p.ph=2→p.at_=0→(o p.nx).kd=12→TS c t no o q p q (p.lay (o p.nx).a ⟨false,(o p.nx).zk,(o p.nx).zi⟩).1 (p.lay (o p.nx).a ⟨false,(o p.nx).zk,(o p.nx).zi⟩).2
 | clear {q p}:p.ph=2→p.at_=0→(o p.nx).kd=13→TS c t no o q p q (p.lay (o p.nx).a ⟨true,0,1⟩).1 (p.lay (o p.nx).a ⟨true,0,1⟩).2
 | kind {q p}:p.ph=2→p.at_=0→(o p.nx).kd=11→opEr (o p.nx) p.l=0→TS c t no o q p q (p.lay (o p.nx).a ⟨false,0,0⟩).1 (p.lay (o p.nx).a ⟨false,0,0⟩).2
 | ask {q p i}:p.ph=2→p.at_=0→(o p.nx).kd=1→topF q.fr c.frags=some i→TS c t no o q p (q.take i (p.sn != both p.st)) {p with at_:=7,got:=i,wk:=0} rs0
 | wait {q p}:p.ph=2→p.at_=0→(o p.nx).kd=1→topF q.fr c.frags=none→TS c t no o q p {q with ln:=some ⟨0,0,false,0⟩} {p with ph:=3,pc:=5} rs0
 | load {q p h}:p.ph=2→p.at_=0→(o p.nx).kd=3→opEr (o p.nx) p.l=0→(p.l (o p.nx).b).w=wR h→
  TS c t no o q p q {p with ad:=c.fw h (2+(o p.nx).n),rf:=c.refs.getD (o p.nx).n false,at_:=2} rs0
 | storeK {q p}:p.ph=2→p.at_=0→(o p.nx).kd=4→opEr (o p.nx) p.l=0→(p.l (o p.nx).b).ref≠c.refs.getD (o p.nx).n false→
  TS c t no o q p q (p.er 4).1 (p.er 4).2
 | store {q p h}:p.ph=2→p.at_=0→(o p.nx).kd=4→opEr (o p.nx) p.l=0→(p.l (o p.nx).b).ref=c.refs.getD (o p.nx).n false→(p.l (o p.nx).a).w=wR h→
  TS c t no o q p q (({p with ad:=c.fw h (2+(o p.nx).n),rf:=c.refs.getD (o p.nx).n false}:T).chooses (o p.nx)) rs0
 | see {q p}:p.ph=2→p.at_=0→(o p.nx).kd=7→TS c t no o q p q (p.lay (o p.nx).a ⟨true,(q.m (c.gw (o p.nx).n)).k,(q.m (c.gw (o p.nx).n)).i⟩).1 (p.lay (o p.nx).a ⟨true,(q.m (c.gw (o p.nx).n)).k,(q.m (c.gw (o p.nx).n)).i⟩).2
 | setOld {q p}:p.ph=2→p.at_=0→(o p.nx).kd=8→opEr (o p.nx) p.l=0→shades p.st=true→
  TS c t no o q p q (({p with ad:=c.gw (o p.nx).n,rf:=true,w:=(p.l (o p.nx).b).w}:T).olds q.m) rs0
 | setNow {q p}:p.ph=2→p.at_=0→(o p.nx).kd=8→opEr (o p.nx) p.l=0→shades p.st=false→
  TS c t no o q p {q with m:=set q.m (c.gw (o p.nx).n) (p.l (o p.nx).b).w} p.ends.1 p.ends.2
 | read {q p}:p.ph=2→p.at_=2→TS c t no o q p q (p.lay (o p.nx).a ⟨p.rf,(q.m p.ad).k,(q.m p.ad).i⟩).1 (p.lay (o p.nx).a ⟨p.rf,(q.m p.ad).k,(q.m p.ad).i⟩).2
 | old {q p}:p.ph=2→p.at_=3→TS c t no o q p q (p.olds q.m) rs0
 | greyOld {q p i}:p.ph=2→p.at_=4→p.old=wR i→TS c t no o q p (q.grey c i p.sn) {p with at_:=behind p.w p.st} rs0
 | greyNew {q p i}:p.ph=2→p.at_=5→p.w=wR i→TS c t no o q p (q.grey c i p.sn) {p with at_:=6} rs0
 | write {q p}:p.ph=2→p.at_=6→TS c t no o q p {q with m:=set q.m p.ad p.w} p.ends.1 p.ends.2
 | make {q p}:p.ph=2→p.at_=7→p.wk<8→TS c t no o q p {q with m:=set q.m (c.fw p.got p.wk) (plW c.refs p.wk)} {p with wk:=p.wk+1,at_:=if p.wk+1=8 then 8 else 7} rs0
 | born {q p}:p.ph=2→p.at_=8→TS c t no o q p {q with t:=set q.t p.got {q.t p.got with hd:=true}} (p.lay (o p.nx).a ⟨true,p.got+1,1⟩).1 (p.lay (o p.nx).a ⟨true,p.got+1,1⟩).2
 | same {q p}:p.ph=3→p.pc=0→q.st=p.st→TS c t no o q p q {p with pc:=5} rs0
 | still {q p r}:p.ph=3→p.pc=5→q.ln=some r→r.st=0→TS c t no o q p q {p with pc:=0} rs0
 | granted {q p r}:p.ph=3→p.pc=5→q.ln=some r→r.st=1→TS c t no o q p {q with ln:=none} {p with ph:=2,at_:=7,got:=r.got,wk:=0} rs0
 | failed {q p r}:p.ph=3→p.pc=5→q.ln=some r→r.st=2→TS c t no o q p {q with ln:=none} (p.er 6).1 (p.er 6).2
structure Tr where
 hd:Nat
 pc:Int
 ws:List Nat
 nx:Nat
structure Y where
 st:Int
 at_:Int
 i:Nat
 hd:Nat
 rs:Bool
 sn:Bool
 tr:Tr
def Y.to (y:Y) (s:Int):Y:={y with st:=s,at_:=0,i:=0}
def refWs (l:List Bool):List Nat:=(List.range l.length).filterMap fun k=>if l.getD k false then some (2+k) else none
def Tr.on (t:Tr):Int:=if t.ws=[] then 9 else 1
def Q.polls (q:Q) (i:Nat):Nat:=if q.own i=-1∨q.own i=q.st then i+1 else i
def Y.follows (c:Cf) (y:Y):Y:=if y.i+1=c.frags then {y with at_:=0,i:=0} else {y with at_:=6,i:=y.i+1}
def Y.traced (c:Cf) (y:Y):Y:=if y.tr.pc=9 then (if y.rs then {y with at_:=0}.follows c else {y with at_:=0}) else y
def Q.wait (q:Q):Bool:=match q.ln with|some r=>r.st==0|none=>false
inductive CS (c:Cf):Q→Y→Q→Y→Prop
 | idle {q y}:y.st=0→¬(q.wait=true∨cF c.frags q.fr<c.low)→CS c q y q y
 | wants {q y}:y.st=0→(q.wait=true∨cF c.frags q.fr<c.low)→CS c q y q (y.to 1)
 | begin_ {q y}:y.st=1→y.at_=0→CS c q y {q with ln:=q.ln.map fun r=>{r with nt:=r.st==0}} {y with at_:=2}
 | start {q y}:y.st=1→y.at_≠0→CS c q y {q with st:=1,sn:=!q.sn} (({y with sn:=!y.sn}:Y).to 2)
 | hands {q y}:(y.st=2∨y.st=3)→y.at_=0→CS c q y q {y with i:=q.polls y.i,at_:=if q.polls y.i=c.threads then 2 else 0}
 | post {q y}:(y.st=2∨y.st=3)→y.at_≠0→CS c q y {q with st:=y.st} (y.to (y.st+1))
 | rootG {q y}:y.st=4→y.at_=3→CS c q y (q.grey c y.hd y.sn) {y with at_:=0,i:=y.i+1}
 | root {q y h}:y.st=4→y.at_=0→y.i<c.globals→(q.m (c.gw y.i)).ix=some h→CS c q y q {y with hd:=h,at_:=3}
 | root0 {q y}:y.st=4→y.at_=0→y.i<c.globals→(q.m (c.gw y.i)).ix=none→CS c q y q {y with hd:=0,i:=y.i+1}
 | roots {q y}:y.st=4→(y.at_=1∨y.at_=0∧c.globals≤y.i)→CS c q y q (let j:=q.polls (if y.at_=0 then 0 else y.i);if j=c.threads then y.to 5 else {y with at_:=1,i:=j})
 | next {q y x i}:y.st=5→y.at_=0→q.pl=x++[i]→CS c q y {q with pl:=x} {y with hd:=i,at_:=4,rs:=false,tr:=⟨i,0,[],0⟩}
 | next0 {q y}:y.st=5→y.at_=0→q.pl=[]→CS c q y q {y with hd:=0,at_:=5,rs:=false}
 | lost {q y}:y.st=5→y.at_=5→q.lo=true→CS c q y {q with lo:=false} {y with at_:=6,i:=0}
 | found {q y}:y.st=5→y.at_=5→q.lo=false→CS c q y q (y.to 6)
 | rescan {q y}:y.st=5→y.at_=6→(q.t y.i).hd=true→q.blk y.i y.sn=true→CS c q y q {y with at_:=4,rs:=true,tr:=⟨y.i,0,[],0⟩}
 | skip {q y}:y.st=5→y.at_=6→¬((q.t y.i).hd=true∧q.blk y.i y.sn=true)→CS c q y q (y.follows c)
 | trHead {q y}:y.st=5→y.at_=4→y.tr.pc=0→CS c q y q ({y with tr:={y.tr with ws:=refWs c.refs,pc:=({y.tr with ws:=refWs c.refs}:Tr).on}}.traced c)
 | trRef {q y k ws h}:y.st=5→y.at_=4→y.tr.pc=1→y.tr.ws=k::ws→(q.m (c.fw y.tr.hd k)).ix=some h→CS c q y q {y with tr:={y.tr with ws:=ws,nx:=h,pc:=2}}
 | trNone {q y k ws}:y.st=5→y.at_=4→y.tr.pc=1→y.tr.ws=k::ws→(q.m (c.fw y.tr.hd k)).ix=none→CS c q y q ({y with tr:={y.tr with ws:=ws,nx:=0,pc:=({y.tr with ws:=ws}:Tr).on}}.traced c)
 | trGrey {q y}:y.st=5→y.at_=4→y.tr.pc=2→CS c q y (q.grey c y.tr.nx y.sn) ({y with tr:={y.tr with pc:=y.tr.on}}.traced c)
 | turn {q y}:y.st=6→y.at_=0→CS c q y q {y with at_:=2}
 | move {q y}:y.st=6→y.at_=2→CS c q y {q with st:=4} {y with at_:=1}
 | turns {q y}:y.st=6→y.at_=1→CS c q y q (let j:=q.polls y.i;if j=c.threads then y.to 7 else {y with i:=j})
 | haul {q y}:y.st=7→y.at_≠2→CS c q y q {y with at_:=2}
 | still {q y}:y.st=7→y.at_=2→CS c q y {q with st:=0} (y.to 8)
 | settle {q y}:y.st=8→y.at_=0→CS c q y q {y with i:=q.polls y.i,at_:=if q.polls y.i=c.threads then 7 else 0}
 | settled {q y}:y.st=8→y.at_≠0→CS c q y q (y.to 9)
 | sweep {q y}:y.st=9→(q.t y.i).st=2→q.blk y.i y.sn=false→
  CS c q y {q with t:=set q.t y.i ⟨0,false,false⟩,fr:=set q.fr y.i true} (if y.i+1=c.frags then y.to 10 else {y with i:=y.i+1})
 | spare {q y}:y.st=9→¬((q.t y.i).st=2∧q.blk y.i y.sn=false)→CS c q y q (if y.i+1=c.frags then y.to 10 else {y with i:=y.i+1})
 | end_ {q y}:y.st=10→y.at_=0→CS c q y {q with ln:=q.ln.map fun r=>{r with cy:=if r.nt&&r.st==0 then r.cy+1 else r.cy,nt:=false}} {y with at_:=7}
 | serve {q y r i}:y.st=10→y.at_≠0→q.ln=some r→r.st=0→topF q.fr c.frags=some i→CS c q y {q.take i y.sn with ln:=some {r with st:=1,got:=i}} y
 | fail {q y r}:y.st=10→y.at_≠0→q.ln=some r→r.st=0→topF q.fr c.frags=none→2≤r.cy→CS c q y {q with ln:=some {r with st:=2}} y
 | done {q y}:y.st=10→y.at_≠0→¬(q.wait=true∧(topF q.fr c.frags≠none∨∃ r,q.ln=some r∧2≤r.cy))→CS c q y q (y.to 0)
end Sw
end
end Go.Proofs.YtgcmiahhkalfmaaGreat
