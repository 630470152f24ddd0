import Derived.Test.YtgcmiahhkalfmaaGreatM11
set_option maxRecDepth 100000
set_option maxHeartbeats 8000000
set_option linter.unusedVariables false
set_option linter.unusedSimpArgs false
namespace Go.Proofs.YtgcmiahhkalfmaaGreat
section
attribute [local go_sem] aF aI aO aV
open Go.Proofs.Tryz
open Go.RowKit
variable {ops:Array Oper} {c:Cf} {rl:List Bool} {l tl:List Nat} {rest:List Oper} {xs:List Value} {i i0 j k n x:Nat} {S:Nat→Prop} {o:Oper} {a:Option Addr} {q:Sw.Q} {u:Sw.Wd} {A H:aC} {fr rv tv v:Value} {w w':World}
theorem jZ {base e sz:Nat} (h:w.ownsRow base e sz v n xs):∃ a k,v=.slice a n k:=by
 rcases h.2 with ⟨rfl,rfl⟩|⟨g,cap,cur,rfl,_⟩
 · exact ⟨none,0,rfl⟩
 · exact ⟨_,cap,rfl⟩
def dU (v:Value) (l:List Nat):aC:=cQ 3 1 v l.length (l.map fun j:Nat=>.int .i64 (j:Int))
theorem kZ (h:aA A S w w'):aA (Sep A (dU (.slice none 0 0) [])) S w w':=h.more ⟨_,eW _ _ w',fun k hk=>hk.elim⟩ (Below.refl _ _)
theorem dJ (h:(dU v l).at_ S w):∃ a k,v=.slice a l.length k:=jZ h.1
theorem lK {a:Act} {Q:Exit→Act→World→Prop} {w0:World} (hgd:o.guard=none) (s x:Operand)
 (ho:o.op=.call {callee:=.builtin .append,args:=#[s,x],argTypes:=#[22,22]}) (h:aA (Sep A (dU v l)) S w0 w) (hs:a.eval s=v) (hx:a.eval x=.slice (some ⟨w.heap.size,0,none⟩) 1 1) (hn:l.length≤100000)
 (hk:∀ (na:Option Addr) (nc:Nat) (w':World),aA (Sep A (dU (.slice na (l.length+1) nc) (l++[j]))) S w0 w'→wpList prog ops Q rest (a.put o.dst (.slice na (l.length+1) nc)) w'):
 wpList prog ops Q (o::rest) a (w.alloc (.cells #[.int .i64 (j:Int)] 3)):=by
 obtain ⟨i0,hi,hz0,hz1,hz2⟩:=info_parts Tryz.info3
 refine bI hgd s x 22 ho 3 i0 (.int .i64 0) 1 8 underlying22 hi hz0 hz1 hz2 rfl (by decide) v l.length _ hs (h.r.is.1.alloc _) ⟨w.heap.size,0,none⟩ 1 1 [.int .i64 (j:Int)] hx rfl ?_ ?_ (by omega) (by decide) ?_
 · intro i u hi
   rw [bU,(Blk.new w _ _).cell,Nat.zero_add]
   simpa using hi
 · intro u hu;simp at hu;subst hu;rfl
 · intro v' w' h9 hgr hbk
   have g:=h.then (aH (fun S h=>bS (m:=1) (news:=[.int .i64 (j:Int)]) h ((Below.refl w.heap.size w).alloc (Nat.le_refl _) (.cells #[.int .i64 (j:Int)] 3)) h9 hgr (by simpa using hbk)))
   obtain ⟨na,nc,rfl⟩:=jZ h9
   exact hk na nc w' (by unfold dU;rw [List.map_append,List.length_append];exact g)
theorem numl_cell (h:aA (dU (.slice a n k) l) S w w') (hj:l[j]? = some x):∃ r,a=some ⟨r,0,none⟩∧w'.cell? ⟨r,j,none⟩=some (.int .i64 (x:Int)):=by
 rcases h.is.1.2 with ⟨_,e⟩|⟨g,cap,cur,e,_,h4,_,_,_,h8⟩
 · have:l=[]:=List.length_eq_zero_iff.1 e
   subst this;simp at hj
 · cases e
   refine ⟨g,rfl,?_⟩
   rw [Blk.cell h4,←Array.getElem?_toList]
   have hj2:j<l.length:=(List.getElem?_eq_some_iff.1 hj).1
   have:(cur.toList.take (l.length*1))[j]? = some (.int .i64 (x:Int)):=by rw [h8];simp [hj]
   rw [List.getElem?_take_of_lt (by omega)] at this
   exact this
def vwC (c:Cf) (hb g cap:Nat) (rv fr tv:Value) (i:Nat):Array Value:=#[.pointer (some ⟨hb,0,none⟩),.int .i64 c.frags,.int .i64 c.spine,.int .i64 c.globals,.int .i64 c.threads,.int .i64 c.locals,.int .i64 0,.int .i64 c.stack,.int .i64 c.low,.slice (some ⟨g,0,none⟩) c.shapes.length cap,
 .bool false,rv,.int .i64 (i:Int),.int .i64 0,.int .i64 0,fr,.int .i64 (-1),.int .i64 0,tv]
structure VwX where
 hb:Nat
 vb:Nat
 g:Nat
 cap:Nat
def Vw (X:VwX) (c:Cf) (rv:Value) (rl:List Bool) (fr:Value) (fl:List Nat) (tv:Value) (tl:List Nat) (i:Nat):aC:=
 Sep (Sep (Sep (Sep (Var X.vb (vwC c X.hb X.g X.cap rv fr tv i) 133) (aZ c X.g X.cap)) (dS rv rl)) (dU fr fl)) (dU tv tl)
structure AuH (H:aC) (c:Cf) (hb:Nat) (q:Sw.Q):Prop where
 peek:∀ k,k<c.words→∀ w,aJ prog 96 #[.pointer (some ⟨hb,0,none⟩),.int .i64 (k:Int)] w H (cx (q.m k).k (q.m k).i) H
 head:∀ i,i<c.frags→∀ w,aJ prog 97 #[.pointer (some ⟨hb,0,none⟩),.int .i64 (i:Int)] w H (.bool (q.t i).hd) H
 state:∀ i,i<c.frags→∀ w,aJ prog 26 #[.pointer (some ⟨hb,0,none⟩),.int .i64 (i:Int)] w H (.int .i64 ((q.t i).st:Int)) H
 conf:∀ w,aN prog 22 #[.pointer (some ⟨hb,0,none⟩)] w H (fun (v:Nat×Nat) e=>e=.returned (cfV c v.1 v.2)) (fun v=>Sep H (aZ c v.1 v.2))
def rfs (u:Sw.Wd):List Nat:=if 1≤u.k then [u.k-1] else []
section
variable {X:VwX} {fl:List Nat}
theorem vw_c (h:aA (Vw X c rv rl fr fl tv tl i) S w w'):w'.cell? ⟨X.vb,0,none⟩=some (.pointer (some ⟨X.hb,0,none⟩))∧w'.cell? ⟨X.vb,1,none⟩=some (.int .i64 c.frags)∧w'.cell? ⟨X.vb,2,none⟩=some (.int .i64 c.spine)∧w'.cell? ⟨X.vb,3,none⟩=some (.int .i64 c.globals)∧w'.cell? ⟨X.vb,4,none⟩=some (.int .i64 c.threads)∧
 w'.cell? ⟨X.vb,5,none⟩=some (.int .i64 c.locals)∧w'.cell? ⟨X.vb,6,none⟩=some (.int .i64 0)∧w'.cell? ⟨X.vb,7,none⟩=some (.int .i64 c.stack)∧w'.cell? ⟨X.vb,8,none⟩=some (.int .i64 c.low)∧w'.cell? ⟨X.vb,9,none⟩=some (.slice (some ⟨X.g,0,none⟩) c.shapes.length X.cap):=
 have g:=h.l.l.l.l
 ⟨g.vc 0 rfl,g.vc 1 rfl,g.vc 2 rfl,g.vc 3 rfl,g.vc 4 rfl,g.vc 5 rfl,g.vc 6 rfl,g.vc 7 rfl,g.vc 8 rfl,g.vc 9 rfl⟩
theorem aud_word (a:AuH H c X.hb q) (hc:c.ok) (hi:i<c.frags) (hk:k<8) (w:World):aJ prog 99 #[.pointer (some ⟨X.vb,0,none⟩),.int .i64 (i:Int),.int .i64 (k:Int)] w (Sep H (Vw X c rv rl fr fl tv tl i0)) (cx (q.m (i*8+k)).k (q.m (i*8+k)).i) (Sep H (Vw X c rv rl fr fl tv tl i0)):=by
 intro S h
 have g0:=aA.begin h
 obtain ⟨c0,c1,c2,c3,c4,c5,c6,c7,c8,c9⟩:=vw_c g0.r
 have HA:=zz (eQ i k hc g0.r.l.l.l.r.is hi hk)
 have HP:=zz fun w1 (gg:aA (Sep H (Vw X c rv rl fr fl tv tl i0)) S w w1)=>((a.peek (i*8+k) (by unfold Cf.words;omega) w1).l).on gg
 have G0:=zz g0
 unfold cfV at HA
 clear g0 h hc
 generalize cx (q.m (i*8+k)).k (q.m (i*8+k)).i=u at*
 go_enter func99,ntmps99
 go_wp2_with fail
 refine qz (HA.out) fun w1 hb=>?_
 have G1:=G0.out.below_ hb
 have HM:=zz (HP.out _ G1)
 rw [show (((i*8+k:Nat)):Int)=(i:Int)*8+k by omega] at HM
 have e0:=(vw_c G1.r).1
 clear c0 c1 c2 c3 c4 c5 c6 c7 c8 c9 G0 hb HA HP G1
 go_wp2_with fail
 refine qz (HM.out) fun w2 hg=>?_
 have G2:=zz hg
 clear hg HM e0
 go_wp2_with fail
 go_ret
 exact ⟨rfl,G2.out⟩
theorem aud_refers (h1:u.i=1) (hk:u.k≤63) (hl:tl.length≤1000) (w:World):aN prog 173 #[.pointer (some ⟨X.vb,0,none⟩),cx u.k u.i] w (Vw X c rv rl fr fl tv tl i) (fun (_:Value) e=>e=.returned (.bool true)) (fun tv'=>Vw X c rv rl fr fl tv' (tl++rfs u) i):=by
 intro S h
 have HI:=zz fun w=>cW u.k u.i w hk (by omega)
 have HS:=zz fun w=>word_is u.k u.i w hk (by omega)
 rw [h1] at HI HS ⊢
 have G0:=zz (aA.begin h)
 unfold rfs
 clear h h1
 by_cases h0:1≤u.k
 · obtain ⟨d,hd⟩:∃ d,d+1=u.k:=⟨u.k-1,by omega⟩
   have e1:ixI u.k 1=d:=by unfold ixI ixB;simp [h0];omega
   have e2:ixB u.k 1=true:=by unfold ixB;simp [h0]
   rw [e1,e2] at HI
   rw [if_pos h0,show u.k-1=d by omega]
   obtain ⟨ta,tc,rfl⟩:=dJ G0.out.r.is
   have c18:=G0.out.l.l.l.l.vC 18 (.slice ta tl.length tc)
   unfold cx at*
   clear e1 e2 h0 hd
   go_enter func173,ntmps173
   go_wp2_with fail
   refine qq (HI.out _) ?_
   go_wp2_with (at_builtin;refine lK (j:=d) rfl _ _ rfl G0.out rfl rfl (by omega) ?_)
   intro na nc w2 g2
   have g3:=g2.then (aG (aG (aG (aG (fun S h=>(aA.begin h).vput 18 (.slice na (tl.length+1) nc) (cs':=vwC c X.hb X.g X.cap rv fr (.slice na (tl.length+1) nc) i) rfl)))))
   have f18:=g2.l.l.l.l.vf 18
   have d18:=g2.l.l.l.l.vC 18 (.slice ta tl.length tc)
   have HG:=zz g3
   clear g2 g3 c18 G0
   go_wp2_with fail
   refine qq (HS.out _) ?_
   go_wp2_with fail
   go_ret
   exact ⟨.slice na (tl.length+1) nc,rfl,HG.out⟩
 · have e0:u.k=0:=by omega
   rw [if_neg h0,List.append_nil]
   rw [e0] at HI HS ⊢
   have e1:ixI 0 1=0:=rfl
   have e2:ixB 0 1=false:=rfl
   rw [e1,e2] at HI
   unfold cx at*
   clear e1 e2 h0 hk e0
   go_enter func173,ntmps173
   go_wp2_with fail
   refine qq (HI.out _) ?_
   go_wp2_with fail
   refine qq (HS.out _) ?_
   go_wp2_with fail
   go_ret
   exact ⟨tv,rfl,G0.out⟩
end
def rfN (m:Nat→Sw.Wd) (i:Nat) (l:List Bool):Nat→List Nat
 | 0=>[]
 | k+1=>rfN m i l k++if l[k]? = some true then rfs (m (i*8+(2+k))) else []
theorem rfs_len (u:Sw.Wd):(rfs u).length≤1:=by unfold rfs;split<;>simp
theorem rfN_len (m:Nat→Sw.Wd) (i:Nat) (l:List Bool):∀ k,(rfN m i l k).length≤k
 | 0=>Nat.le_refl 0
 | k+1=>by
  have:=rfN_len m i l k
  have h2:=rfs_len (m (i*8+(2+k)))
  simp only [rfN,List.length_append]
  split
  · omega
  · simp;omega
section
variable {X:VwX} {fl:List Nat} {B F T:aC}
theorem vw_fr (h:aA (Sep H (Sep (Sep B F) T)) S w w'):aA (Sep (Sep H (Sep B T)) F) S w w':=h.conv fun _ _ h=>aB.assoc' (aB.monoR (fun _ h=>aB.assoc' (aB.monoR (fun _ h=>aB.swap h) (aB.assoc h))) h)
theorem vw_rf (h:aA (Sep (Sep H (Sep B T)) F) S w w'):aA (Sep H (Sep (Sep B F) T)) S w w':=h.conv fun _ _ h=>aB.monoR (fun _ h=>aB.assoc' (aB.monoR (fun _ h=>aB.swap h) (aB.assoc h))) (aB.assoc h)
def ObR (X:VwX) (c:Cf) (q:Sw.Q) (rv:Value) (rl:List Bool) (i:Nat) (H:aC) (S:Nat→Prop) (w:World) (x3 j:Value) (wr:World):Prop:=
 (j=.int .i64 0∧x3=.int .i64 (i:Int)∧aA (Sep H (Vw X c rv rl (.slice none 0 0) [] (.slice none 0 0) [] i)) S w wr)∨(j=.int .i64 1∧∃ fr tv,aA (Sep H (Vw X c rv rl fr [i] tv (rfN q.m i rl rl.length) i)) S w wr)
theorem aud_object (a:AuH H c X.hb q) (hc:c.ok) (hrl:rl.length≤6) (hi:i<c.frags) (hw:∀ k,rl[k]? = some true→(q.m (i*8+(2+k))).i=1∧(q.m (i*8+(2+k))).k≤63) (w:World):
 aN prog 102 #[.pointer (some ⟨X.vb,0,none⟩)] w (Sep H (Vw X c rv rl (.slice none 0 0) [] (.slice none 0 0) [] i)) (fun (_:Value×Value) e=>e=.returned (.bool true)) (fun z=>Sep H (Vw X c rv rl z.1 [i] z.2 (rfN q.m i rl rl.length) i)):=by
 intro S h
 have g0:=aA.begin h
 obtain ⟨x,n',rfl⟩:=g0.r.l.l.r.is.1.slice
 have HZ:=zz fun w=>gW x rl.length n' w hrl
 have HP:=zz fun k w (hk:k<rl.length)=>fR x rl.length n' k w hrl hk
 have HW:=zz fun (k:Nat) (hk:k<8) fr fl tv tl w=>aud_word (i0:=i) (rv:=.slice x rl.length n') (rl:=rl) (fr:=fr) (fl:=fl) (tv:=tv) (tl:=tl) a hc hi hk w
 have HV:=zz hw
 have HL:=zz hrl
 have c12:=g0.r.l.l.l.l.vi 12 (i:Int)
 have c10:=g0.r.l.l.l.l.vb 10 false
 have c11:=g0.r.l.l.l.l.vC 11 (.slice x rl.length n')
 clear h hw hrl hc hi a
 go_enter func102,ntmps102
 go_wp2_with fail
 refine qz (HZ.out _) fun w1 hb=>?_
 have HG:=zz (g0.below_ hb)
 clear HZ hb g0 c12 c10 c11
 go_wp2_with fail
 go_loopw [3,4,5,6,7,8,9,10,11,22] (fun x3 _ _ _ _ _ _ _ _ j wr=>ObR X c q (.slice x rl.length n') rl i H S w x3 j wr) (fun _ _ _ _ _ _ _ _ _ j _=>1-(intOf j).toNat)
 case atStart=>exact .inl ⟨rfl,rfl,HG.out⟩
 case round=>
  clear HG
  rcases hrel with ⟨rfl,rfl,hg⟩|⟨rfl,fr,tv,hg⟩
  · have g1:=vw_fr hg
    have c15:=g1.l.r.l.l.l.vC 15 (.slice none 0 0)
    have G1:=zz g1
    clear hg g1
    go_wp2_with (at_builtin;refine lK (j:=i) rfl _ _ rfl G1.out rfl rfl (by simp) ?_)
    intro na nc w2 g2
    have g3:=vw_rf (g2.then (aG (aH (aG (aG (aG (fun S h=>(aA.begin h).vput 15 (.slice na (0+1) nc) (cs':=vwC c X.hb X.g X.cap (.slice x rl.length n') (.slice na 1 nc) (.slice none 0 0) i) rfl)))))))
    have f15:=g2.l.r.l.l.l.vf 15
    have d15:=g2.l.r.l.l.l.vC 15 (.slice none 0 0)
    have c11:=g2.l.r.l.l.l.vC 11 (.slice x rl.length n')
    have HG:=zz (show aA (Sep H (Vw X c (.slice x rl.length n') rl (.slice na 1 nc) [i] (.slice none 0 0) [] i)) S w _ from g3)
    clear g2 g3 c15 G1
    go_wp2_with fail
    go_loopw [7,8,9,10,11,56] (fun _ _ _ _ _ k wr=>∃ (kk:Nat) (tv:Value) (wx:World),wx=wr∧kk≤rl.length∧k=.int .i64 (kk:Int)∧aA (Sep H (Vw X c (.slice x rl.length n') rl (.slice na 1 nc) [i] tv (rfN q.m i rl kk) i)) S w wx) (fun _ _ _ _ _ k _=>rl.length-(intOf k).toNat)
    case atStart=>exact ⟨0,_,_,rfl,Nat.zero_le _,rfl,HG.out⟩
    case round=>
     clear HG f15 d15 c11
     obtain ⟨kk,tv,wr,rfl,hk,rfl,hg⟩:=hrel
     by_cases hlt:kk<rl.length
     · obtain ⟨b,hb⟩:∃ b,rl[kk]? = some b:=⟨_,List.getElem?_eq_getElem hlt⟩
       obtain ⟨r,hx,cr⟩:=hg.r.l.l.r.refs rfl hb
       subst hx
       have c10:=hg.r.l.l.l.l.vb 10 false
       have c11:=hg.r.l.l.l.l.vC 11 (.slice (some ⟨r,0,none⟩) rl.length n')
       have hki:(kk:Int)<(rl.length:Int):=by omega
       have hr6:(rl.length:Int)≤6:=by have:=HL.out;omega
       have HPC:=zz (HP.out kk wr hlt)
       have HG:=zz hg
       have HLT:=zz hlt
       have HB:=zz hb
       clear hg hk hlt hb
       cases b with
       | false=>
        go_wp2_with fail
        refine qz HPC.out fun w3 hb=>?_
        have HG2:=zz (HG.out.below_ hb)
        clear HPC HG hb c10 c11 cr
        go_wp2_with fail
        go_round
        case rel=>exact ⟨kk+1,tv,_,rfl,HLT.out,by go_num,by rw [rfN,if_neg (by rw [HB.out];simp),List.append_nil];exact HG2.out⟩
        case measure=>have:=HLT.out;simp [intOf];omega
       | true=>
        go_wp2_with fail
        refine qz HPC.out fun w3 hb=>?_
        have g4:=HG.out.below_ hb
        have hk8:2+kk<8:=by have:=HL.out;have:=HLT.out;omega
        have HWC:=zz ((HW.out (2+kk) hk8 _ _ _ _ _).on g4)
        rw [show ((2+kk:Nat):Int)=2+(kk:Int) by omega] at HWC
        clear HPC HG hb c10 c11 cr g4 hk8
        go_wp2_with fail
        refine qz HWC.out fun w4 hg=>?_
        have hl:=rfN_len q.m i rl kk
        have HRC:=zz ((aud_refers (HV.out kk HB.out).1 (HV.out kk HB.out).2 (by have:=HL.out;have:=HLT.out;omega) _).r.on hg)
        clear HWC hg hl
        go_wp2_with fail
        with_reducible refine HRC.out.mono ?_
        rintro e w5 ⟨tv',rfl,hg⟩
        have HG2:=zz hg
        clear HRC hg
        go_wp2_with fail
        go_round
        case rel=>exact ⟨kk+1,tv',_,rfl,HLT.out,by go_num,by rw [rfN,if_pos HB.out];exact HG2.out⟩
        case measure=>have:=HLT.out;simp [intOf];omega
     · obtain rfl:kk=rl.length:=by omega
       have HG:=zz hg
       clear hg hk hlt
       go_wp2_with fail
       go_round
       case rel=>exact .inr ⟨by go_num,_,_,HG.out⟩
       case measure=>simp [intOf]
  · have HG:=zz hg
    clear hg
    go_wp2_with fail
    go_ret
    exact ⟨(fr,tv),rfl,HG.out⟩
end
end
section
attribute [local go_sem] aF
open Go.Proofs.Tryz
open Go.RowKit
variable {args:Array Value} {cur s:Bool} {c:Cf} {f:FuncId} {b bs bt g j k n:Nat} {fr:Nat→Bool} {S:Nat→Prop} {ln ln':Option Sw.Rq} {x:SpX} {q q':Sw.Q} {A:aC} {v:Value} {w w':World}
def cE (c:Cf) (x:SpX):Array Value:=#[.int .i64 c.frags,.int .i64 c.spine,.int .i64 c.globals,.int .i64 c.threads,.int .i64 c.locals,.int .i64 0,.int .i64 c.stack,.int .i64 c.low,.slice (some ⟨x.g,0,none⟩) c.shapes.length x.cap,
 .pointer (some ⟨x.p,0,none⟩),.pointer (some ⟨x.k,0,none⟩),.pointer (some ⟨x.w,0,none⟩)]
def shV (c:Cf) (x:SpX):Value:=.agg (cE c x)
section
theorem sp_ln (h:aJ prog f args w (LnQ x.w ln) v (LnQ x.w ln')):aJ prog f args w (Sp b bt c fr ln x) v (Sp b bt c fr ln' x):=h.l.r.r.r.r
theorem sp_begin (w:World):aJ prog 125 #[.pointer (some ⟨b,0,none⟩)] w (SpQ b bt c q) (.tuple #[]) (SpQ b bt c {q with ln:=q.ln.map fun r=>{r with nt:=r.st==0}}):=by
 rintro S ⟨x,h⟩
 have g0:=aA.begin h
 have c3:=g0.ci 3 x.ct
 have f3:=g0.fr 3
 have g1:=g0.put 3 (.int .i64 (wrap64 (x.ct+1))) (cs':=dG c bt {x with ct:=wrap64 (x.ct+1)}) rfl
 have d2:=g1.cb 2 false
 have f2:=g1.fr 2
 have g2:=g1.put 2 (.bool false) (cs':=dG c bt {x with ct:=wrap64 (x.ct+1)}) rfl
 have d15:=g2.cp 15 x.w
 have HL:=zz ((sp_ln (b:=b) (bt:=bt) (c:=c) (fr:=q.fr) (x:={x with ct:=wrap64 (x.ct+1)}) (lq_begin (b:=x.w) (ln:=q.ln) _)).on g2)
 clear g0 g1 g2 h
 go_enter func125,ntmps125
 go_wp2_with fail
 refine qz HL.out fun w2 hg=>?_
 have HG:=zz hg
 clear HL hg c3 f3 f2 d2 d15
 go_wp2_with fail
 go_end0
 exact ⟨rfl,HG.out.conv fun _ _ h=>⟨_,h⟩⟩
theorem sp_end (hcy:∀ r,q.ln=some r→r.cy≤1000) (w:World):aJ prog 143 #[.pointer (some ⟨b,0,none⟩)] w (SpQ b bt c q) (.tuple #[]) (SpQ b bt c {q with ln:=q.ln.map fun r=>{r with cy:=if r.nt&&r.st==0 then r.cy+1 else r.cy,nt:=false}}):=by
 rintro S ⟨x,h⟩
 have g0:=aA.begin h
 have c3:=g0.ci 3 x.ct
 have f3:=g0.fr 3
 have g1:=g0.put 3 (.int .i64 (wrap64 (x.ct+1))) (cs':=dG c bt {x with ct:=wrap64 (x.ct+1)}) rfl
 have d15:=g1.cp 15 x.w
 have HL:=zz ((sp_ln (b:=b) (bt:=bt) (c:=c) (fr:=q.fr) (x:={x with ct:=wrap64 (x.ct+1)}) (lq_end (b:=x.w) (ln:=q.ln) hcy _)).on g1)
 clear g0 g1 h hcy
 go_enter func143,ntmps143
 go_wp2_with fail
 refine qz HL.out fun w2 hg=>?_
 have HG:=zz hg
 clear HL hg c3 f3 d15
 go_wp2_with fail
 go_end0
 exact ⟨rfl,HG.out.conv fun _ _ h=>⟨_,h⟩⟩
theorem co_turn (hs:n≤2048) (w:World):aJ prog 202 #[.pointer (some ⟨b,0,none⟩)] w (fZ b (n:Int) ⟨cur,0,0,0⟩) (.bool true) (fZ b (n:Int) ⟨!cur,0,0,0⟩):=by
 intro S h
 have:=coil_turn (c:=⟨cur,0,0,0⟩) (by simp [iG,Cs.here];omega) (by simp [Cs.there]) h
 simpa [Cs.turn,Cs.here] using this
theorem co_done (w:World):aJ prog 204 #[.pointer (some ⟨b,0,none⟩)] w (fZ b (n:Int) ⟨cur,0,0,0⟩) (.bool true) (fZ b (n:Int) ⟨cur,0,0,0⟩):=by
 intro S h
 have:=coil_done (c:=⟨cur,0,0,0⟩) rfl h
 simpa [Cs.done] using this
theorem tq_set0 (hk:k<c.frags) (w:World):aJ prog 256 #[.pointer (some ⟨bt,0,none⟩),.int .i64 (k:Int),.int .i64 0,.bool false,.bool false] w (ShQ bs bt c q) (.bool true) (ShQ bs bt c {q with t:=Sw.set q.t k ⟨0,false,false⟩}):=tq_set (st:=0) hk (by decide) w
theorem sp_turn (hc:c.ok) (w:World):aJ prog 136 #[.pointer (some ⟨b,0,none⟩)] w (SpQ b bt c q) (.bool true) (SpQ b bt c q):=by
 rintro S ⟨x,h⟩
 have g0:=aA.begin h
 have c3:=g0.ci 3 x.ct
 have f3:=g0.fr 3
 have g1:=g0.put 3 (.int .i64 (wrap64 (x.ct+1))) (cs':=dG c bt {x with ct:=wrap64 (x.ct+1)}) rfl
 have d14:=g1.cp 14 x.k
 have hs:=hc.spine
 have HL:=zz ((co_turn (b:=x.k) (cur:=x.cur) hs _).l.r.r.r.on g1)
 clear g0 g1 h hs
 go_enter func136,ntmps136
 go_wp2_with fail
 refine qz HL.out fun w2 hg=>?_
 have HG:=zz hg
 clear HL hg c3 f3 d14
 go_wp2_with fail
 go_ret
 exact ⟨rfl,HG.out.conv fun _ _ h=>⟨{x with ct:=wrap64 (x.ct+1),cur:=!x.cur},h⟩⟩
theorem sp_done (w:World):aJ prog 141 #[.pointer (some ⟨b,0,none⟩)] w (SpQ b bt c q) (.bool true) (SpQ b bt c q):=by
 rintro S ⟨x,h⟩
 have g0:=aA.begin h
 have c3:=g0.ci 3 x.ct
 have f3:=g0.fr 3
 have g1:=g0.put 3 (.int .i64 (wrap64 (x.ct+1))) (cs':=dG c bt {x with ct:=wrap64 (x.ct+1)}) rfl
 have d14:=g1.cp 14 x.k
 have HL:=zz ((co_done (b:=x.k) (cur:=x.cur) _).l.r.r.r.on g1)
 clear g0 g1 h
 go_enter func141,ntmps141
 go_wp2_with fail
 refine qz HL.out fun w2 hg=>?_
 have HG:=zz hg
 clear HL hg c3 f3 d14
 go_wp2_with fail
 go_ret
 exact ⟨rfl,HG.out.conv fun _ _ h=>⟨_,h⟩⟩
theorem pl_give (hk:k<n) (hn:n≤1024) (hf:fr k=false) (w:World):aJ prog 257 #[.pointer (some ⟨b,0,none⟩),.int .i64 (k:Int)] w (dP b g n fr) (.bool true) (dP b g n (Sw.set fr k true)):=by
 intro S h
 have:=pool_give (k:Int) hn h
 have e:gB n fr (k:Int)=true:=by rw [gB_in hk,hf];rfl
 rw [gF,if_pos e,e] at this
 exact this
theorem two_l (h:aJ prog f args w (ShQ bs bt c q) v (ShQ bs bt c q')) (e1:q'.fr=q.fr) (e2:q'.ln=q.ln):aJ prog f args w (cV bs b bt c q x) v (cV bs b bt c q' x):=by
 unfold cV;rw [e1,e2];exact h.l
theorem sp_frees (hk:k<c.frags) (hf:q.fr k=false) (hc:c.ok) (w:World):aJ prog 205 #[.pointer (some ⟨b,0,none⟩),.int .i64 (k:Int)] w (cV bs b bt c q x) (.tuple #[]) (cV bs b bt c {q with t:=Sw.set q.t k ⟨0,false,false⟩,fr:=Sw.set q.fr k true} x):=by
 intro S h
 have g0:=aA.begin h
 have c0:=g0.r.cp 0 bt
 have HL:=zz ((two_l (b:=b) (x:=x) (tq_set0 (bs:=bs) (bt:=bt) (q:=q) hk _) rfl rfl).on g0)
 have HC:=zz (And.intro hc (And.intro hk hf))
 clear g0 h hc hk hf
 go_enter func205,ntmps205
 go_wp2_with fail
 refine qz HL.out fun w2 hg=>?_
 have c13:=hg.r.cp 13 x.p
 have HP:=zz ((pl_give (b:=x.p) (g:=x.pg) (fr:=q.fr) HC.out.2.1 HC.out.1.frags.2 HC.out.2.2 _).l.r.r.r.on hg)
 clear hg HL c0
 go_wp2_with fail
 refine qz HP.out fun w3 hg=>?_
 have HG:=zz hg
 clear hg HP c13
 go_wp2_with fail
 go_end0
 exact ⟨rfl,HG.out⟩
end
section
variable {t:Nat} {T:Nat→Nat}
theorem dX (h:aA (cV bs b bt c q x) S w w'):aA (cV bs b bt c q {x with ct:=wrap64 (x.ct+1)}) S w (w'.setCell ⟨b,3,none⟩ (.int .i64 (wrap64 (x.ct+1)))):=
 h.then (aH (fun S h=>(aA.begin h).put 3 (.int .i64 (wrap64 (x.ct+1))) (cs':=dG c bt {x with ct:=wrap64 (x.ct+1)}) rfl))
theorem sp_sweep0 (hk:k<c.frags) (h0:¬((q.t k).st=2∧q.blk k s=false)) (w:World):aJ prog 142 #[.pointer (some ⟨b,0,none⟩),.int .i64 (k:Int),.bool s] w (Two bs b bt c q) (.bool false) (Two bs b bt c q):=by
 intro S h
 obtain ⟨x,h⟩:=dY h
 have g0:=aA.begin h
 have c3:=g0.r.ci 3 x.ct
 have f3:=g0.r.fr 3
 have g1:=dX g0
 have c0:=g1.r.cp 0 bt
 have HL:=zz ((two_l (b:=b) (x:={x with ct:=wrap64 (x.ct+1)}) (tq_state (b:=bs) (bt:=bt) (q:=q) hk _) rfl rfl).on g1)
 have HC:=zz hk
 clear g0 g1 h hk
 go_enter func142,ntmps142
 go_wp2_with fail
 refine qz HL.out fun w2 hg=>?_
 have d0:=hg.r.cp 0 bt
 have HB:=zz ((two_l (b:=b) (x:={x with ct:=wrap64 (x.ct+1)}) (tq_black (b:=bs) (bt:=bt) (q:=q) (s:=s) HC.out _) rfl rfl).on hg)
 have HG:=zz hg
 clear hg HL c0 c3 f3
 by_cases h2:(q.t k).st=2
 · have hb:q.blk k s=true:=by
    cases hb:q.blk k s with
    | true=>rfl
    | false=>exact absurd ⟨h2,hb⟩ h0
   rw [hb] at HB
   clear h0 hb
   generalize (q.t k).st=st at*
   subst h2
   go_wp2_with fail
   refine qz HB.out fun w3 hg=>?_
   have HG3:=zz hg
   clear hg HB HG d0
   go_wp2_with fail
   go_ret
   exact ⟨rfl,eT HG3.out⟩
 · clear HB
   generalize (q.t k).st=st at*
   have hk2:¬((st:Int)=2):=by omega
   go_wp2_with fail
   go_ret
   exact ⟨rfl,eT HG.out⟩
theorem sp_sweep1 (hk:k<c.frags) (h2:(q.t k).st=2) (hb:q.blk k s=false) (hf:q.fr k=false) (hc:c.ok) (w:World):aJ prog 142 #[.pointer (some ⟨b,0,none⟩),.int .i64 (k:Int),.bool s] w (Two bs b bt c q) (.bool true) (Two bs b bt c {q with t:=Sw.set q.t k ⟨0,false,false⟩,fr:=Sw.set q.fr k true}):=by
 intro S h
 obtain ⟨x,h⟩:=dY h
 have g0:=aA.begin h
 have c3:=g0.r.ci 3 x.ct
 have f3:=g0.r.fr 3
 have g1:=dX g0
 have c0:=g1.r.cp 0 bt
 have HL:=zz ((two_l (b:=b) (x:={x with ct:=wrap64 (x.ct+1)}) (tq_state (b:=bs) (bt:=bt) (q:=q) hk _) rfl rfl).on g1)
 have HC:=zz (And.intro hk (And.intro hf hc))
 rw [h2] at HL
 clear g0 g1 h hk hf hc h2
 go_enter func142,ntmps142
 go_wp2_with fail
 refine qz HL.out fun w2 hg=>?_
 have d0:=hg.r.cp 0 bt
 have HB:=zz ((two_l (b:=b) (x:={x with ct:=wrap64 (x.ct+1)}) (tq_black (b:=bs) (bt:=bt) (q:=q) (s:=s) HC.out.1 _) rfl rfl).on hg)
 rw [hb] at HB
 clear hg HL c0 c3 f3 hb
 go_wp2_with fail
 refine qz HB.out fun w3 hg=>?_
 have HF:=zz ((sp_frees (b:=b) (x:={x with ct:=wrap64 (x.ct+1)}) HC.out.1 HC.out.2.1 HC.out.2.2 _).on hg)
 clear hg HB d0
 go_wp2_with fail
 refine qz HF.out fun w4 hg=>?_
 have HG4:=zz hg
 clear hg HF
 go_wp2_with fail
 go_ret
 exact ⟨rfl,eT HG4.out⟩
theorem sp_born (hk:k<c.frags) (h2:(q.t k).st=2) (hd:(q.t k).hd=false) (w:World):aJ prog 234 #[.pointer (some ⟨b,0,none⟩),.int .i64 (k:Int)] w (Two bs b bt c q) (.bool true) (Two bs b bt c {q with t:=Sw.set q.t k {q.t k with hd:=true}}):=by
 intro S h
 obtain ⟨x,h⟩:=dY h
 have g0:=aA.begin h
 have c3:=g0.r.ci 3 x.ct
 have f3:=g0.r.fr 3
 have g1:=dX g0
 have c0:=g1.r.cp 0 bt
 have HL:=zz ((two_l (b:=b) (x:={x with ct:=wrap64 (x.ct+1)}) (tq_born (b:=bs) (bt:=bt) (q:=q) hk h2 hd _) rfl rfl).on g1)
 clear g0 g1 h hk h2 hd
 go_enter func234,ntmps234
 go_wp2_with fail
 refine qz HL.out fun w2 hg=>?_
 have HG:=zz hg
 clear hg HL c0 c3 f3
 go_wp2_with fail
 go_ret
 exact ⟨rfl,eT HG.out⟩
theorem updT_same {T:Nat→aC}:kM T j (T j)=T:=by funext k;unfold kM;split<;>simp_all
theorem stks_on (ht:t<c.threads) (h:aJ prog f args w (Stk (x.T t)) v (Stk (x.T t))):aJ prog f args w (Stks x c.threads) v (Stks x c.threads):=by
 have h:=(aN.r (B:=Seq 1 x.sv c.threads (ptrs x.T c.threads)) h.does).all (T:=fun j=>Stk (x.T j)) ht
 rw [show kM (fun j=>Stk (x.T j)) t (Stk (x.T t))=fun j=>Stk (x.T j) from updT_same] at h
 exact fun S hs=>(h S hs).mono fun _ _ ⟨_,he,hg⟩=>⟨he,hg⟩
theorem sp_stock (ht:t<c.threads) (h:(Sp b bt c fr ln x).at_ S w):
 Calls prog 215 #[.pointer (some ⟨b,0,none⟩),.int .i64 (t:Int)] w fun e w'=>e=.returned (.pointer (some ⟨x.T t,0,none⟩))∧w=w':=by
 have g0:=aA.begin h
 have hq:=g0.r.r.r.r.r.l
 obtain ⟨gs,o,cap,hv,h1,h2⟩:=bN hq.is
 have c1:=g0.cC 1 x.sv
 rw [hv] at hq c1
 have cc:=hq.seq (i:=t) (x:=.pointer (some ⟨x.T t,0,none⟩)) (by simp [ptrs,ht])
 clear g0 h hq hv
 generalize c.threads=n at*
 go_enter func215,ntmps215
 go_wp2_with fail
 go_ret
 exact ⟨rfl,rfl⟩
theorem sp_drain (ht:t<c.threads) (w:World):aJ prog 147 #[.pointer (some ⟨b,0,none⟩),.int .i64 (t:Int)] w (SpQ b bt c q) (.int .i64 0) (SpQ b bt c q):=by
 rintro S ⟨x,h⟩
 have g0:=aA.begin h
 have c3:=g0.ci 3 x.ct
 have f3:=g0.fr 3
 have g1:aA (Sp b bt c q.fr q.ln {x with ct:=wrap64 (x.ct+1)}) S w (w.setCell ⟨b,3,none⟩ (.int .i64 (wrap64 (x.ct+1)))):=(aA.begin h).put 3 (.int .i64 (wrap64 (x.ct+1))) (cs':=dG c bt {x with ct:=wrap64 (x.ct+1)}) rfl
 have HS:=zz (g1.look fun S h=>sp_stock ht h)
 have HD:=zz ((stks_on ht (fun S h=>stock_drain h)).r.r.r.r.r.on g1)
 clear g0 g1 h
 go_enter func147,ntmps147
 go_wp2_with fail
 refine qq HS.out ?_
 clear HS
 go_wp2_with fail
 refine qz HD.out fun w2 hg=>?_
 have HG:=zz hg
 clear hg HD c3 f3
 go_wp2_with fail
 go_loop [8,25] (fun _ i=>i=.int .i64 0) (fun _ _=>0)
 case atStart=>exact rfl
 case round=>
  obtain rfl:=hrel
  go_wp2_with fail
  go_ret
  exact ⟨rfl,HG.out.conv fun S w h=>⟨_,h⟩⟩
end
end
section
open Go.RowKit
variable {a:Act} {args:Array Value} {f:FuncId} {l:List Oper} {id:Nat} {S:Nat→Prop} {P:Program} {O:aC} {v:Value} {w:World}
structure In (O:aC) (S:Nat→Prop) (w0:World) where
 w:World
 h:aA O S w0 w
section
variable {w0:World}
theorem In.call {i:In O S w0} (h:∀ w1,aA O S w0 w1→Calls P f args w1 fun e w2=>e=.returned v∧aA O S w0 w2):Calls P f args i.w fun e w2=>e=.returned v∧∃ j:In O S w0,w2=j.w:=
 (h i.w i.h).mono fun _ w2 ⟨he,hg⟩=>⟨he,⟨w2,hg⟩,rfl⟩
theorem bL {Q:Exit→Act→World→Prop} (hm:P.follows .mixedOrders=true) (hB:Region.lexB .any l.toArray=true) (hg:aA O S w0 w.drew)
 (h:wpQuiet P l.toArray (fun w'=>∃ i:In O S w0,w'=i.w) (fun a'=>∀ w',aA O S w0 w'→Q .normal a' w') l a):(Code.region id l.toArray true).wp P Q a w:=by
 refine wp_region_quiet (C:=fun w'=>∃ i:In O S w0,w'=i.w) hm hB ⟨⟨_,hg⟩,rfl⟩ ?_
 have e:(fun a'=>∀ w',aA O S w0 w'→Q .normal a' w')=fun a'=>∀ w',(∃ i:In O S w0,w'=i.w)→Q .normal a' w':=by
  funext a';apply propext
  exact ⟨fun h w' ⟨i,hi⟩=>h w' (hi▸i.h),fun h w' hg=>h w' ⟨⟨w',hg⟩,rfl⟩⟩
 rw [←e]
 simpa using h
end
end
section
attribute [local go_sem] aF
open Go.Proofs.Tryz
open Go.RowKit
variable {args:Array Value} {s:Bool} {c:Cf} {f:FuncId} {fr:Nat→Bool} {S:Nat→Prop} {ln ln':Option Sw.Rq} {x:SpX} {q:Sw.Q} {A:aC} {v:Value} {w w':World}
section
variable {b bs bt g n k t:Nat} {T:Nat→Nat}
theorem sh_free (w:World):aJ prog 124 #[shV c x] w (dP x.p g n fr) (.int .i64 (cF n fr)) (dP x.p g n fr):=by
 intro S h
 have hb:=(Below.refl w.heap.size w).alloc (Nat.le_refl _) (.cells (cE c x) 196)
 have D0:=Blk.new w (cE c x) 196
 have c9:=D0.cell 9
 have HL:=zz ((aJ.look fun S h=>pool_free h).on (aA.later h hb))
 clear hb D0
 unfold shV
 simp only [cE] at*
 simp at c9
 clear h
 go_enter func124,ntmps124
 go_wp2_with fail
 refine qz HL.out fun w2 hg=>?_
 have HG:=zz hg
 clear HL hg
 go_wp2_with fail
 go_ret
 exact ⟨rfl,HG.out⟩
theorem sh_waits (w:World):aJ prog 123 #[shV c x] w (LnQ x.w ln) (.int .i64 (if lnW ln then 1 else 0)) (LnQ x.w ln):=by
 intro S h
 have hb:=(Below.refl w.heap.size w).alloc (Nat.le_refl _) (.cells (cE c x) 196)
 have D0:=Blk.new w (cE c x) 196
 have c11:=D0.cell 11
 have HL:=zz ((lq_waits _).on (aA.later h hb))
 clear hb D0
 generalize (if lnW ln then 1 else 0:Int)=z at*
 unfold shV
 simp only [cE] at*
 simp at c11
 clear h
 go_enter func123,ntmps123
 go_wp2_with fail
 refine qz HL.out fun w2 hg=>?_
 have HG:=zz hg
 clear HL hg
 go_wp2_with fail
 go_ret
 exact ⟨rfl,HG.out⟩
theorem sp12 (h:aA (Sep (Var b (dG c bt x) 198) A) S w w'):w'.cell? ⟨b,4,none⟩=some (.int .i64 c.frags)∧w'.cell? ⟨b,5,none⟩=some (.int .i64 c.spine)∧w'.cell? ⟨b,6,none⟩=some (.int .i64 c.globals)∧w'.cell? ⟨b,7,none⟩=some (.int .i64 c.threads)∧
 w'.cell? ⟨b,8,none⟩=some (.int .i64 c.locals)∧w'.cell? ⟨b,9,none⟩=some (.int .i64 0)∧w'.cell? ⟨b,10,none⟩=some (.int .i64 c.stack)∧w'.cell? ⟨b,11,none⟩=some (.int .i64 c.low)∧w'.cell? ⟨b,12,none⟩=some (.slice (some ⟨x.g,0,none⟩) c.shapes.length x.cap)∧
 w'.cell? ⟨b,13,none⟩=some (.pointer (some ⟨x.p,0,none⟩))∧w'.cell? ⟨b,14,none⟩=some (.pointer (some ⟨x.k,0,none⟩))∧w'.cell? ⟨b,15,none⟩=some (.pointer (some ⟨x.w,0,none⟩)):=
 ⟨h.c 4 rfl,h.c 5 rfl,h.c 6 rfl,h.c 7 rfl,h.c 8 rfl,h.c 9 rfl,h.c 10 rfl,h.c 11 rfl,h.c 12 rfl,h.c 13 rfl,h.c 14 rfl,h.c 15 rfl⟩
theorem sp_wants (w:World):aJ prog 64 #[.pointer (some ⟨b,0,none⟩)] w (SpQ b bt c q) (.bool (lnW q.ln||decide (cF c.frags q.fr<c.low))) (SpQ b bt c q):=by
 rintro S ⟨x,h⟩
 have g0:=aA.begin h
 have c3:=g0.ci 3 x.ct
 have f3:=g0.fr 3
 have g1:aA (Sp b bt c q.fr q.ln {x with ct:=wrap64 (x.ct+1)}) S w (w.setCell ⟨b,3,none⟩ (.int .i64 (wrap64 (x.ct+1)))):=(aA.begin h).put 3 (.int .i64 (wrap64 (x.ct+1))) (cs':=dG c bt {x with ct:=wrap64 (x.ct+1)}) rfl
 have HG:=zz g1.drew_
 clear g0 g1 h
 generalize hx1:({x with ct:=wrap64 (x.ct+1)}:SpX)=x1 at HG
 clear hx1
 have hfin:=zz fun w' (hg:aA (Sp b bt c q.fr q.ln x1) S w w')=>(hg.conv fun S w h=>⟨x1,h⟩:aA (SpQ b bt c q) S w w')
 have hne:Nonempty (In (Sp b bt c q.fr q.ln x1) S w):=⟨⟨_,HG.out⟩⟩
 have HW:=zz fun w1 (hg:aA (Sp b bt c q.fr q.ln x1) S w w1)=>hg.call (cY (cY (cY (cY (bR (sh_waits (c:=c) (x:=x1) (ln:=q.ln) w1))))))
 have HF:=zz fun w1 (hg:aA (Sp b bt c q.fr q.ln x1) S w w1)=>hg.call (cY (cY (bR (sh_free (c:=c) (x:=x1) (fr:=q.fr) (n:=c.frags) w1))))
 have ee:=fun i:In (Sp b bt c q.fr q.ln x1) S w=>sp12 i.h
 have e2:=fun i:In (Sp b bt c q.fr q.ln x1) S w=>i.h.cb 2 false
 have e4:=fun i=>(ee i).1
 have e5:=fun i=>(ee i).2.1
 have e6:=fun i=>(ee i).2.2.1
 have e7:=fun i=>(ee i).2.2.2.1
 have e8:=fun i=>(ee i).2.2.2.2.1
 have e9:=fun i=>(ee i).2.2.2.2.2.1
 have e10:=fun i=>(ee i).2.2.2.2.2.2.1
 have e11:=fun i=>(ee i).2.2.2.2.2.2.2.1
 have e12:=fun i=>(ee i).2.2.2.2.2.2.2.2.1
 have e13:=fun i=>(ee i).2.2.2.2.2.2.2.2.2.1
 have e14:=fun i=>(ee i).2.2.2.2.2.2.2.2.2.2.1
 have e15:=fun i=>(ee i).2.2.2.2.2.2.2.2.2.2.2
 clear ee
 unfold shV cE at HW HF
 generalize cF c.frags q.fr=k at*
 cases hw:lnW q.ln
 · simp only [hw,if_false,Bool.false_or,Bool.false_eq_true] at HW ⊢
   clear hw
   by_cases hk:(k:Int)<(c.low:Int)
   · have hk':decide ((k:Int)<(c.low:Int))=true:=by simpa using hk
     have hk2:decide (k<c.low)=true:=by simp;omega
     rw [hk2];clear hk2
     have hk2:k<c.low:=by omega
     go_enter func64,ntmps64
     go_wp2_with fail
     refine bL (by kernel_rfl) (by kernel_rfl) HG.out ?_
     repeat (go_big_quiet_step (first|exact In.call HW.out|exact In.call HF.out))
     refine wpQuiet_nil ?_
     intro w7 G7
     have G8:=zz (hfin.out _ G7)
     clear G7 e2 e4 e5 e6 e7 e8 e9 e10 e11 e12 e13 e14 e15 HW HF hfin HG
     go_wp2_with fail
     go_ret
     exact ⟨rfl,G8.out⟩
   · have hk':decide ((k:Int)<(c.low:Int))=false:=by simpa using hk
     have hk2:decide (k<c.low)=false:=by simp;omega
     rw [hk2];clear hk2
     have hk2:¬k<c.low:=by omega
     go_enter func64,ntmps64
     go_wp2_with fail
     refine bL (by kernel_rfl) (by kernel_rfl) HG.out ?_
     repeat (go_big_quiet_step (first|exact In.call HW.out|exact In.call HF.out))
     refine wpQuiet_nil ?_
     intro w7 G7
     have G8:=zz (hfin.out _ G7)
     clear G7 e2 e4 e5 e6 e7 e8 e9 e10 e11 e12 e13 e14 e15 HW HF hfin HG
     go_wp2_with fail
     go_ret
     exact ⟨rfl,G8.out⟩
 · simp only [hw,if_true,Bool.true_or] at HW ⊢
   clear hw HF
   go_enter func64,ntmps64
   go_wp2_with fail
   refine bL (by kernel_rfl) (by kernel_rfl) HG.out ?_
   repeat (go_big_quiet_step (first|exact In.call HW.out))
   refine wpQuiet_nil ?_
   intro w7 G7
   have G8:=zz (hfin.out _ G7)
   clear G7 e2 e4 e5 e6 e7 e8 e9 e10 e11 e12 e13 e14 e15 HW hfin HG
   go_wp2_with fail
   go_ret
   exact ⟨rfl,G8.out⟩
end
end
end Go.Proofs.YtgcmiahhkalfmaaGreat
