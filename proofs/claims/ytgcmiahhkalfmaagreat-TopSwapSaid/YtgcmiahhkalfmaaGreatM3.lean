import Derived.Test.YtgcmiahhkalfmaaGreatM2
import Derived.Test.YtgcmiahhkalfmaaGreatProg
import Derived.BigQuiet
import Derived.StillTailTactics
import Derived.RegionTactic
import Derived.BigRegion
import Derived.Deep.DeepCutAuto
import Derived.WalkSpells
import Derived.WalkLawsBesides
import Derived.Laws.Rows
set_option maxRecDepth 100000
set_option maxHeartbeats 8000000
set_option linter.unusedVariables false
set_option linter.unusedSimpArgs false
namespace Go.Proofs.YtgcmiahhkalfmaaGreat
open Go.Proofs.Tryz
open Go.RowKit
variable {cs:Array Value} {a:Bool} {s:Bool×List Bool} {l:List Bool} {xs:List Value} {B base cap g i k n q r:Nat} {S S7:Nat→Prop} {e t:TypeId} {u v v':Value} {w w' w1 wr:World}
theorem bK (h:w.ownsRow base e 1 v n xs):∃ a cap,v=.slice a n cap∧n≤cap∧cap≤maxLen:=by
 rcases h.2 with ⟨rfl,rfl⟩|⟨g,cap,cur,rfl,_,_,h1,h2,_⟩
 · exact ⟨none,0,rfl,Nat.le_refl _,Nat.zero_le _⟩
 · exact ⟨some ⟨g,0,none⟩,cap,rfl,h1,h2⟩
theorem Tryz.info3:(prog.info? 3).map (fun i=>(i.zero,i.size,i.bytes))=some (some (.int .i64 0),1,8):=by kernel_rfl
theorem Tryz.info55:(prog.info? 55).map (fun i=>(i.zero,i.size,i.bytes))=some (some (.agg #[.bool false,.slice none 0 0]),2,32):=by kernel_rfl
theorem Tryz.info4:(prog.info? 4).map (fun i=>(i.zero,i.size,i.bytes))=some (some (.bool false),1,1):=by kernel_rfl
structure Cf where
 frags:Nat
 spine:Nat
 globals:Nat
 threads:Nat
 locals:Nat
 stack:Nat
 low:Nat
 shapes:List (Bool×List Bool)
structure Cf.ok (c:Cf):Prop where
 frags:4≤c.frags∧c.frags≤1024
 spine:c.spine≤2048
 globals:c.globals≤8
 threads:1≤c.threads∧c.threads≤16
 locals:1≤c.locals∧c.locals≤8
 stack:1≤c.stack∧c.stack≤256
 low:c.low≤c.frags
 shapes:1≤c.shapes.length∧c.shapes.length≤8
 shape:∀ s∈c.shapes,s.2.length≤6∧(s.1=true→s.2.length=1)
def Cf.vs (c:Cf) (sl:Value):List Value:=[.int .i64 c.frags,.int .i64 c.spine,.int .i64 c.globals,.int .i64 c.threads,.int .i64 c.locals,.int .i64 0,.int .i64 c.stack,.int .i64 c.low,sl]
def cfV (c:Cf) (g cap:Nat):Value:=.agg #[.int .i64 c.frags,.int .i64 c.spine,.int .i64 c.globals,.int .i64 c.threads,.int .i64 c.locals,.int .i64 0,.int .i64 c.stack,.int .i64 c.low,.slice (some ⟨g,0,none⟩) c.shapes.length cap]
def cL (v:Value) (l:List Bool) (S:Nat→Prop) (w:World):Prop:=
 (l=[]∧v=.slice none 0 0)∨∃ (r cap:Nat) (cs:Array Value) (t:TypeId),l≠[]∧v=.slice (some ⟨r,0,none⟩) l.length cap∧l.length≤cap∧cap≤maxLen∧S r∧Blk w r cs t∧∀ (j:Nat) (b:Bool),l[j]? = some b→cs[j]? = some (.bool b)
def confAt (c:Cf) (g cap:Nat) (S:Nat→Prop) (w:World):Prop:=
 ∃ (cs:Array Value) (t:TypeId),Blk w g cs t∧S g∧c.shapes.length≤cap∧cap≤maxLen∧(∀ (i:Nat) (s:Bool×List Bool),c.shapes[i]? = some s→∃ v:Value,cs[i*2]? = some (.bool s.1)∧cs[i*2+1]? = some v∧cL v s.2 S w)∧∀ k,S k→k<w.heap.size
theorem cL.kept (h:cL v l S w) (hk:∀ k,S k→w'.heap[k]? = w.heap[k]?):cL v l S w':=by
 rcases h with h|⟨r,cap,cs,t,h0,h1,h2,h3,h4,h5,h6⟩
 · exact .inl h
 · exact .inr ⟨r,cap,cs,t,h0,h1,h2,h3,h4,by unfold Blk at *;rw [hk r h4];exact h5,h6⟩
def aZ (c:Cf) (g cap:Nat):aC where
 at_:=confAt c g cap
 lt:=fun ⟨_,_,_,_,_,_,_,h⟩=>h
 kept:=fun ⟨cs,t,h1,h2,h3,h4,h5,h6⟩ hk hs=>⟨cs,t,by unfold Blk at *;rw [hk g h2];exact h1,h2,h3,h4,fun i s hi=>(let ⟨v,a,b,c⟩:=h5 i s hi;⟨v,a,b,c.kept hk⟩),fun k hS=>Nat.lt_of_lt_of_le (h6 k hS) hs⟩
theorem cZ (n a b:Int) (w:World) (h1:a≤n) (h2:n≤b):Calls prog 110 #[.int .i64 n,.int .i64 a,.int .i64 b] w fun e w'=>e=.returned (.bool true)∧w=w':=by
 go_enter func110,ntmps110
 go_wp2_with fail
 go_ret
 exact ⟨rfl,rfl⟩
theorem jE (a:Bool) (x:Option Addr) (n cap:Nat) (w:World) (hn:n≤40) (ha:a=true→n=1):Calls prog 113 #[.agg #[.bool a,.slice x n cap]] w fun e w'=>e=.returned (.bool true)∧Below w.heap.size w w':=by
 cases a with
 | true=>
  obtain rfl:=ha rfl
  clear ha
  go_enter func113,ntmps113
  go_wp2_with fail
  go_ret
  exact ⟨rfl,(Below.refl _ _).alloc (Nat.le_refl _) _⟩
 | false=>
  clear ha
  go_enter func113,ntmps113
  go_wp2_with fail
  go_ret
  exact ⟨rfl,(Below.refl _ _).alloc (Nat.le_refl _) _⟩
theorem conf_check1 (a:Bool) (x:Option Addr) (n cap:Nat) (w:World) (hn:n≤40) (ha:a=true→n=1):Calls prog 112 #[.agg #[.bool a,.slice x n cap]] w fun e w'=>e=.returned (.bool false)∧Below w.heap.size w w':=by
 have HA:=zz ha
 clear ha
 go_enter func112,ntmps112
 go_wp2_with fail
 refine qz (jE a x n cap _ hn HA.out) fun w' hb=>?_
 go_wp2_with fail
 go_ret
 exact ⟨rfl,((Below.refl _ _).alloc (Nat.le_refl _) _).trans (hb.mono (by simp))⟩
section
variable {c:Cf}
theorem fL (h:(aZ c g cap).at_ S w) (hi:c.shapes[i]? = some s):
 ∃ v,w.cell? ⟨g,i*2,none⟩=some (.bool s.1)∧w.cell? ⟨g,i*2+1,none⟩=some v∧cL v s.2 S w:=by
 obtain ⟨cs,t,h1,h2,h3,h4,h5,h6⟩:=h
 obtain ⟨v,a,b,d⟩:=h5 i s hi
 exact ⟨v,by rw [h1.cell];exact a,by rw [h1.cell];exact b,d⟩
theorem cL.slice {v:Value} {l:List Bool} (h:cL v l S w):∃ x k,v=.slice x l.length k:=by
 rcases h with ⟨rfl,rfl⟩|⟨r,cap,cs,t,_,rfl,_⟩
 · exact ⟨_,_,rfl⟩
 · exact ⟨_,_,rfl⟩
theorem conf_index (hc:c.ok) (h:(aZ c g cap).at_ S w):
 Calls prog 187 #[.slice (some ⟨g,0,none⟩) c.shapes.length cap,.func (.func 112) #[] #[]] w fun e w'=>e=.returned (.int .i64 (-1))∧Below w.heap.size w w':=by
 have hl:=hc.shapes.2
 have HC:=zz hc
 clear hc
 go_enter func187,ntmps187
 go_wp2_with fail
 go_loopw [5,8] (fun u i wr=>∃ q:Nat,q≤c.shapes.length∧i=.int .i64 q∧Below w.heap.size w wr) (fun _ i _=>c.shapes.length-(intOf i).toNat)
 case atStart=>exact ⟨0,Nat.zero_le _,rfl,Below.refl _ _⟩
 case round=>
  obtain ⟨q,hq,rfl,hb⟩:=hrel
  by_cases hlt:q<c.shapes.length
  · obtain ⟨v,c1,c2,hr⟩:=fL (keep h hb) (List.getElem?_eq_getElem hlt)
    obtain ⟨x,k,rfl⟩:=hr.slice
    have hs:=HC.out.shape c.shapes[q] (List.getElem_mem hlt)
    have HM:=zz (fun w=>conf_check1 c.shapes[q].1 x c.shapes[q].2.length k w (by omega) hs.2)
    have HB:=zz hb
    have HH:=zz h
    clear h hr hs hb
    generalize c.shapes[q].1=b1 at*
    generalize c.shapes[q].2.length=n1 at*
    go_wp2_with (go_at_call 112;(with_reducible refine (HM.out _).mono ?_);rintro e w' ⟨rfl,hb⟩)
    go_round
    case rel=>exact ⟨q+1,by omega,by go_num,HB.out.trans (hb.mono HB.out.size)⟩
    case measure=>simp [intOf];omega
  · obtain rfl:q=c.shapes.length:=by omega
    go_wp2_with fail
    go_ret
    exact ⟨rfl,hb⟩
theorem conf_has (hc:c.ok) (h:(aZ c g cap).at_ S w):
 Calls prog 111 #[.slice (some ⟨g,0,none⟩) c.shapes.length cap,.func (.func 112) #[] #[]] w fun e w'=>e=.returned (.bool false)∧Below w.heap.size w w':=by
 have HI:=zz (conf_index hc h)
 clear h hc
 go_enter func111,ntmps111
 go_wp2_with fail
 refine qz (HI.out) fun w' hb=>?_
 go_wp2_with fail
 go_ret
 exact ⟨rfl,hb⟩
theorem bY (hc:c.ok) (h:(aZ c g cap).at_ S w):
 Calls prog 54 #[cfV c g cap] w fun e w'=>e=.returned (.int .i64 0)∧Below w.heap.size w w':=by
 have HH:=zz (fun w' (hb:Below w.heap.size w w')=>conf_has hc (keep h hb))
 obtain ⟨⟨a1,a2⟩,b2,c2,⟨d1,d2⟩,⟨e1,e2⟩,⟨g1,g2⟩,h2,⟨i1,i2⟩,_⟩:=hc
 unfold cfV
 clear h
 generalize c.frags=frags at*
 generalize c.spine=spine at*
 generalize c.globals=globals at*
 generalize c.threads=threads at*
 generalize c.locals=locals at*
 generalize c.stack=stack at*
 generalize c.low=low at*
 generalize c.shapes.length=nsh at*
 have W1:=zz (fun w=>cZ (frags:Int) 4 1024 w (by omega) (by omega))
 have W2:=zz (fun w=>cZ (spine:Int) 0 2048 w (by omega) (by omega))
 have W3:=zz (fun w=>cZ (globals:Int) 0 8 w (by omega) (by omega))
 have W4:=zz (fun w=>cZ (threads:Int) 1 16 w (by omega) (by omega))
 have W5:=zz (fun w=>cZ (locals:Int) 1 8 w (by omega) (by omega))
 have W6:=zz (fun w=>cZ 0 0 8 w (by omega) (by omega))
 have W7:=zz (fun w=>cZ (stack:Int) 1 256 w (by omega) (by omega))
 have W8:=zz (fun w=>cZ (low:Int) 0 frags w (by omega) (by omega))
 have W9:=zz (fun w=>cZ (nsh:Int) 1 8 w (by omega) (by omega))
 go_enter func54,ntmps54
 go_wp2_with fail
 have C0:Blk (w.alloc (.cells #[.int .i64 frags,.int .i64 spine,.int .i64 globals,.int .i64 threads,.int .i64 locals,.int .i64 0,.int .i64 stack,.int .i64 low,.slice (some ⟨g,0,none⟩) nsh cap] 34)).drew w.heap.size #[.int .i64 frags,.int .i64 spine,.int .i64 globals,.int .i64 threads,.int .i64 locals,.int .i64 0,.int .i64 stack,.int .i64 low,.slice (some ⟨g,0,none⟩) nsh cap] 34:=Blk.new w _ _
 have C1:Blk ((w.alloc (.cells #[.int .i64 frags,.int .i64 spine,.int .i64 globals,.int .i64 threads,.int .i64 locals,.int .i64 0,.int .i64 stack,.int .i64 low,.slice (some ⟨g,0,none⟩) nsh cap] 34)).alloc (.cells #[.bool true,.bool true,.bool true,.bool true,.bool true,.bool true,.bool true,.bool true] 4)).drew w.heap.size #[.int .i64 frags,.int .i64 spine,.int .i64 globals,.int .i64 threads,.int .i64 locals,.int .i64 0,.int .i64 stack,.int .i64 low,.slice (some ⟨g,0,none⟩) nsh cap] 34:=(Blk.new w _ _).alloc _
 have A1:Blk ((w.alloc (.cells #[.int .i64 frags,.int .i64 spine,.int .i64 globals,.int .i64 threads,.int .i64 locals,.int .i64 0,.int .i64 stack,.int .i64 low,.slice (some ⟨g,0,none⟩) nsh cap] 34)).alloc (.cells #[.bool true,.bool true,.bool true,.bool true,.bool true,.bool true,.bool true,.bool true] 4)).drew (w.heap.size+1) #[.bool true,.bool true,.bool true,.bool true,.bool true,.bool true,.bool true,.bool true] 4:=by have:=Blk.new (w.alloc (.cells #[.int .i64 frags,.int .i64 spine,.int .i64 globals,.int .i64 threads,.int .i64 locals,.int .i64 0,.int .i64 stack,.int .i64 low,.slice (some ⟨g,0,none⟩) nsh cap] 34)) #[.bool true,.bool true,.bool true,.bool true,.bool true,.bool true,.bool true,.bool true] 4;rw [World.size_alloc] at this;exact this
 have B1:Below w.heap.size w ((w.alloc (.cells #[.int .i64 frags,.int .i64 spine,.int .i64 globals,.int .i64 threads,.int .i64 locals,.int .i64 0,.int .i64 stack,.int .i64 low,.slice (some ⟨g,0,none⟩) nsh cap] 34)).alloc (.cells #[.bool true,.bool true,.bool true,.bool true,.bool true,.bool true,.bool true,.bool true] 4)).drew:=(((Below.refl w.heap.size w).alloc (Nat.le_refl _) (.cells #[.int .i64 frags,.int .i64 spine,.int .i64 globals,.int .i64 threads,.int .i64 locals,.int .i64 0,.int .i64 stack,.int .i64 low,.slice (some ⟨g,0,none⟩) nsh cap] 34)).alloc (by simp) (.cells #[.bool true,.bool true,.bool true,.bool true,.bool true,.bool true,.bool true,.bool true] 4)).drew
 have A:=zz A1
 have B:=zz B1
 clear A1 B1
 go_region_held3 (fun w'=>w'.cell? ⟨w.heap.size,0,none⟩=some (.int .i64 frags)∧w'.cell? ⟨w.heap.size,1,none⟩=some (.int .i64 spine)∧w'.cell? ⟨w.heap.size,2,none⟩=some (.int .i64 globals)∧w'.cell? ⟨w.heap.size,3,none⟩=some (.int .i64 threads)∧w'.cell? ⟨w.heap.size,4,none⟩=some (.int .i64 locals)∧w'.cell? ⟨w.heap.size,5,none⟩=some (.int .i64 0)∧w'.cell? ⟨w.heap.size,6,none⟩=some (.int .i64 stack)∧w'.cell? ⟨w.heap.size,7,none⟩=some (.int .i64 low)) (first|exact ⟨C0.cell 0,C0.cell 1,C0.cell 2,C0.cell 3,C0.cell 4,C0.cell 5,C0.cell 6,C0.cell 7⟩|exact ⟨C1.cell 0,C1.cell 1,C1.cell 2,C1.cell 3,C1.cell 4,C1.cell 5,C1.cell 6,C1.cell 7⟩) ((go_at_call 110;(first|((with_reducible refine (W1.out _).mono ?_);rintro e w9 ⟨rfl,rfl⟩)|((with_reducible refine (W2.out _).mono ?_);rintro e w9 ⟨rfl,rfl⟩)|((with_reducible refine (W3.out _).mono ?_);rintro e w9 ⟨rfl,rfl⟩)|((with_reducible refine (W4.out _).mono ?_);rintro e w9 ⟨rfl,rfl⟩)|((with_reducible refine (W5.out _).mono ?_);rintro e w9 ⟨rfl,rfl⟩)|((with_reducible refine (W6.out _).mono ?_);rintro e w9 ⟨rfl,rfl⟩)|((with_reducible refine (W7.out _).mono ?_);rintro e w9 ⟨rfl,rfl⟩)|((with_reducible refine (W8.out _).mono ?_);rintro e w9 ⟨rfl,rfl⟩))))
 have C:=zz C1
 clear C0 C1 W1 W2 W3 W4 W5 W6 W7 W8
 generalize ((w.alloc (.cells #[.int .i64 frags,.int .i64 spine,.int .i64 globals,.int .i64 threads,.int .i64 locals,.int .i64 0,.int .i64 stack,.int .i64 low,.slice (some ⟨g,0,none⟩) nsh cap] 34)).alloc (.cells #[.bool true,.bool true,.bool true,.bool true,.bool true,.bool true,.bool true,.bool true] 4)).drew=w3 at*
 go_wp2_with fail
 go_loop [4,33] (fun _ i=>∃ q:Nat,q≤8∧i=.int .i64 q) (fun _ i=>8-(intOf i).toNat)
 case atStart=>exact ⟨0,by omega,rfl⟩
 case round=>
  obtain ⟨q,hq,rfl⟩:=hrel
  by_cases hlt:q<8
  · have hc:w3.cell? ⟨w.heap.size+1,q,none⟩=some (.bool true):=by
     rw [A.out.cell]
     have:q=0∨q=1∨q=2∨q=3∨q=4∨q=5∨q=6∨q=7:=by omega
     rcases this with rfl|rfl|rfl|rfl|rfl|rfl|rfl|rfl<;>rfl
    go_wp2_with fail
    go_round
    case rel=>exact ⟨q+1,by omega,by go_num⟩
    case measure=>simp [intOf];omega
  · obtain rfl:q=8:=by omega
    have c0:=C.out.cell 0
    have c3:=C.out.cell 3
    have c5:=C.out.cell 5
    have c8:=C.out.cell 8
    simp at c0 c3 c5 c8
    go_wp2_with fail
    refine qq (W9.out _) ?_
    go_wp2_with fail
    refine qz (HH.out _ B.out) fun w' hb=>?_
    go_wp2_with fail
    go_ret
    exact ⟨rfl,B.out.trans (hb.mono B.out.size)⟩
theorem clone_bools_nil (w:World):Calls prog 163 #[.slice none 0 0] w fun e w'=>e=.returned (.slice none 0 0)∧Below w.heap.size w w':=by
 have he:=Lib.run_eql_slice_nil (P:=prog) w 50 4 none 0 0 0 0 underlying50
 go_enter func163,ntmps163
 go_wp2_with fail
 go_ret
 exact ⟨rfl,Below.refl _ _⟩
theorem clone_bools (hb:Blk w r cs t) (hl:l.length≤100) (hcs:∀ (j:Nat) (b:Bool),l[j]? = some b→cs[j]? = some (.bool b)) (hne:l≠[]):
 Calls prog 163 #[.slice (some ⟨r,0,none⟩) l.length k] w fun e w'=>∃ v',e=.returned v'∧Below w.heap.size w w'∧∃ S',cL v' l S' w'∧∀ k,S' k→w.heap.size≤k∧k<w'.heap.size:=by
 obtain ⟨i0,hi,hz0,hz1,hz2⟩:=info_parts Tryz.info4
 have he:=Lib.run_eql_slice_nil (P:=prog) w 50 4 (some ⟨r,0,none⟩) l.length k 0 0 underlying50
 have HC:=zz hcs
 have HB:=zz hb
 have HN:=zz hne
 clear hcs hb hne
 go_enter func163,ntmps163
 go_wp2_with (at_builtin;refine bI rfl _ _ 50 rfl 4 i0 (.bool false) 1 1 underlying50 hi hz0 hz1 hz2 rfl (by decide) _ _ _ rfl (World.ownsRow_made w #[] 0 (Nat.zero_le _) (Nat.zero_le _) rfl) ⟨r,0,none⟩ l.length k (l.map .bool) rfl ?c0 ?c1 ?c2 ?c3 (by decide) ?_)
 case c0=>simp
 case c1=>
  intro j u hj
  simp only [List.getElem?_map,Option.map_eq_some_iff] at hj
  obtain ⟨b,hj,rfl⟩:=hj
  rw [bU,(HB.out.alloc _).cell,Nat.zero_add]
  exact HC.out j b hj
 case c2=>intro u hu;obtain ⟨x,_,rfl⟩:=List.mem_map.1 hu;rfl
 case c3=>omega
 intro v' w1 hown hg hb
 have G:=zz hg
 have B:=zz hb
 have HO:=zz hown
 clear hg hb hown
 go_wp2_with fail
 go_ret
 refine ⟨v',rfl,((Below.refl _ _).alloc (Nat.le_refl _) _).grown G.out (by simp) (fun k hk=>by simp [Value.ownBlock] at hk;omega),fun k=>v'.ownBlock=some k,?_,fun k hk=>?_⟩
 · have ho:w1.ownsRow 0 4 1 v' l.length (l.map .bool):=by simpa using HO.out
   rcases ho.2 with ⟨_,e⟩|⟨g',cap',cur,e,_,e2,e3,e4,e5,e6⟩
   · exact absurd (by simpa using e) HN.out
   · refine .inr ⟨g',cap',cur,4,HN.out,e,e3,e4,by rw [e];rfl,e2,fun j b hj=>?_⟩
     have:(cur.toList.take (l.length*1))[j]? = some (.bool b):=by rw [e6];simp [hj]
     have hjl:j<l.length:=(List.getElem?_eq_some_iff.1 hj).1
     rw [List.getElem?_take,if_pos (by omega)] at this
     simpa using this
 · have:=dF HO.out hk
   rcases B.out with e|e
   · rw [e] at hk;simp [Value.ownBlock] at hk;omega
   · rw [e] at hk;simp at hk;omega
theorem clone_refs (h:cL v l S w) (hl:l.length≤100):
 Calls prog 163 #[v] w fun e w'=>∃ v',e=.returned v'∧Below w.heap.size w w'∧∃ S',cL v' l S' w'∧∀ k,S' k→w.heap.size≤k∧k<w'.heap.size:=by
 by_cases hn:l=[]
 · rcases h with ⟨rfl,rfl⟩|⟨r,cap,cs,t,h0,rfl,h2,h3,h4,h5,h6⟩
   · exact (clone_bools_nil w).mono fun e w' ⟨he,hb⟩=>⟨_,he,hb,fun _=>False,.inl ⟨rfl,rfl⟩,fun k hk=>hk.elim⟩
   · exact absurd hn h0
 · rcases h with ⟨rfl,rfl⟩|⟨r,cap,cs,t,h0,rfl,h2,h3,h4,h5,h6⟩
   · exact absurd rfl hn
   · exact clone_bools h5 hl h6 hn
end
section
variable {c:Cf}
theorem cL.more {T:Nat→Prop} (h:cL v l S w) (hk:∀ k,S k→T k):cL v l T w:=by
 rcases h with h|⟨r,cap,cs,t,h0,h1,h2,h3,h4,h5,h6⟩
 · exact .inl h
 · exact .inr ⟨r,cap,cs,t,h0,h1,h2,h3,hk _ h4,h5,h6⟩
def ShapeCopied (a:Bool) (l:List Bool) (w:World) (e:Ending) (w':World):Prop:=
 ∃ v',e=.returned (.agg #[.bool a,v'])∧Below w.heap.size w w'∧∃ S',cL v' l S' w'∧∀ k,S' k→w.heap.size≤k∧k<w'.heap.size
theorem conf_copied (h:cL v l S w) (hS:∀ k,S k→k<w.heap.size) (hl:l.length≤100):
 Calls prog 94 #[.agg #[.bool a,v]] w (ShapeCopied a l w):=by
 have hb0:Below w.heap.size w (((w.alloc (.cells #[.bool a,v] 55)).alloc (.cells #[.bool false,.slice none 0 0] 55)).drew):=(((Below.refl w.heap.size w).alloc (Nat.le_refl _) _).alloc (by simp) _).drew
 have HC:=zz (clone_refs (h.kept (w':=((w.alloc (.cells #[.bool a,v] 55)).alloc (.cells #[.bool false,.slice none 0 0] 55)).drew) (fun k hk=>hb0.block k (hS k hk))) hl)
 have C0:Blk (((w.alloc (.cells #[.bool a,v] 55)).alloc (.cells #[.bool false,.slice none 0 0] 55)).drew) w.heap.size #[.bool a,v] 55:=((Blk.new w _ _).alloc _)
 have D0:Blk (((w.alloc (.cells #[.bool a,v] 55)).alloc (.cells #[.bool false,.slice none 0 0] 55)).drew) (w.heap.size+1) #[.bool false,.slice none 0 0] 55:=by have:=Blk.new (w.alloc (.cells #[.bool a,v] 55)) #[.bool false,.slice none 0 0] 55;rw [World.size_alloc] at this;exact this
 clear h hS
 go_enter func94,ntmps94
 go_wp2_with fail
 have hne:w.heap.size≠w.heap.size+1:=by omega
 generalize hq:w.heap.size+1=q at*
 generalize hW1:(World.drew _)=W1 at HC C0 D0 hb0
 go_region_held3 (fun w'=>w'.cell? ⟨w.heap.size,0,none⟩=some (.bool a)∧w'.cell? ⟨w.heap.size,1,none⟩=some v) (first|exact ⟨C0.cell 0,C0.cell 1⟩|exact ⟨by rw [hW1];exact C0.cell 0,by rw [hW1];exact C0.cell 1⟩|exact ⟨c70,c71⟩|exact ⟨s70,s71⟩)
  ((go_at_call 163;(with_reducible refine HC.out.mono ?_);rintro e w7 ⟨v',rfl,hb7,S7,hr7,hr8⟩;obtain ⟨x7,k7,rfl⟩:=hr7.slice;have C7:=aK C0 hb7;have D7:=aK D0 hb7;have c70:=C7.cell 0;have c71:=C7.cell 1;have d70:=D7.cell 0;have d71:=D7.cell 1;have f7:=D7.free 0;have f71:=D7.free 1;have s7:=(C7.far (a:=⟨q,0,none⟩) hne (.bool a)).far (a:=⟨q,1,none⟩) hne (.slice x7 l.length k7);have s70:=s7.cell 0;have s71:=s7.cell 1))
 have F7:Blk ((w7.setCell ⟨q,0,none⟩ (.bool a)).setCell ⟨q,1,none⟩ (.slice x7 l.length k7)) q #[.bool a,.slice x7 l.length k7] 55:=(D7.set 0 (.bool a)).set 1 (.slice x7 l.length k7)
 have e0:=F7.cell 0
 have e1:=F7.cell 1
 have hb1:Below w.heap.size w w7:=hb0.trans (hb7.mono hb0.size)
 have hq1:w.heap.size≤q:=by omega
 have hb8:Below w.heap.size w ((w7.setCell ⟨q,0,none⟩ (.bool a)).setCell ⟨q,1,none⟩ (.slice x7 l.length k7)):=(hb1.setCell hq1 _).setCell hq1 _
 have hr9:=hr7.kept (w':=(w7.setCell ⟨q,0,none⟩ (.bool a)).setCell ⟨q,1,none⟩ (.slice x7 l.length k7)) (fun k hk=>by
  have:=(hr8 k hk).1
  have hqk:k≠q:=by have:=C0.lt;have:=D0.lt;omega
  rw [Below.heap_setCell _ _ _ _ hqk,Below.heap_setCell _ _ _ _ hqk])
 have HB:=zz hb8
 have HR:=zz hr9
 have HL:=zz (fun k hk=>(show w.heap.size≤k∧k<((w7.setCell ⟨q,0,none⟩ (.bool a)).setCell ⟨q,1,none⟩ (.slice x7 l.length k7)).heap.size from ⟨by have:=(hr8 k hk).1;have:=C0.lt;omega,by simpa using (hr8 k hk).2⟩))
 clear hb8 hr9 hb1 hr8 hr7 hb7 s70 s71 s7 c70 c71 d70 d71 f7 f71 C7 D7 F7 HC hW1 C0 D0
 generalize (w7.setCell ⟨q,0,none⟩ (.bool a)).setCell ⟨q,1,none⟩ (.slice x7 l.length k7)=w8 at*
 go_wp2_with fail
 exact bodyPost_ret (v:=.agg #[.bool a,.slice x7 l.length k7]) (by simp [results,results94,go_sem,e0,e1]) rfl ⟨_,rfl,HB.out,S7,HR.out,HL.out⟩
end
structure CopyInv (c:Cf) (B:Nat) (w:World) (q:Nat) (v:Value) (wr:World) (xs:List Value) (T:Nat→Prop):Prop where
 row:wr.ownsRow 0 55 2 v q xs
 each:∀ i s,i<q→c.shapes[i]? = some s→∃ u,xs[i*2]? = some (.bool s.1)∧xs[i*2+1]? = some u∧cL u s.2 T wr
 low:∀ k,T k→B≤k∧k<wr.heap.size
 own:∀ k,v.ownBlock=some k→B≤k∧¬T k
 below:Below B w wr
section
variable {c:Cf}
theorem CopyInv.next {w0:World} {T:Nat→Prop} (h:CopyInv c B w q v wr xs T) (hs:c.shapes[q]? = some s)
 (hb:Below wr.heap.size wr w0) (hr:cL u s.2 S7 w0) (h7:∀ k,S7 k→wr.heap.size≤k∧k<w0.heap.size)
 (ho:w1.ownsRow 0 55 2 v' (q+1) (xs++[.bool s.1,u])) (hg:w0.grownBy w1 v.ownBlock) (hbk:v'.ownBlock=v.ownBlock∨v'.ownBlock=some w0.heap.size) (hB:B≤wr.heap.size):
 CopyInv c B w (q+1) v' w1 (xs++[.bool s.1,u]) (fun k=>T k∨S7 k):=by
 have hx:xs.length=q*2:=h.row.1
 have same:∀ k,k<w0.heap.size→(¬v.ownBlock=some k)→w1.heap[k]? = w0.heap[k]? := fun k hk hn=>hg.block k hk (fun e=>hn e.symm)
 refine ⟨ho,fun i s' hi hi'=>?_,?_,?_,?_⟩
 · by_cases e:i=q
   · subst e
     rw [hs] at hi';cases hi'
     refine ⟨u,by rw [List.getElem?_append_right (by omega)];simp [hx],by rw [List.getElem?_append_right (by omega)];simp [hx,show i*2+1-i*2=1 by omega],?_⟩
     refine cL.more (cL.kept hr fun k hk=>same k (h7 k hk).2 fun e=>?_) fun k hk=>.inr hk
     have:=dF h.row e
     have:=(h7 k hk).1;omega
   · obtain ⟨u',a1,a2,a3⟩:=h.each i s' (by omega) hi'
     refine ⟨u',by rw [List.getElem?_append_left (by omega)];exact a1,by rw [List.getElem?_append_left (by omega)];exact a2,cL.more (cL.kept a3 fun k hk=>?_) fun k hk=>.inl hk⟩
     rw [same k (by have:=(h.low k hk).2;have:=hb.size;omega) fun e=>(h.own k e).2 hk,hb.block k (h.low k hk).2]
 · rintro k (hk|hk)
   · have:=h.low k hk;have:=hb.size;have:=hg.size;omega
   · have:=h7 k hk;have:=hg.size;omega
 · intro k hk
   rcases hbk with e|e
   · have:=h.own k (e▸hk)
     refine ⟨this.1,fun hh=>hh.elim this.2 fun h8=>?_⟩
     have:=dF h.row (e▸hk)
     have:=(h7 k h8).1;omega
   · rw [e] at hk;simp at hk;subst hk
     refine ⟨by have:=hb.size;omega,fun hh=>hh.elim (fun h8=>?_) fun h8=>?_⟩
     · have:=(h.low _ h8).2;have:=hb.size;omega
     · have:=(h7 _ h8).2;omega
 · exact (h.below.trans (hb.mono hB)).grown hg (by have:=hb.size;omega) fun k hk=>(h.own k hk).1
def aD (c:Cf) (v:Value):Array Value:=#[.int .i64 c.frags,.int .i64 c.spine,.int .i64 c.globals,.int .i64 c.threads,.int .i64 c.locals,.int .i64 0,.int .i64 c.stack,.int .i64 c.low,v]
def cR:Array Value:=#[.int .i64 0,.int .i64 0,.int .i64 0,.int .i64 0,.int .i64 0,.int .i64 0,.int .i64 0,.int .i64 0,.slice none 0 0]
def Copied (c:Cf) (w:World) (e:Ending) (w':World):Prop:=∃ g' cap',e=.returned (cfV c g' cap')∧St w (aZ c g' cap') w'
theorem fG (hc:c.ok) (h:(aZ c g cap).at_ S w):Calls prog 47 #[cfV c g cap] w (Copied c w):=by
 obtain ⟨i0,hi,hz0,hz1,hz2⟩:=info_parts Tryz.info55
 have hl:=hc.shapes.2
 have hb0:Below w.heap.size w ((w.alloc (.cells (aD c (.slice (some ⟨g,0,none⟩) c.shapes.length cap)) 34)).alloc (.cells cR 34)):=((Below.refl w.heap.size w).alloc (Nat.le_refl _) _).alloc (by simp) _
 have C0:Blk ((w.alloc (.cells (aD c (.slice (some ⟨g,0,none⟩) c.shapes.length cap)) 34)).alloc (.cells cR 34)) w.heap.size (aD c (.slice (some ⟨g,0,none⟩) c.shapes.length cap)) 34:=(Blk.new w _ _).alloc _
 have D0:Blk ((w.alloc (.cells (aD c (.slice (some ⟨g,0,none⟩) c.shapes.length cap)) 34)).alloc (.cells cR 34)) (w.heap.size+1) cR 34:=by have:=Blk.new (w.alloc (.cells (aD c (.slice (some ⟨g,0,none⟩) c.shapes.length cap)) 34)) cR 34;rw [World.size_alloc] at this;exact this
 have h1:=keep h hb0
 have hs1:((w.alloc (.cells (aD c (.slice (some ⟨g,0,none⟩) c.shapes.length cap)) 34)).alloc (.cells cR 34)).heap.size=w.heap.size+2:=by simp
 have e8:=C0.cell 8
 have HC:=zz hc
 have HB0:=zz hb0
 have HC0:=zz C0
 have HD0:=zz D0
 have HS1:=zz hs1
 unfold cfV
 clear h hc hb0 C0 D0 hs1
 simp only [aD,cR] at*
 simp at e8
 go_enter func47,ntmps47
 go_wp2_with fail
 generalize (w.alloc _).alloc _=W1 at*
 go_loopw [3,5,9] (fun v _ i wr=>∃ (q:Nat) (xs:List Value) (T:Nat→Prop),q≤c.shapes.length∧i=.int .i64 q∧CopyInv c W1.heap.size W1 q v wr xs T) (fun _ _ i _=>c.shapes.length-(intOf i).toNat)
 case atStart=>exact ⟨0,[],fun _=>False,Nat.zero_le _,rfl,⟨⟨rfl,.inl ⟨rfl,rfl⟩⟩,fun i s hi=>absurd hi (Nat.not_lt_zero _),fun k hk=>hk.elim,fun k hk=>by simp [Value.ownBlock] at hk,Below.refl _ _⟩⟩
 case round=>
  obtain ⟨q,xs,T,hq,rfl,hinv⟩:=hrel
  by_cases hlt:q<c.shapes.length
  · obtain ⟨u,c1,c2,hr⟩:=fL (keep h1 hinv.below) (List.getElem?_eq_getElem hlt)
    obtain ⟨x,k,rfl⟩:=hr.slice
    have hs0:=HC.out.shape c.shapes[q] (List.getElem_mem hlt)
    have hgt:c.shapes[q]? = some c.shapes[q]:=List.getElem?_eq_getElem hlt
    generalize hsq:c.shapes[q]=sq at*
    obtain ⟨sa,sl⟩:=sq
    have HR:=zz hr
    have HI:=zz hinv
    have HG:=zz hgt
    have HL:=zz hs0
    clear hr hinv hgt hsq hs0
    simp only at c1 c2
    generalize hn:sl.length=n at*
    have HN:=zz hn
    clear hn
    go_wp2_with fail
    have hbA:Below wr.heap.size wr (wr.alloc (.cells #[.bool sa,.slice x n k] 55)):=(Below.refl _ _).alloc (Nat.le_refl _) _
    have hSl:∀ j,S j→j<wr.heap.size:=fun j hj=>Nat.lt_of_lt_of_le ((aZ c g cap).lt h1 j hj) HI.out.below.size
    have hr8:cL (.slice x n k) sl S (wr.alloc (.cells #[.bool sa,.slice x n k] 55)):=HR.out.kept fun j hj=>hbA.block j (hSl j hj)
    with_reducible refine (conf_copied (a:=sa) hr8 (fun j hj=>Nat.lt_of_lt_of_le (hSl j hj) hbA.size) (by have h5:=HL.out.1;have h6:=HN.out;omega)).mono ?_
    rintro e w9 ⟨v9,rfl,hb9,S9,hr9,hs9⟩
    obtain ⟨x9,k9,rfl⟩:=hr9.slice
    have H9:=zz hr9
    have HS9:=zz hs9
    have hbB:Below wr.heap.size wr w9:=hbA.trans (hb9.mono hbA.size)
    have HB9:=zz hbB
    have hX:=HI.out.row
    have hxs:=dN (w':=w9) hX (fun j hj=>hbB.block j (dF hX hj))
    have HX:=zz hxs
    clear hr8 hSl hb9 hr9 hs9 hbA hbB HR hX hxs c1 c2
    generalize sl.length=m at*
    go_wp2_with (at_builtin;refine bI rfl _ _ 32 rfl 55 i0 (.agg #[.bool false,.slice none 0 0]) 2 32 underlying32 hi hz0 hz1 hz2 rfl (by decide) _ _ _ rfl (HX.out.alloc _) ⟨w9.heap.size,0,none⟩ 1 1 [.bool sa,.slice x9 m k9] rfl ?c0 ?c1 ?c2 ?c3 (by decide) ?_)
    case c0=>rfl
    case c1=>
     intro j u hj
     rw [bU,(Blk.new w9 #[.bool sa,.slice x9 m k9] 55).cell,Nat.zero_add]
     simpa using hj
    case c2=>intro u hu;simp at hu;rcases hu with rfl|rfl<;>rfl
    case c3=>omega
    intro v' w10 hown hg hbk
    have hN:=HI.out.next HG.out (HB9.out.alloc (by exact HB9.out.size) (.cells #[.bool sa,.slice x9 m k9] 55)) (H9.out.kept fun j hj=>by rw [Below.heap_alloc _ _ _ (HS9.out j hj).2]) (fun j hj=>⟨by have:=(HS9.out j hj).1;simp at this;omega,by have:=(HS9.out j hj).2;simp;omega⟩) hown hg (by simpa using hbk) HI.out.below.size
    have HN:=zz hN
    clear hN hown hg hbk HI HX H9 HS9 HG HL HB9
    go_wp2_with fail
    go_round
    case rel=>exact ⟨q+1,_,_,by omega,by go_num,HN.out⟩
    case measure=>simp [intOf];omega
  · obtain rfl:q=c.shapes.length:=by omega
    have C8:=aK HC0.out hinv.below
    have D8:=aK HD0.out hinv.below
    obtain ⟨_,hrow⟩:=hinv.row
    rcases hrow with ⟨_,e⟩|⟨g1,cap1,cur,rfl,_,hcur,hn1,hn2,hn3,hn4⟩
    · have:=HC.out.shapes.1;omega
    have hne:w.heap.size+1≠w.heap.size:=by omega
    have hne':w.heap.size≠w.heap.size+1:=by omega
    have k8:=C8.cell 8
    have l8:=C8.free 8
    have C9:Blk (wr.setCell ⟨w.heap.size,8,none⟩ (.slice (some ⟨g1,0,none⟩) c.shapes.length cap1)) w.heap.size (aD c (.slice (some ⟨g1,0,none⟩) c.shapes.length cap1)) 34:=C8.set 8 (.slice (some ⟨g1,0,none⟩) c.shapes.length cap1)
    have D9:Blk (wr.setCell ⟨w.heap.size,8,none⟩ (.slice (some ⟨g1,0,none⟩) c.shapes.length cap1)) (w.heap.size+1) cR 34:=D8.far (a:=⟨w.heap.size,8,none⟩) hne (.slice (some ⟨g1,0,none⟩) c.shapes.length cap1)
    have F9:=Blk.fill D9 [.int .i64 c.frags,.int .i64 c.spine,.int .i64 c.globals,.int .i64 c.threads,.int .i64 c.locals,.int .i64 0,.int .i64 c.stack,.int .i64 c.low,.slice (some ⟨g1,0,none⟩) c.shapes.length cap1] rfl
    have B8:Below w.heap.size w wr:=HB0.out.trans (hinv.below.mono HB0.out.size)
    have B9:Below w.heap.size w (setCells (wr.setCell ⟨w.heap.size,8,none⟩ (.slice (some ⟨g1,0,none⟩) c.shapes.length cap1)) (w.heap.size+1) 0 [.int .i64 c.frags,.int .i64 c.spine,.int .i64 c.globals,.int .i64 c.threads,.int .i64 c.locals,.int .i64 0,.int .i64 c.stack,.int .i64 c.low,.slice (some ⟨g1,0,none⟩) c.shapes.length cap1]):=bX (a:=w) (by omega) _ _ _ (B8.setCell (by simp) _)
    have O9:∀ k,W1.heap.size≤k→(setCells (wr.setCell ⟨w.heap.size,8,none⟩ (.slice (some ⟨g1,0,none⟩) c.shapes.length cap1)) (w.heap.size+1) 0 [.int .i64 c.frags,.int .i64 c.spine,.int .i64 c.globals,.int .i64 c.threads,.int .i64 c.locals,.int .i64 0,.int .i64 c.stack,.int .i64 c.low,.slice (some ⟨g1,0,none⟩) c.shapes.length cap1]).heap[k]? = wr.heap[k]? := by
     intro k hk
     have:=HS1.out
     rw [gZ (by omega),Below.heap_setCell _ _ _ _ (by simp;omega)]
    have hg1:=hinv.own g1 rfl
    have HT:=zz hinv
    have HC9:=zz C9
    have HF9:=zz F9
    have HB9:=zz B9
    have HO9:=zz O9
    have HCU:=zz hcur
    have e0:=C9.cell 0
    have e1:=C9.cell 1
    have e2:=C9.cell 2
    have e3:=C9.cell 3
    have e4:=C9.cell 4
    have e5:=C9.cell 5
    have e6:=C9.cell 6
    have e7:=C9.cell 7
    have e8:=C9.cell 8
    have d0:=D9.cell 0
    have d1:=D9.cell 1
    have d2:=D9.cell 2
    have d3:=D9.cell 3
    have d4:=D9.cell 4
    have d5:=D9.cell 5
    have d6:=D9.cell 6
    have d7:=D9.cell 7
    have d8:=D9.cell 8
    have f0:=D9.free 0
    have f1:=D9.free 1
    have f2:=D9.free 2
    have f3:=D9.free 3
    have f4:=D9.free 4
    have f5:=D9.free 5
    have f6:=D9.free 6
    have f7:=D9.free 7
    have f8:=D9.free 8
    simp only [aD,cR] at e0 e1 e2 e3 e4 e5 e6 e7 e8 d0 d1 d2 d3 d4 d5 d6 d7 d8 k8
    clear hinv C8 D8 C9 D9 F9 B8 B9 O9 hcur
    go_wp2_with fail
    clear e0 e1 e2 e3 e4 e5 e6 e7 e8 d0 d1 d2 d3 d4 d5 d6 d7 d8 f0 f1 f2 f3 f4 f5 f6 f7 f8 k8 l8 HC9
    have F9:=HF9.out
    have B9:=HB9.out
    have O9:=HO9.out
    clear HF9 HB9 HO9
    change bodyPost _ _ _ _ _ (setCells (wr.setCell ⟨w.heap.size,8,none⟩ (.slice (some ⟨g1,0,none⟩) c.shapes.length cap1)) (w.heap.size+1) 0 [.int .i64 c.frags,.int .i64 c.spine,.int .i64 c.globals,.int .i64 c.threads,.int .i64 c.locals,.int .i64 0,.int .i64 c.stack,.int .i64 c.low,.slice (some ⟨g1,0,none⟩) c.shapes.length cap1])
    generalize setCells _ _ _ _=wX at*
    have d0:=F9.cell 0
    have d1:=F9.cell 1
    have d2:=F9.cell 2
    have d3:=F9.cell 3
    have d4:=F9.cell 4
    have d5:=F9.cell 5
    have d6:=F9.cell 6
    have d7:=F9.cell 7
    have d8:=F9.cell 8
    simp at d0 d1 d2 d3 d4 d5 d6 d7 d8
    have hBk:Blk wX g1 cur 55:=by have:=HCU.out;unfold Blk;rw [O9 g1 hg1.1];exact this
    have get:∀ (j:Nat) (u:Value),xs[j]? = some u→cur[j]? = some u:=by
     intro j u hj
     rw [←hn4,List.getElem?_take] at hj
     split at hj
     · simpa using hj
     · simp at hj
    refine bodyPost_ret (v:=cfV c g1 cap1) (by simp [results,results47,go_sem,d0,d1,d2,d3,d4,d5,d6,d7,d8,cfV]) rfl ⟨g1,cap1,rfl,⟨fun k=>k=g1∨T k,⟨cur,_,hBk,.inl rfl,hn1,hn2,?_,?_⟩,?_⟩,B9⟩
    · intro j s hs
      have hj:j<c.shapes.length:=(List.getElem?_eq_some_iff.1 hs).1
      obtain ⟨u,a1,a2,a3⟩:=HT.out.each j s hj hs
      exact ⟨u,get _ _ a1,get _ _ a2,(a3.kept fun k hk=>O9 k (HT.out.low k hk).1).more fun k hk=>.inr hk⟩
    · rintro k (rfl|hk)
      · exact hBk.lt
      · have h8:=HT.out.low k hk
        have:=O9 k h8.1
        have h9:wr.heap[k]? = some wr.heap[k]:=Array.getElem?_eq_getElem h8.2
        rw [h9] at this
        exact (Array.getElem?_eq_some_iff.1 this).1
    · rintro k (rfl|hk)
      · have:=HS1.out;have:=hg1.1;omega
      · have:=HS1.out;have:=(HT.out.low k hk).1;omega
end
end Go.Proofs.YtgcmiahhkalfmaaGreat
