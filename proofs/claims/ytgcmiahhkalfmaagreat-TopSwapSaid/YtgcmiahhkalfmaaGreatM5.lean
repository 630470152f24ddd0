import Derived.Test.YtgcmiahhkalfmaaGreatM4
set_option maxRecDepth 100000
set_option maxHeartbeats 8000000
set_option linter.unusedVariables false
set_option linter.unusedSimpArgs false
namespace Go.Proofs.YtgcmiahhkalfmaaGreat
section
attribute [local go_sem] aF
open Go.Proofs.Tryz
open Go.RowKit
variable {rb:Bool} {c:Cf} {l:List Bool} {b bm cap g gm md n:Nat} {S:Nat→Prop} {m:Nat→Value} {O X:aC} {w w':World}
theorem aA.is (h:aA O S w w'):O.at_ h.now.choose w':=h.now.choose_spec.1
structure Fd where
 head:Nat
 k:Nat
 pc:Int
 at_:Int
 ref:Bool
 steps:Int
def iA (c:Cf) (g cap:Nat) (f:Fd):Array Value:=#[.int .i64 c.frags,.int .i64 c.spine,.int .i64 c.globals,.int .i64 c.threads,.int .i64 c.locals,.int .i64 0,.int .i64 c.stack,.int .i64 c.low,.slice (some ⟨g,0,none⟩) c.shapes.length cap,
 .int .i64 (f.head:Int),.int .i64 (f.k:Int),.bool false,.int .i64 f.pc,.int .i64 (f.head:Int),.int .i64 0,.int .i64 0,.int .i64 0,.int .i64 0,.int .i64 0,.int .i64 f.at_,.bool f.ref,.int .i64 0,.int .i64 f.steps]
def dK (b:Nat) (c:Cf) (g cap:Nat) (f:Fd):aC:=Sep (Var b (iA c g cap f) 327) (aZ c g cap)
section
variable {f:Fd}
theorem fd9 (h:aA (dK b c g cap f) S w w'):
 w'.cell? ⟨b,0,none⟩=some (.int .i64 c.frags)∧w'.cell? ⟨b,1,none⟩=some (.int .i64 c.spine)∧w'.cell? ⟨b,2,none⟩=some (.int .i64 c.globals)∧w'.cell? ⟨b,3,none⟩=some (.int .i64 c.threads)∧
 w'.cell? ⟨b,4,none⟩=some (.int .i64 c.locals)∧w'.cell? ⟨b,5,none⟩=some (.int .i64 0)∧w'.cell? ⟨b,6,none⟩=some (.int .i64 c.stack)∧w'.cell? ⟨b,7,none⟩=some (.int .i64 c.low)∧w'.cell? ⟨b,8,none⟩=some (.slice (some ⟨g,0,none⟩) c.shapes.length cap):=
 ⟨h.c 0 rfl,h.c 1 rfl,h.c 2 rfl,h.c 3 rfl,h.c 4 rfl,h.c 5 rfl,h.c 6 rfl,h.c 7 rfl,h.c 8 rfl⟩
theorem find_field (head k:Nat) (hc:c.ok) (h:(aZ c g cap).at_ S w):
 Calls prog 280 #[cfV c g cap,.int .i64 (head:Int),.int .i64 (k:Int)] w fun e w'=>∃ b g' cap',e=.returned (.pointer (some ⟨b,0,none⟩))∧St w (dK b c g' cap' ⟨head,k,0,-1,false,0⟩) w':=by
 have hb0:Below w.heap.size w (w.alloc (.cells (aD c (.slice (some ⟨g,0,none⟩) c.shapes.length cap)) 34)):=(Below.refl w.heap.size w).alloc (Nat.le_refl _) _
 have C0:Blk (w.alloc (.cells (aD c (.slice (some ⟨g,0,none⟩) c.shapes.length cap)) 34)) w.heap.size (aD c (.slice (some ⟨g,0,none⟩) c.shapes.length cap)) 34:=Blk.new w _ _
 have HB0:=zz hb0
 have HC0:=zz C0
 have HK:=zz (fun w' hb=>fG hc (keep (w':=w') h hb))
 unfold cfV at*
 simp only [aD] at*
 clear h hc hb0
 go_enter func280,ntmps280
 go_upto_region 1 with fail
 generalize w.alloc _=W1 at*
 obtain ⟨c0,c1,c2,c3,c4,c5,c6,c7,c8⟩:=cf9 C0
 clear C0
 go_wp2_with fail
 with_reducible refine (HK.out _ HB0.out).mono ?_
 rintro e w9 ⟨g',cap',rfl,hs⟩
 have hs:=hs.onward HB0.out
 have hs2:=zz ((hs.var (iA c g' cap' ⟨head,k,0,-1,false,0⟩) 327).swap)
 clear c0 c1 c2 c3 c4 c5 c6 c7 c8 HK HB0 HC0 hs
 unfold cfV
 simp only [iA] at hs2
 go_wp2_with fail
 go_ret
 exact ⟨_,g',cap',rfl,hs2.out⟩
theorem find_read (i k:Nat) (hc:c.ok) (hi:i<c.frags) (hk:k<8) (hn:i*8+k<n) (hn2:n≤20000) (h:(Sep (dK b c g cap f) (Mem bm gm n m)).at_ S w):
 Calls prog 320 #[.pointer (some ⟨b,0,none⟩),.pointer (some ⟨bm,0,none⟩),.int .i64 (i:Int),.int .i64 (k:Int)] w fun e w'=>e=.returned (.tuple #[m (i*8+k),.bool true])∧aA (Sep (dK b c g cap f) (Mem bm gm n m)) S w w':=by
 have g0:=aA.begin h
 obtain ⟨c0,c1,c2,c3,c4,c5,c6,c7,c8⟩:=fd9 g0.l
 have HA:=zz (eQ i k hc g0.l.r.is hi hk)
 have G0:=zz g0
 clear g0 h hc
 unfold cfV at*
 go_enter func320,ntmps320
 go_wp2_with fail
 refine qz (HA.out) fun w1 hb=>?_
 have G1:=G0.out.below_ hb
 have HM:=zz (G1.call (cY fun S h=>mem_read (i*8+k) h hn hn2))
 rw [show (((i*8+k:Nat)):Int)=(i:Int)*8+k by omega] at HM
 clear c0 c1 c2 c3 c4 c5 c6 c7 c8 G0 hb HA G1
 go_wp2_with fail
 refine qz (HM.out) fun w2 hg=>?_
 have G2:=zz hg
 clear hg HM
 go_wp2_with fail
 go_ret2
 exact ⟨rfl,G2.out⟩
theorem find_stands (i k:Nat) (hc:c.ok) (hi:i<c.frags) (hk:k<8) (h:(dK b c g cap f).at_ S w):
 Calls prog 322 #[.pointer (some ⟨b,0,none⟩),.int .i64 (i:Int),.int .i64 (k:Int)] w fun e w'=>e=.returned (.bool true)∧aA (dK b c g cap {f with pc:=6,at_:=((i*8+k:Nat):Int)}) S w w':=by
 have g0:=aA.begin h
 obtain ⟨c0,c1,c2,c3,c4,c5,c6,c7,c8⟩:=fd9 g0
 have HA:=zz (eQ i k hc g0.r.is hi hk)
 have G0:=zz g0
 clear g0 h hc
 unfold cfV at*
 go_enter func322,ntmps322
 go_wp2_with fail
 refine qz (HA.out) fun w1 hb=>?_
 have G1:=G0.out.below_ hb
 have d0:=G1.c 12 rfl
 have f0:=G1.fr 12
 have G2:=G1.put 12 (.int .i64 6) (cs':=iA c g cap {f with pc:=6}) rfl
 have d1:=G2.c 19 rfl
 have f1:=G2.fr 19
 have G3:=zz (G2.put 19 (.int .i64 ((i*8+k:Nat):Int)) (cs':=iA c g cap {f with pc:=6,at_:=((i*8+k:Nat):Int)}) rfl)
 clear c0 c1 c2 c3 c4 c5 c6 c7 c8 G0 hb HA G1 G2
 go_wp2_with fail
 go_ret
 exact ⟨rfl,G3.out⟩
theorem find_first (hc:c.ok) (hs:c.shapes[0]? = some (false,l)) (hk:l[f.k]? = some rb) (hmd:md≤1) (hh:f.head<c.frags) (h:(dK b c g cap f).at_ S w):
 Calls prog 321 #[.pointer (some ⟨b,0,none⟩),cx 0 md] w fun e w'=>e=.returned (.bool false)∧aA (dK b c g cap {f with pc:=6,at_:=((f.head*8+(2+f.k):Nat):Int),ref:=rb}) S w w':=by
 have g0:=aA.begin h
 obtain ⟨c0,c1,c2,c3,c4,c5,c6,c7,c8⟩:=fd9 g0
 have hl6:l.length≤6:=(hc.shape _ (List.mem_of_getElem? hs)).1
 have hkl:f.k<l.length:=(List.getElem?_eq_some_iff.1 hk).1
 have HP:=zz (fun (x1:Option Addr) (k1:Nat) w=>fR x1 l.length k1 f.k w hl6 hkl)
 have HT:=zz (fun w=>jA 0 md w (by omega) (by omega))
 have HA:=zz (dM (i:=0) hc g0.r.is hs)
 rw [show ((0:Nat):Int)=0 from rfl] at HA
 have G0:=zz g0
 have HC:=zz hc
 have HK:=zz hk
 clear g0 h hc hs hk
 unfold cfV cx at*
 generalize fl 0=x0 at*
 generalize fl md=x1 at*
 go_enter func321,ntmps321
 go_wp2_with fail
 refine qq (HT.out _) ?_
 go_wp2_with fail
 with_reducible refine HA.out.mono ?_
 rintro e w1 ⟨v1,rfl,hb,S1,hr,hs1⟩
 have G1:=G0.out.below_ hb
 obtain ⟨x1,k1,rfl⟩:=hr.slice
 rcases hr with ⟨rfl,_⟩|⟨r,cap1,cs1,t1,_,he,_,_,hSr,hbr,hget⟩
 · simp at hkl
 cases he
 have hbRB:∃ csr tr,Blk (w1.alloc (.cells #[.bool false,.slice (some ⟨r,0,none⟩) l.length k1] 55)) r csr tr∧csr[f.k]? = some (.bool rb):=⟨_,_,hbr.alloc _,hget f.k rb HK.out⟩
 have hbR:=(hbr.alloc (.cells #[.bool false,.slice (some ⟨r,0,none⟩) l.length k1] 55)).cell f.k
 rw [hget f.k rb HK.out] at hbR
 have hbT:=Blk.new w1 #[.bool false,.slice (some ⟨r,0,none⟩) l.length k1] 55
 have e0:=hbT.cell 0
 have e1:=hbT.cell 1
 have G2:=G1.alloc_ (.cells #[.bool false,.slice (some ⟨r,0,none⟩) l.length k1] 55)
 have hTb:w1.heap.size<(w1.alloc (.cells #[.bool false,.slice (some ⟨r,0,none⟩) l.length k1] 55)).heap.size:=by simp
 clear HT HA c0 c1 c2 c3 c4 c5 c6 c7 c8 G0 hbr hget hSr hs1 hb G1
 go_upto_region 3 with fail
 generalize hq:w1.heap.size=q at*
 generalize w1.alloc _=w2 at*
 simp at e0 e1
 have k3:=G2.cb 11 false
 have k1c:=G2.ci 10 (f.k:Int)
 have kh:=G2.ci 9 (f.head:Int)
 obtain rfl|rfl:md=0∨md=1:=by omega
 all_goals
  go_wp2_with fail
  go_quiet (fail)
  have G3:=G2.drewN_ nq
  have hbT3:Blk (w2.drewN nq) q #[.bool false,.slice (some ⟨r,0,none⟩) l.length k1] 55:=hbT
  have hbR3:∃ csr tr,Blk (w2.drewN nq) r csr tr∧csr[f.k]? = some (.bool rb):=hbRB
  clear e0 e1 k3 k1c kh G2 hbT hbR hbRB hTb
  generalize w2.drewN nq=w3 at*
  have e0:=hbT3.cell 0
  have e1:=hbT3.cell 1
  simp at e0 e1
  have k3:=G3.cb 11 false
  have k1c:=G3.ci 10 (f.k:Int)
  go_wp2_with fail
  go_region_held3 (fun w'=>w'.cell? ⟨q,0,none⟩=some (.bool false)∧w'.cell? ⟨q,1,none⟩=some (.slice (some ⟨r,0,none⟩) l.length k1)∧w'.cell? ⟨b,10,none⟩=some (.int .i64 (f.k:Int))) (first|exact ⟨e0,e1,k1c⟩|exact ⟨p0,p1,p2⟩)
   ((go_at_call 175;(with_reducible refine (HP.out _ _ _).mono ?_);rintro e w7 ⟨rfl,hb7⟩;have G7:=(G3.drew_).below_ hb7;have hbT7:=aK (w:=w3.drew) hbT3 hb7;have p0:=hbT7.cell 0;have p1:=hbT7.cell 1;have p2:=G7.ci 10 (f.k:Int)))
  obtain ⟨csr,tr,hR3,hrb⟩:=hbR3
  have hR7:=aK (w:=w3.drew) hR3 hb7
  have r7:=hR7.cell f.k
  rw [hrb] at r7
  have q7:=G7.ci 10 (f.k:Int)
  have q9:=G7.ci 9 (f.head:Int)
  have q20:=G7.cb 20 f.ref
  have fq:=G7.fr 20
  have G8:=(G7.put 20 (.bool rb) (cs':=iA c g cap {f with ref:=rb}) rfl).drew_
  have HS:=zz (G8.call fun S h=>find_stands f.head (2+f.k) HC.out hh (by omega) h)
  rw [show ((2+f.k:Nat):Int)=2+(f.k:Int) by omega] at HS
  have hhI:(f.head:Int)≤1024:=by have:=HC.out.frags;omega
  have s0:=p0
  have s1:=p1
  clear HP e0 e1 k3 k1c hb7 hbT7 hbT3 G3 hR3 hrb hR7 G8 G7 p2
  have hk1:(f.k:Int)<6:=by omega
  have hk3:(f.k:Int)<l.length:=by omega
  go_wp2_with fail
  go_still_tail 11,(by kernel_rfl)
  change wpList _ _ _ _ _ w7.drew
  go_wp2_with fail
  refine qz (HS.out) fun w' hg=>?_
  have HG:=zz hg
  clear HS hg
  go_wp2_with fail
  go_ret
  exact ⟨rfl,HG.out⟩
end
section
variable {f:Fd}
def Fd.found (f:Fd) (rb:Bool):Fd:={f with pc:=6,at_:=((f.head*8+(2+f.k):Nat):Int),ref:=rb}
theorem find_begins (hc:c.ok) (hs:c.shapes[0]? = some (false,l)) (hk:l[f.k]? = some rb) (hmd:md≤1) (hh:f.head<c.frags) (hpc:f.pc=0)
 (hn:f.head*8+1<n) (hn2:n≤20000) (hm:m (f.head*8+1)=cx 0 md) (h:(Sep (dK b c g cap f) (Mem bm gm n m)).at_ S w):
 Calls prog 284 #[.pointer (some ⟨b,0,none⟩),.pointer (some ⟨bm,0,none⟩)] w fun e w'=>e=.returned (.bool true)∧aA (Sep (dK b c g cap (f.found rb)) (Mem bm gm n m)) S w w':=by
 have g0:=aA.begin h
 have c12:=g0.l.ci 12 f.pc
 have c9:=g0.l.ci 9 (f.head:Int)
 rw [hpc] at c12
 have HR:=zz (g0.call fun S h=>find_read f.head 1 hc hh (by omega) hn hn2 h)
 rw [hm] at HR
 have HF:=zz (fun w1 (hg:aA (Sep (dK b c g cap f) (Mem bm gm n m)) S w w1)=>hg.call (bR fun S h=>find_first hc hs hk hmd hh h))
 rw [show ((1:Nat):Int)=1 from rfl] at HR
 clear g0 h hc hs hk hm hpc
 unfold cx at*
 generalize fl 0=x0 at*
 generalize fl md=x1 at*
 go_enter func284,ntmps284
 go_wp2_with fail
 go_step3
 go_wp2_with fail
 refine qz (HR.out) fun w1 hg=>?_
 have HF1:=zz (HF.out _ hg)
 clear HR HF hg c12 c9
 go_wp2_with fail
 refine qz (HF1.out) fun w2 hg=>?_
 have HG:=zz hg
 clear hg HF1
 go_wp2_with fail
 (try rw [Exit.noGoto_ret])
 go_ret
 exact ⟨rfl,HG.out⟩
theorem find_step (hc:c.ok) (hs:c.shapes[0]? = some (false,l)) (hk:l[f.k]? = some rb) (hmd:md≤1) (hh:f.head<c.frags) (hpc:f.pc=0)
 (hn:f.head*8+1<n) (hn2:n≤20000) (hm:m (f.head*8+1)=cx 0 md) (h:(Sep (dK b c g cap f) (Mem bm gm n m)).at_ S w):
 Calls prog 228 #[.pointer (some ⟨b,0,none⟩),.pointer (some ⟨bm,0,none⟩)] w fun e w'=>e=.returned (.bool true)∧aA (Sep (dK b c g cap (Fd.found {f with steps:=wrap64 (f.steps+1)} rb)) (Mem bm gm n m)) S w w':=by
 have g0:=aA.begin h
 have c12:=g0.l.ci 12 f.pc
 have c22:=g0.l.ci 22 f.steps
 have f22:=g0.l.fr 22
 rw [hpc] at c12
 have g1:=g0.then (aG (fun S h=>(aA.begin h).put 22 (.int .i64 (wrap64 (f.steps+1))) (cs':=iA c g cap {f with steps:=wrap64 (f.steps+1)}) rfl))
 have d12:=g1.l.ci 12 f.pc
 rw [hpc] at d12
 have HB:=zz (g1.call fun S h=>find_begins (f:={f with steps:=wrap64 (f.steps+1)}) hc hs hk hmd hh hpc hn hn2 hm h)
 clear g0 g1 h hc hs hk hm hpc
 go_enter func228,ntmps228
 go_wp2_with fail
 refine qz (HB.out) fun w1 hg=>?_
 have HG:=zz hg
 clear hg HB
 go_wp2_with fail
 go_ret
 exact ⟨rfl,HG.out⟩
theorem find_errno (h:(dK b c g cap f).at_ S w):Calls prog 229 #[.pointer (some ⟨b,0,none⟩)] w fun e w'=>e=.returned (.int .i64 0)∧w=w':=by
 have c0:=(aA.begin h).ci 21 0
 clear h
 go_enter func229,ntmps229
 go_wp2_with fail
 go_ret
 exact ⟨rfl,rfl⟩
end
end
section
attribute [local go_sem] aF
open Go.RowKit
variable {b:Bool} {l:List Bool} {xs ys:List Value} {cap g i j k n o sz:Nat} {S:Nat→Prop} {a:Option Addr} {v x:Value} {w w':World}
def seqAt (sz:Nat) (v:Value) (n:Nat) (xs:List Value) (S:Nat→Prop) (w:World):Prop:=
 ∃ (g o cap:Nat) (cs:Array Value) (t:TypeId),v=.slice (some ⟨g,o,none⟩) n cap∧n≤cap∧cap≤maxLen∧xs.length=n*sz∧Blk w g cs t∧S g∧(∀ (i:Nat) (x:Value),xs[i]? = some x→cs[o+i]? = some x)∧∀ k,S k→k<w.heap.size
def Seq (sz:Nat) (v:Value) (n:Nat) (xs:List Value):aC where
 at_:=seqAt sz v n xs
 lt:=fun ⟨_,_,_,_,_,_,_,_,_,_,_,_,h⟩=>h
 kept:=fun ⟨g,o,cap,cs,t,h1,h2,h3,h4,h5,h6,h7,h8⟩ hk hs=>⟨g,o,cap,cs,t,h1,h2,h3,h4,by unfold Blk at *;rw [hk g h6];exact h5,h6,h7,fun k hS=>Nat.lt_of_lt_of_le (h8 k hS) hs⟩
theorem cX {e:Nat} (h:(cQ e sz v n xs).at_ S w) (hn:n≠0):(Seq sz v n xs).at_ S w:=by
 obtain ⟨⟨h1,h2⟩,h3⟩:=h
 rcases h2 with ⟨_,h⟩|⟨g,cap,cur,rfl,_,h4,h5,h6,h7,h8⟩
 · exact absurd h hn
 · refine ⟨g,0,cap,cur,e,rfl,h5,h6,h1,h4,(h3 g).2 rfl,fun i x hx=>?_,fun k hk=>?_⟩
   · rw [←h8,List.getElem?_take] at hx
     split at hx
     · simpa using hx
     · simp at hx
   · have:=(h3 k).1 hk
     simp [Value.ownBlock] at this;subst this
     exact lt_of_block h4
theorem seq_tail (hys:ys.length=sz) (h:(Seq sz (.slice (some ⟨g,o,none⟩) (n+1) cap) (n+1) (ys++xs)).at_ S w):
 (Seq sz (.slice (some ⟨g,o+sz,none⟩) n (cap-1)) n xs).at_ S w:=by
 obtain ⟨g',o',cap',cs,t,h1,h2,h3,h4,h5,h6,h7,h8⟩:=h
 cases h1
 refine ⟨g,o+sz,cap-1,cs,t,rfl,by omega,by omega,?_,h5,h6,fun i x hx=>?_,h8⟩
 · simp [hys,Nat.add_mul] at h4;omega
 · have:=h7 (sz+i) x (by rw [List.getElem?_append_right (by omega)];simpa [hys] using hx)
   rw [Nat.add_assoc];exact this
theorem aA.seq (h:aA (Seq sz (.slice (some ⟨g,o,none⟩) n cap) n xs) S w w') (hx:xs[i]? = some x):w'.cell? ⟨g,o+i,none⟩=some x:=by
 obtain ⟨⟨S',⟨g',o',cap',cs,t,h1,h2,h3,h4,h5,h6,h7,h8⟩,_⟩,_⟩:=h
 cases h1
 rw [h5.cell];exact h7 i x hx
theorem bN (h:(Seq sz v n xs).at_ S w):∃ g o cap,v=.slice (some ⟨g,o,none⟩) n cap∧n≤cap∧cap≤maxLen:=by
 obtain ⟨g,o,cap,cs,t,h1,h2,h3,_⟩:=h;exact ⟨g,o,cap,h1,h2,h3⟩
def refsThing (v:Value) (l:List Bool) (S:Nat→Prop) (w:World):Prop:=cL v l S w∧∀ k,S k→k<w.heap.size
def dS (v:Value) (l:List Bool):aC where
 at_:=refsThing v l
 lt:=fun ⟨_,h⟩=>h
 kept:=fun ⟨h1,h2⟩ hk hs=>⟨h1.kept hk,fun k hS=>Nat.lt_of_lt_of_le (h2 k hS) hs⟩
theorem aA.refs (h:aA (dS v l) S w w') (hv:v=.slice a n k) (hj:l[j]? = some b):∃ r,a=some ⟨r,0,none⟩∧w'.cell? ⟨r,j,none⟩=some (.bool b):=by
 obtain ⟨⟨S',⟨h1,_⟩,_⟩,_⟩:=h
 rcases h1 with ⟨rfl,_⟩|⟨r,cap,cs,t,h0,h2,h3,h4,h5,h6,h7⟩
 · simp at hj
 · subst hv;cases h2
   exact ⟨r,rfl,by rw [h6.cell];exact h7 j b hj⟩
end
section
attribute [local go_sem] aF
open Go.Proofs.Tryz
open Go.RowKit
variable {b cap:Nat} {S:Nat→Prop} {a:Option Addr} {w w':World}
def Stk (b:Nat):aC:=Var b #[.slice none 0 0,.int .i64 0] 265
def Lne (b:Nat) (a:Option Addr) (cap:Nat):aC:=Var b #[.slice a 0 cap] 263
def dC:Value:=.agg #[.int .i64 0,.int .i64 0,.int .i64 0,.int .i64 0,.int .i64 0,.int .i64 0,.slice none 0 0]
section
theorem stock_take (h:(Stk b).at_ S w):Calls prog 316 #[.pointer (some ⟨b,0,none⟩),.int .i64 1] w fun e w'=>e=.returned (.tuple #[.slice none 0 0,.bool false])∧w=w':=by
 have c0:=(aA.begin h).vC 0 (.slice none 0 0)
 clear h
 go_enter func316,ntmps316
 go_wp2_with fail
 go_ret2
 exact ⟨rfl,rfl⟩
theorem stock_room (h:(Stk b).at_ S w):Calls prog 318 #[.pointer (some ⟨b,0,none⟩)] w fun e w'=>e=.returned (.int .i64 0)∧Below w.heap.size w w':=by
 have c0:=(aA.begin h).vC 0 (.slice none 0 0)
 have c1:=(aA.begin h).vi 1 0
 clear h
 go_enter func318,ntmps318
 go_wp2_with fail
 go_quiet (fail)
 go_wp2_with fail
 go_ret
 exact ⟨rfl,below_drewN (Below.refl _ _) _⟩
theorem stock_drain (h:(Stk b).at_ S w):Calls prog 216 #[.pointer (some ⟨b,0,none⟩)] w fun e w'=>e=.returned (.slice none 0 0)∧aA (Stk b) S w w':=by
 have g0:=aA.begin h
 have c0:=g0.vC 0 (.slice none 0 0)
 have f0:=g0.vf 0
 have HG:=zz (g0.vput 0 (.slice none 0 0) (cs':=#[.slice none 0 0,.int .i64 0]) rfl)
 clear h g0
 go_enter func216,ntmps216
 go_wp2_with fail
 go_ret
 exact ⟨rfl,HG.out⟩
theorem stock_new (w:World):Calls prog 120 #[.int .i64 0] w fun e w'=>∃ b,e=.returned (.tuple #[.pointer (some ⟨b,0,none⟩),.int .i64 0])∧St w (Stk b) w':=by
 have hs:=zz (St.fresh (w:=w) #[.slice none 0 0,.int .i64 0] 265)
 go_enter func120,ntmps120
 go_wp2_with fail
 go_ret2
 exact ⟨_,rfl,hs.out⟩
theorem append_none (w:World):(Builtin.append_ #[22,22] 22 #[.slice none 0 0,.slice none 0 0]).run prog w=.ok (.slice none 0 0) w:=by
 obtain ⟨i0,hi,hz0,hz1,hz2⟩:=info_parts Tryz.info3
 simp [Builtin.append_,run_underlying underlying22,sizeOf,typeInfo,hi,Builtin.lenOf,Builtin.firstCells,loadCells,loadCellsFrom]
theorem stock_put (h:(Stk b).at_ S w):Calls prog 319 #[.pointer (some ⟨b,0,none⟩),.slice none 0 0] w fun e w'=>e=.returned (.bool true)∧aA (Stk b) S w w':=by
 have HR:=zz (stock_room h)
 have HH:=zz h
 have ha:=append_none
 clear h
 go_enter func319,ntmps319
 go_wp2_with fail
 refine qz (HR.out) fun w1 hb=>?_
 have g0:=aA.later HH.out hb
 have c0:=g0.vC 0 (.slice none 0 0)
 have f0:=g0.vf 0
 have HG:=zz (g0.vput 0 (.slice none 0 0) (cs':=#[.slice none 0 0,.int .i64 0]) rfl)
 clear HR HH hb g0
 go_wp2_with fail
 go_ret
 exact ⟨rfl,HG.out⟩
theorem stock_side (a:Option Addr) (k:Nat) (w:World):Calls prog 263 #[.slice a 1 k] w fun e w'=>e=.returned (.bool true)∧w=w':=by
 go_enter func263,ntmps263
 go_wp2_with fail
 go_loop [3] (fun i=>i=.int .i64 1) (fun _=>0)
 case atStart=>exact rfl
 case round=>
  obtain rfl:=hrel
  go_wp2_with fail
  go_ret
  exact ⟨rfl,rfl⟩
theorem line_new (w:World):Calls prog 119 #[] w fun e w'=>∃ b,e=.returned (.pointer (some ⟨b,0,none⟩))∧St w (Lne b none 0) w':=by
 have hs:=zz (St.fresh (w:=w) #[.slice none 0 0] 263)
 go_enter func119,ntmps119
 go_wp2_with fail
 go_ret
 exact ⟨_,rfl,hs.out⟩
theorem line_index (fv:Value) (w:World):Calls prog 309 #[.slice a 0 cap,fv] w fun e w'=>e=.returned (.int .i64 (-1))∧w=w':=by
 go_enter func309,ntmps309
 go_wp2_with fail
 go_loop [5,8] (fun _ i=>i=.int .i64 0) (fun _ _=>0)
 case atStart=>exact rfl
 case round=>
  obtain rfl:=hrel
  go_wp2_with fail
  go_ret
  exact ⟨rfl,rfl⟩
theorem line_of (t:Int) (h:(Lne b a cap).at_ S w):Calls prog 287 #[.pointer (some ⟨b,0,none⟩),.int .i64 t] w fun e w'=>e=.returned (.int .i64 (-1))∧Below w.heap.size w w':=by
 have hb:=(Below.refl w.heap.size w).alloc (Nat.le_refl _) (.cells #[.int .i64 t] 3)
 have c0:=((aA.begin h).below_ hb).vC 0 (.slice a 0 cap)
 have HB:=zz hb
 clear h hb
 go_enter func287,ntmps287
 go_upto_region 1 with fail
 generalize w.alloc _=w1 at*
 go_wp2_with fail
 refine qq (line_index _ _) ?_
 go_wp2_with fail
 go_ret
 exact ⟨rfl,HB.out⟩
theorem line_first (h:(Lne b a cap).at_ S w):Calls prog 259 #[.pointer (some ⟨b,0,none⟩)] w fun e w'=>e=.returned (.int .i64 (-1))∧w=w':=by
 have c0:=(aA.begin h).vC 0 (.slice a 0 cap)
 clear h
 go_enter func259,ntmps259
 go_wp2_with fail
 refine qq (line_index _ _) ?_
 go_wp2_with fail
 go_ret
 exact ⟨rfl,rfl⟩
def aS:Array Value:=#[.int .i64 0,.int .i64 0,.int .i64 0,.int .i64 0,.int .i64 0,.int .i64 0,.slice none 0 0]
theorem line_at (p:Value) (w:World):Calls prog 258 #[p,.int .i64 (-1)] w fun e w'=>e=.returned (.tuple #[dC,.bool false])∧Below w.heap.size w w':=by
 have D0:=Blk.new w aS 272
 have hb:=(Below.refl w.heap.size w).alloc (Nat.le_refl _) (.cells aS 272)
 have F0:=D0.fill aS.toList rfl
 have HB:=zz (bX (a:=w) (Nat.le_refl _) aS.toList _ 0 hb)
 have d0:=D0.cell 0
 have d1:=D0.cell 1
 have d2:=D0.cell 2
 have d3:=D0.cell 3
 have d4:=D0.cell 4
 have d5:=D0.cell 5
 have d6:=D0.cell 6
 have f0:=D0.free 0
 have f1:=D0.free 1
 have f2:=D0.free 2
 have f3:=D0.free 3
 have f4:=D0.free 4
 have f5:=D0.free 5
 have f6:=D0.free 6
 have e0:=F0.cell 0
 have e1:=F0.cell 1
 have e2:=F0.cell 2
 have e3:=F0.cell 3
 have e4:=F0.cell 4
 have e5:=F0.cell 5
 have e6:=F0.cell 6
 unfold dC
 simp only [aS,setCells] at*
 simp only [List.getElem?_toArray,List.size_toArray,List.getElem?_cons_zero,List.getElem?_cons_succ] at d0 d1 d2 d3 d4 d5 d6 e0 e1 e2 e3 e4 e5 e6
 clear D0 hb F0
 go_enter func258,ntmps258
 go_upto_region 1 with fail
 generalize w.alloc _=w1 at*
 go_wp2_with fail
 exact bodyPost_ret (v:=.tuple #[.agg #[.int .i64 0,.int .i64 0,.int .i64 0,.int .i64 0,.int .i64 0,.int .i64 0,.slice none 0 0],.bool false]) (by simp [results,results258,go_sem,e0,e1,e2,e3,e4,e5,e6]) rfl ⟨rfl,HB.out⟩
theorem line_Of (t:Int) (h:(Lne b a cap).at_ S w):Calls prog 238 #[.pointer (some ⟨b,0,none⟩),.int .i64 t] w fun e w'=>e=.returned (.tuple #[dC,.bool false])∧Below w.heap.size w w':=by
 have D0:=Blk.new w aS 272
 have hb:=(Below.refl w.heap.size w).alloc (Nat.le_refl _) (.cells aS 272)
 have h1:=keep h hb
 have HB:=zz hb
 have HD:=zz D0
 have HO:=zz (line_of t h1)
 simp only [aS] at*
 clear h hb D0 h1
 go_enter func238,ntmps238
 go_upto_region 1 with fail
 generalize w.alloc _=w1 at*
 go_wp2_with fail
 refine qz (HO.out) fun w2 hb2=>?_
 have D2:=aK HD.out hb2
 have B2:=HB.out.trans (hb2.mono HB.out.size)
 clear HO HD HB hb2
 go_wp2_with fail
 refine qz (line_at _ _) fun w3 hb3=>?_
 have D3:=aK D2 hb3
 have B3:=B2.trans (hb3.mono B2.size)
 clear hb3 D2 B2
 have F0:=D3.fill aS.toList rfl
 have HB:=zz (bX (a:=w) (Nat.le_refl _) aS.toList _ 0 B3)
 have d0:=D3.cell 0
 have f0:=D3.free 0
 have e0:=F0.cell 0
 have d1:=D3.cell 1
 have f1:=D3.free 1
 have e1:=F0.cell 1
 have d2:=D3.cell 2
 have f2:=D3.free 2
 have e2:=F0.cell 2
 have d3:=D3.cell 3
 have f3:=D3.free 3
 have e3:=F0.cell 3
 have d4:=D3.cell 4
 have f4:=D3.free 4
 have e4:=F0.cell 4
 have d5:=D3.cell 5
 have f5:=D3.free 5
 have e5:=F0.cell 5
 have d6:=D3.cell 6
 have f6:=D3.free 6
 have e6:=F0.cell 6
 unfold dC
 simp only [aS,setCells] at*
 simp only [List.getElem?_toArray,List.size_toArray,List.getElem?_cons_zero,List.getElem?_cons_succ] at d0 d1 d2 d3 d4 d5 d6 e0 e1 e2 e3 e4 e5 e6
 clear D3 B3 F0
 go_wp2_with fail
 exact bodyPost_ret (v:=.tuple #[.agg #[.int .i64 0,.int .i64 0,.int .i64 0,.int .i64 0,.int .i64 0,.int .i64 0,.slice none 0 0],.bool false]) (by simp [results,results238,go_sem,e0,e1,e2,e3,e4,e5,e6]) rfl ⟨rfl,HB.out⟩
theorem line_First (h:(Lne b a cap).at_ S w):Calls prog 207 #[.pointer (some ⟨b,0,none⟩)] w fun e w'=>e=.returned (.tuple #[dC,.bool false])∧Below w.heap.size w w':=by
 have D0:=Blk.new w aS 272
 have hb:=(Below.refl w.heap.size w).alloc (Nat.le_refl _) (.cells aS 272)
 have h1:=keep h hb
 have HB:=zz hb
 have HD:=zz D0
 have HO:=zz (line_first h1)
 simp only [aS] at*
 clear h hb D0 h1
 go_enter func207,ntmps207
 go_upto_region 1 with fail
 generalize w.alloc _=w1 at*
 go_wp2_with fail
 refine qq (HO.out) ?_
 have hb2:Below w1.heap.size w1 w1:=Below.refl _ _
 have D2:=aK HD.out hb2
 have B2:=HB.out.trans (hb2.mono HB.out.size)
 clear HO HD HB hb2
 go_wp2_with fail
 refine qz (line_at _ _) fun w3 hb3=>?_
 have D3:=aK D2 hb3
 have B3:=B2.trans (hb3.mono B2.size)
 clear hb3 D2 B2
 have F0:=D3.fill aS.toList rfl
 have HB:=zz (bX (a:=w) (Nat.le_refl _) aS.toList _ 0 B3)
 have d0:=D3.cell 0
 have f0:=D3.free 0
 have e0:=F0.cell 0
 have d1:=D3.cell 1
 have f1:=D3.free 1
 have e1:=F0.cell 1
 have d2:=D3.cell 2
 have f2:=D3.free 2
 have e2:=F0.cell 2
 have d3:=D3.cell 3
 have f3:=D3.free 3
 have e3:=F0.cell 3
 have d4:=D3.cell 4
 have f4:=D3.free 4
 have e4:=F0.cell 4
 have d5:=D3.cell 5
 have f5:=D3.free 5
 have e5:=F0.cell 5
 have d6:=D3.cell 6
 have f6:=D3.free 6
 have e6:=F0.cell 6
 unfold dC
 simp only [aS,setCells] at*
 simp only [List.getElem?_toArray,List.size_toArray,List.getElem?_cons_zero,List.getElem?_cons_succ] at d0 d1 d2 d3 d4 d5 d6 e0 e1 e2 e3 e4 e5 e6
 clear D3 B3 F0
 go_wp2_with fail
 exact bodyPost_ret (v:=.tuple #[.agg #[.int .i64 0,.int .i64 0,.int .i64 0,.int .i64 0,.int .i64 0,.int .i64 0,.slice none 0 0],.bool false]) (by simp [results,results207,go_sem,e0,e1,e2,e3,e4,e5,e6]) rfl ⟨rfl,HB.out⟩
theorem line_begin (h:(Lne b a cap).at_ S w):Calls prog 190 #[.pointer (some ⟨b,0,none⟩)] w fun e w'=>e=.returned (.tuple #[])∧w=w':=by
 have c0:=(aA.begin h).vC 0 (.slice a 0 cap)
 clear h
 go_enter func190,ntmps190
 go_wp2_with fail
 go_loop [2,8] (fun _ i=>i=.int .i64 0) (fun _ _=>0)
 case atStart=>exact rfl
 case round=>
  obtain rfl:=hrel
  go_wp2_with fail
  go_end0
  exact ⟨rfl,rfl⟩
theorem line_end (h:(Lne b a cap).at_ S w):Calls prog 206 #[.pointer (some ⟨b,0,none⟩)] w fun e w'=>e=.returned (.tuple #[])∧w=w':=by
 have c0:=(aA.begin h).vC 0 (.slice a 0 cap)
 clear h
 go_enter func206,ntmps206
 go_wp2_with fail
 go_loop [2,3,9] (fun _ _ i=>i=.int .i64 0) (fun _ _ _=>0)
 case atStart=>exact rfl
 case round=>
  obtain rfl:=hrel
  go_wp2_with fail
  go_end0
  exact ⟨rfl,rfl⟩
theorem line_waits (h:(Lne b a cap).at_ S w):Calls prog 188 #[.pointer (some ⟨b,0,none⟩)] w fun e w'=>e=.returned (.int .i64 0)∧w=w':=by
 have c0:=(aA.begin h).vC 0 (.slice a 0 cap)
 clear h
 go_enter func188,ntmps188
 go_wp2_with fail
 go_loop [3,5,11] (fun n _ i=>n=.int .i64 0∧i=.int .i64 0) (fun _ _ _=>0)
 case atStart=>exact ⟨rfl,rfl⟩
 case round=>
  obtain ⟨rfl,rfl⟩:=hrel
  go_wp2_with fail
  go_ret
  exact ⟨rfl,rfl⟩
end
end
end Go.Proofs.YtgcmiahhkalfmaaGreat
