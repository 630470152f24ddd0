import Derived.Test.YtgcmiahhkalfmaaGreatM3
set_option maxRecDepth 100000
set_option maxHeartbeats 8000000
set_option linter.unusedVariables false
set_option linter.unusedSimpArgs false
namespace Go.Proofs.YtgcmiahhkalfmaaGreat
open Go.Proofs.Tryz
open Go.RowKit
variable {cs:Array Value} {hd0 s sn0:Bool} {i st:Int} {b g j k n:Nat} {S:Nat→Prop} {c1 c2 c3 v v1 v2 v3:Value} {w:World}
structure One where
 st:Nat
 hd:Bool
 sn:Bool
def eP (cs:Array Value) (n:Nat) (f:Nat→One):Prop:=
 cs.size=n*3∧∀ i,i<n→cs[i*3]? = some (.int .i64 ((f i).st:Int))∧cs[i*3+1]? = some (.bool (f i).hd)∧cs[i*3+2]? = some (.bool (f i).sn)
def cnt (f:Nat→One) (s:Nat):Nat→Int
 | 0=>0
 | k+1=>cnt f s k+if (f k).st=s then 1 else 0
theorem cnt_bd (f:Nat→One) (s:Nat):∀ k,0≤cnt f s k∧cnt f s k≤k
 | 0=>⟨Int.le_refl _,Int.le_refl _⟩
 | k+1=>by have:=cnt_bd f s k;simp only [cnt];split<;>omega
def upd (f:Nat→One) (i:Nat) (x:One):Nat→One:=fun k=>if k=i then x else f k
theorem kL (f:Nat→One) (i:Nat) (x:One):upd f i x i=x:=by simp [upd]
theorem jB (f:Nat→One) {i:Nat} (x:One) (h:k≠i):upd f i x k=f k:=by simp [upd,h]
theorem lI (f:Nat→One) (i:Nat) (x:One) (s:Nat):∀ n,cnt (upd f i x) s n=cnt f s n+(if i<n then (if x.st=s then 1 else 0)-(if (f i).st=s then 1 else 0) else 0)
 | 0=>by simp [cnt]
 | n+1=>by
  simp only [cnt,lI f i x s n]
  by_cases h:n=i
  · subst h;simp only [kL];simp;omega
  · rw [jB f x h]
    have e:(i<n+1)↔(i<n):=by omega
    simp only [e];omega
def tabAt (b n:Nat) (f:Nat→One) (S:Nat→Prop) (w:World):Prop:=
 ∃ g cs,Blk w b #[.slice (some ⟨g,0,none⟩) n n,.int .i64 (cnt f 0 n),.int .i64 (cnt f 1 n),.int .i64 (cnt f 2 n)] 183∧Blk w g cs 202∧eP cs n f∧S b∧S g∧b≠g∧
  (∀ i,i<n→(f i).st≤2)∧n≤1024∧∀ k,S k→k<w.heap.size
def Tab (b n:Nat) (f:Nat→One):aC where
 at_:=tabAt b n f
 lt:=fun ⟨_,_,_,_,_,_,_,_,_,_,h⟩=>h
 kept:=fun ⟨g,cs,h1,h2,h3,h4,h5,h6,h7,h8,h9⟩ hk hs=>
  ⟨g,cs,by unfold Blk at *;rw [hk b h4];exact h1,by unfold Blk at *;rw [hk g h5];exact h2,h3,h4,h5,h6,h7,h8,fun k hS=>Nat.lt_of_lt_of_le (h9 k hS) hs⟩
def tIn (n:Nat) (i:Int):Prop:=0≤i∧i<n
instance (n:Nat) (i:Int):Decidable (tIn n i):=by unfold tIn;infer_instance
def fJ (n:Nat) (f:Nat→One) (i:Int):Nat:=if tIn n i then (f i.toNat).st else 0
def iH (n:Nat) (f:Nat→One) (i:Int):Bool:=if tIn n i then (f i.toNat).hd else false
def jV (n:Nat) (f:Nat→One) (i:Int) (s:Bool):Bool:=if tIn n i then (f i.toNat).st==2&&((f i.toNat).sn==s) else false
section
variable {f:Nat→One}
theorem tint_state_in (k:Nat) (h:Blk w b #[.slice (some ⟨g,0,none⟩) n n,c1,c2,c3] 183) (hg:Blk w g cs 202) (h3:eP cs n f) (hk:k<n) (_hn:n≤1024):
 Calls prog 53 #[.pointer (some ⟨b,0,none⟩),.int .i64 (k:Int)] w fun e w'=>e=.returned (.int .i64 ((f k).st:Int))∧w=w':=by
 have h2:w.cell? ⟨b,0,none⟩=some (.slice (some ⟨g,0,none⟩) n n):=by rw [h.cell];rfl
 have h4:w.cell? ⟨g,k*3,none⟩=some (.int .i64 ((f k).st:Int)):=by rw [hg.cell];exact (h3.2 k hk).1
 clear h hg h3
 go_enter func53,ntmps53
 go_wp2
 go_ret
 exact ⟨rfl,rfl⟩
theorem tint_state_out (i:Int) (h:Blk w b #[.slice (some ⟨g,0,none⟩) n n,c1,c2,c3] 183) (hi:¬tIn n i):
 Calls prog 53 #[.pointer (some ⟨b,0,none⟩),.int .i64 i] w fun e w'=>e=.returned (.int .i64 0)∧w=w':=by
 have h2:w.cell? ⟨b,0,none⟩=some (.slice (some ⟨g,0,none⟩) n n):=by rw [h.cell];rfl
 clear h
 unfold tIn at hi
 by_cases h0:i<0
 · clear hi
   go_enter func53,ntmps53
   go_wp2
   go_ret
   exact ⟨rfl,rfl⟩
 · have h1:(n:Int)≤i:=by omega
   have hd:decide (i<(n:Int))=false:=by simp;omega
   clear hi
   go_enter func53,ntmps53
   go_wp2
   go_ret
   exact ⟨rfl,rfl⟩
theorem tint_head_in (k:Nat) (h:Blk w b #[.slice (some ⟨g,0,none⟩) n n,c1,c2,c3] 183) (hg:Blk w g cs 202) (h3:eP cs n f) (hk:k<n) (_hn:n≤1024):
 Calls prog 168 #[.pointer (some ⟨b,0,none⟩),.int .i64 (k:Int)] w fun e w'=>e=.returned (.bool (f k).hd)∧w=w':=by
 have h2:w.cell? ⟨b,0,none⟩=some (.slice (some ⟨g,0,none⟩) n n):=by rw [h.cell];rfl
 have h4:w.cell? ⟨g,k*3+1,none⟩=some (.bool (f k).hd):=by rw [hg.cell];exact (h3.2 k hk).2.1
 clear h hg h3
 go_enter func168,ntmps168
 go_wp2
 go_ret
 exact ⟨rfl,rfl⟩
theorem tint_head_out (i:Int) (h:Blk w b #[.slice (some ⟨g,0,none⟩) n n,c1,c2,c3] 183) (hi:¬tIn n i):
 Calls prog 168 #[.pointer (some ⟨b,0,none⟩),.int .i64 i] w fun e w'=>e=.returned (.bool false)∧w=w':=by
 have h2:w.cell? ⟨b,0,none⟩=some (.slice (some ⟨g,0,none⟩) n n):=by rw [h.cell];rfl
 clear h
 unfold tIn at hi
 by_cases h0:i<0
 · clear hi
   go_enter func168,ntmps168
   go_wp2
   go_ret
   exact ⟨rfl,rfl⟩
 · have h1:(n:Int)≤i:=by omega
   have hd:decide (i<(n:Int))=false:=by simp;omega
   clear hi
   go_enter func168,ntmps168
   go_wp2
   go_ret
   exact ⟨rfl,rfl⟩
end
theorem gT {f:Nat→One} (i:Int) (h:(Tab b n f).at_ S w):
 Calls prog 53 #[.pointer (some ⟨b,0,none⟩),.int .i64 i] w fun e w'=>e=.returned (.int .i64 (fJ n f i:Int))∧w=w':=by
 obtain ⟨g,cs,h1,h2,h3,_,_,_,_,hn,_⟩:=h
 unfold fJ
 by_cases hi:tIn n i
 · rw [if_pos hi]
   obtain ⟨k,rfl⟩:∃ k:Nat,i=(k:Int):=⟨i.toNat,by have:=hi.1;omega⟩
   exact tint_state_in k h1 h2 h3 (by have:=hi.2;omega) hn
 · rw [if_neg hi];exact tint_state_out i h1 hi
theorem tint_head {f:Nat→One} (i:Int) (h:(Tab b n f).at_ S w):
 Calls prog 168 #[.pointer (some ⟨b,0,none⟩),.int .i64 i] w fun e w'=>e=.returned (.bool (iH n f i))∧w=w':=by
 obtain ⟨g,cs,h1,h2,h3,_,_,_,_,hn,_⟩:=h
 unfold iH
 by_cases hi:tIn n i
 · rw [if_pos hi]
   obtain ⟨k,rfl⟩:∃ k:Nat,i=(k:Int):=⟨i.toNat,by have:=hi.1;omega⟩
   exact tint_head_in k h1 h2 h3 (by have:=hi.2;omega) hn
 · rw [if_neg hi];exact tint_head_out i h1 hi
theorem gU {f:Nat→One} (i:Int) (s:Bool) (h:(Tab b n f).at_ S w):
 Calls prog 201 #[.pointer (some ⟨b,0,none⟩),.int .i64 i,.bool s] w fun e w'=>e=.returned (.bool (jV n f i s))∧w=w':=by
 have hst:=gT i h
 obtain ⟨g,cs,h1,h2,h3,_,_,_,hw,hn,_⟩:=h
 unfold fJ at hst
 unfold jV
 by_cases hi:tIn n i
 · rw [if_pos hi] at hst ⊢
   obtain ⟨k,rfl⟩:∃ k:Nat,i=(k:Int):=⟨i.toNat,by have:=hi.1;omega⟩
   have hk:k<n:=by have:=hi.2;omega
   rw [Int.toNat_natCast] at hst ⊢
   clear hi
   have g2:w.cell? ⟨b,0,none⟩=some (.slice (some ⟨g,0,none⟩) n n):=by rw [h1.cell];rfl
   have g4:w.cell? ⟨g,k*3+2,none⟩=some (.bool (f k).sn):=by rw [h2.cell];exact (h3.2 k hk).2.2
   clear h1 h2 h3
   have hw2:=hw k hk
   clear hw
   have HS:=zz hst
   clear hst
   by_cases he:(f k).st=2
   · have e1:((f k).st==2)=true:=by simpa using he
     rw [e1]
     rw [he] at HS
     clear he e1 hw2
     go_enter func201,ntmps201
     go_wp2_with fail
     refine qq HS.out ?_
     go_wp2
     go_ret
     exact ⟨by simp,rfl⟩
   · have e1:((f k).st==2)=false:=by simpa using he
     have e2:(((f k).st:Int)==2)=false:=by simp;omega
     rw [e1]
     clear he e1 hw2
     go_enter func201,ntmps201
     go_wp2_with fail
     refine qq HS.out ?_
     go_wp2
     go_ret
     exact ⟨by simp,rfl⟩
 · rw [if_neg hi] at hst ⊢
   clear hi h1 h2 h3 hw
   have HS:=zz hst
   clear hst
   go_enter func201,ntmps201
   go_wp2_with fail
   refine qq HS.out ?_
   go_wp2
   go_ret
   exact ⟨by simp,rfl⟩
theorem Tryz.info202:(prog.info? 202).map (fun i=>(i.zero,i.size,i.bytes))=some (some (.agg #[.int .i64 0,.bool false,.bool false]),3,16):=by kernel_rfl
def fM:Nat→One:=fun _=>⟨0,false,false⟩
theorem cnt_blank0:∀ n,cnt fM 0 n=n
 | 0=>rfl
 | n+1=>by simp [cnt,cnt_blank0 n,fM]
theorem cnt_blank1:∀ n,cnt fM 1 n=0
 | 0=>rfl
 | n+1=>by simp [cnt,cnt_blank1 n,fM]
theorem cnt_blank2:∀ n,cnt fM 2 n=0
 | 0=>rfl
 | n+1=>by simp [cnt,cnt_blank2 n,fM]
theorem cells3_made (n:Nat):eP (madeCells #[.int .i64 0,.bool false,.bool false] (n*3)) n fM:=by
 refine ⟨by simp [madeCells],fun i hi=>?_⟩
 have h0:i*3<n*3:=by omega
 have h1:i*3+1<n*3:=by omega
 have h2:i*3+2<n*3:=by omega
 have m0:i*3%3=0:=by omega
 have m1:(i*3+1)%3=1:=by omega
 have m2:(i*3+2)%3=2:=by omega
 refine ⟨?_,?_,?_⟩<;>simp [madeCells,h0,h1,h2,m0,m1,m2,fM]
theorem tint_new_walk (n:Nat) (w:World) (h2:n≤1024):
 Calls prog 114 #[.int .i64 n] w fun e w'=>e=.returned (.tuple #[.pointer (some ⟨w.heap.size+1,0,none⟩),.int .i64 0])∧
  w'=(w.alloc (.cells (madeCells #[.int .i64 0,.bool false,.bool false] (n*3)) 202)).alloc (.cells #[.slice (some ⟨w.heap.size,0,none⟩) n n,.int .i64 n,.int .i64 0,.int .i64 0] 183):=by
 obtain ⟨i0,hi,hz0,hz1,hz2⟩:=info_parts Tryz.info202
 have hmk:∀ w,(Instr.makeSlice 180 (.int .i64 n) (.int .i64 n)).run prog w=.ok (.slice (some ⟨w.heap.size,0,none⟩) n n) (w.alloc (.cells (madeCells #[.int .i64 0,.bool false,.bool false] (n*3)) 202)):=by
  intro w
  have:=run_make (P:=prog) w 180 202 i0 _ underlying180 hi hz0 .i64 .i64 n n (by omega) (by omega) (by rw [hz2];omega) (by omega)
  rw [this,hz1];simp [Value.cells]
 clear hi hz0 hz1 hz2
 go_enter func114,ntmps114
 go_wp2
 go_ret2
 exact ⟨rfl,rfl⟩
theorem tint_new (n:Nat) (w:World) (h2:n≤1024):
 Calls prog 114 #[.int .i64 n] w fun e w'=>∃ b,e=.returned (.tuple #[.pointer (some ⟨b,0,none⟩),.int .i64 0])∧(∃ S,(Tab b n fM).at_ S w'∧∀ k,S k→w.heap.size≤k)∧Below w.heap.size w w':=by
 refine (tint_new_walk n w h2).mono fun e w' ⟨he,hw⟩=>?_
 subst hw
 refine ⟨_,he,⟨fun k=>k=w.heap.size∨k=w.heap.size+1,⟨w.heap.size,_,?_,(Blk.new w _ _).alloc _,cells3_made n,.inr rfl,.inl rfl,by omega,fun i _=>by simp [fM],h2,fun k hk=>by simp;omega⟩,fun k hk=>by omega⟩,((Below.refl _ _).alloc (Nat.le_refl _) _).alloc (by simp) _⟩
 rw [cnt_blank0,cnt_blank1,cnt_blank2]
 have:=Blk.new (w.alloc (.cells (madeCells #[.int .i64 0,.bool false,.bool false] (n*3)) 202)) #[.slice (some ⟨w.heap.size,0,none⟩) n n,.int .i64 n,.int .i64 0,.int .i64 0] 183
 simpa using this
theorem tint_len {f:Nat→One} (h:(Tab b n f).at_ S w):
 Calls prog 116 #[.pointer (some ⟨b,0,none⟩)] w fun e w'=>e=.returned (.int .i64 n)∧w=w':=by
 obtain ⟨g,cs,h,_⟩:=h
 have h2:w.cell? ⟨b,0,none⟩=some (.slice (some ⟨g,0,none⟩) n n):=by rw [h.cell];rfl
 clear h
 go_enter func116,ntmps116
 go_wp2
 go_ret
 exact ⟨rfl,rfl⟩
theorem tint_counts {f:Nat→One} (h:(Tab b n f).at_ S w):
 Calls prog 45 #[.pointer (some ⟨b,0,none⟩)] w fun e w'=>e=.returned (.tuple #[.int .i64 (cnt f 0 n),.int .i64 (cnt f 1 n),.int .i64 (cnt f 2 n)])∧Below w.heap.size w w':=by
 obtain ⟨g,cs,h,_⟩:=h
 have h1:w.cell? ⟨b,1,none⟩=some (.int .i64 (cnt f 0 n)):=by rw [h.cell];rfl
 have h2:w.cell? ⟨b,2,none⟩=some (.int .i64 (cnt f 1 n)):=by rw [h.cell];rfl
 have h3:w.cell? ⟨b,3,none⟩=some (.int .i64 (cnt f 2 n)):=by rw [h.cell];rfl
 clear h
 go_enter func45,ntmps45
 go_wp2
 go_quiet (fail)
 go_wp2
 go_ret3
 exact ⟨rfl,below_drewN (Below.refl _ _) _⟩
theorem iK (h:j<cs.size):(cs.setIfInBounds j v)[j]? = some v:=by simp [h]
theorem set_ne (h:j≠k):(cs.setIfInBounds j v)[k]? = cs[k]? := Array.getElem?_setIfInBounds_ne h
theorem cells3_sn {f:Nat→One} (h:eP cs n f) (hk:k<n) (s:Bool):eP (cs.setIfInBounds (k*3+2) (.bool s)) n (upd f k ⟨(f k).st,(f k).hd,s⟩):=by
 refine ⟨by simpa using h.1,fun i hi=>?_⟩
 have:=h.1
 obtain ⟨a,b,c⟩:=h.2 i hi
 by_cases e:i=k
 · subst e
   rw [kL]
   refine ⟨by rw [Array.getElem?_setIfInBounds_ne (by omega)];exact a,by rw [Array.getElem?_setIfInBounds_ne (by omega)];exact b,iK (by omega)⟩
 · rw [jB _ _ e]
   refine ⟨?_,?_,?_⟩<;>rw [Array.getElem?_setIfInBounds_ne (by omega)]<;>assumption
theorem cells3_hd {f:Nat→One} (h:eP cs n f) (hk:k<n) (s:Bool):eP (cs.setIfInBounds (k*3+1) (.bool s)) n (upd f k ⟨(f k).st,s,(f k).sn⟩):=by
 refine ⟨by simpa using h.1,fun i hi=>?_⟩
 have:=h.1
 obtain ⟨a,b,c⟩:=h.2 i hi
 by_cases e:i=k
 · subst e
   rw [kL]
   refine ⟨by rw [Array.getElem?_setIfInBounds_ne (by omega)];exact a,iK (by omega),by rw [Array.getElem?_setIfInBounds_ne (by omega)];exact c⟩
 · rw [jB _ _ e]
   refine ⟨?_,?_,?_⟩<;>rw [Array.getElem?_setIfInBounds_ne (by omega)]<;>assumption
theorem cells3_all {f:Nat→One} (h:eP cs n f) (hk:k<n) (x:One):
 eP (((cs.setIfInBounds (k*3) (.int .i64 (x.st:Int))).setIfInBounds (k*3+1) (.bool x.hd)).setIfInBounds (k*3+2) (.bool x.sn)) n (upd f k x):=by
 refine ⟨by simpa using h.1,fun i hi=>?_⟩
 have:=h.1
 obtain ⟨a,b,c⟩:=h.2 i hi
 by_cases e:i=k
 · subst e
   rw [kL]
   refine ⟨?_,?_,iK (by simp only [Array.size_setIfInBounds];omega)⟩
   · rw [set_ne (by omega),set_ne (by omega)];exact iK (by omega)
   · rw [set_ne (by omega)];exact iK (by simp only [Array.size_setIfInBounds];omega)
 · rw [jB _ _ e]
   refine ⟨?_,?_,?_⟩<;>(rw [Array.getElem?_setIfInBounds_ne (by omega),Array.getElem?_setIfInBounds_ne (by omega),Array.getElem?_setIfInBounds_ne (by omega)];assumption)
def tMarks (n:Nat) (f:Nat→One) (i:Int) (s:Bool):Bool:=fJ n f i==2&&!jV n f i s
def tMark (n:Nat) (f:Nat→One) (i:Int) (s:Bool):Nat→One:=if tMarks n f i s then upd f i.toNat ⟨(f i.toNat).st,(f i.toNat).hd,s⟩ else f
def jW (n:Nat) (f:Nat→One) (i:Int):Bool:=fJ n f i==2&&!iH n f i
def tBorn (n:Nat) (f:Nat→One) (i:Int):Nat→One:=if jW n f i then upd f i.toNat ⟨(f i.toNat).st,true,(f i.toNat).sn⟩ else f
theorem gV {f:Nat→One} (h:fJ n f i=2):tIn n i:=by
 unfold fJ at h;split at h
 · assumption
 · omega
theorem cnt_st {f:Nat→One} {x:One} (hx:x.st=(f k).st) (s n:Nat):cnt (upd f k x) s n=cnt f s n:=by
 rw [lI,hx];split<;>omega
theorem tint_mark_walk {f:Nat→One} (k:Nat) (s:Bool) (h:Blk w b #[.slice (some ⟨g,0,none⟩) n n,c1,c2,c3] 183) (hg:Blk w g cs 202) (h3:eP cs n f) (hk:k<n)
 (hs:Calls prog 53 #[.pointer (some ⟨b,0,none⟩),.int .i64 (k:Int)] w fun e w'=>e=.returned (.int .i64 2)∧w=w')
 (hb:Calls prog 201 #[.pointer (some ⟨b,0,none⟩),.int .i64 (k:Int),.bool s] w fun e w'=>e=.returned (.bool false)∧w=w'):
 Calls prog 194 #[.pointer (some ⟨b,0,none⟩),.int .i64 (k:Int),.bool s] w fun e w'=>e=.returned (.bool true)∧w'=w.setCell ⟨g,k*3+2,none⟩ (.bool s):=by
 have h2:w.cell? ⟨b,0,none⟩=some (.slice (some ⟨g,0,none⟩) n n):=by rw [h.cell];rfl
 have h4:w.cell? ⟨g,k*3+2,none⟩=some (.bool (f k).sn):=by rw [hg.cell];exact (h3.2 k hk).2.2
 have h5:w.frozen? ⟨g,k*3+2,none⟩=false:=hg.free _
 have HS:=zz hs
 have HB:=zz hb
 clear h hg h3 hs hb
 go_enter func194,ntmps194
 go_wp2_with fail
 refine qq HS.out ?_
 go_wp2_with fail
 refine qq HB.out ?_
 go_wp2_with fail
 go_ret
 exact ⟨rfl,rfl⟩
theorem tint_mark_no
 (hs:Calls prog 53 #[.pointer (some ⟨b,0,none⟩),.int .i64 i] w fun e w'=>e=.returned (.int .i64 st)∧w=w')
 (hb:st=2→Calls prog 201 #[.pointer (some ⟨b,0,none⟩),.int .i64 i,.bool s] w fun e w'=>e=.returned (.bool true)∧w=w'):
 Calls prog 194 #[.pointer (some ⟨b,0,none⟩),.int .i64 i,.bool s] w fun e w'=>e=.returned (.bool false)∧w=w':=by
 have HS:=zz hs
 by_cases h2:st=2
 · have HB:=zz (hb h2)
   subst h2
   clear hs hb
   go_enter func194,ntmps194
   go_wp2_with fail
   refine qq HS.out ?_
   go_wp2_with fail
   refine qq HB.out ?_
   go_wp2_with fail
   go_ret
   exact ⟨rfl,rfl⟩
 · have h3:(st==2)=false:=by simpa using h2
   have h4:(st != 2)=true:=by simpa using h2
   clear hs hb h2
   go_enter func194,ntmps194
   go_wp2_with fail
   refine qq HS.out ?_
   go_wp2_with fail
   go_ret
   exact ⟨rfl,rfl⟩
theorem tint_mark {f:Nat→One} (i:Int) (s:Bool) (h:(Tab b n f).at_ S w):
 Calls prog 194 #[.pointer (some ⟨b,0,none⟩),.int .i64 i,.bool s] w fun e w'=>e=.returned (.bool (tMarks n f i s))∧aA (Tab b n (tMark n f i s)) S w w':=by
 have hst:=gT i h
 have hbl:=gU i s h
 unfold tMark
 cases hm:tMarks n f i s with
 | true=>
  simp only [tMarks,Bool.and_eq_true,beq_iff_eq,Bool.not_eq_true'] at hm
  have hi:=gV hm.1
  rw [hm.1] at hst
  rw [hm.2] at hbl
  obtain ⟨k,rfl⟩:∃ k:Nat,i=(k:Int):=⟨i.toNat,by have:=hi.1;omega⟩
  have hk:k<n:=by have:=hi.2;omega
  obtain ⟨g,cs,h1,h2,h3,h4,h5,h6,h7,h8,h9⟩:=h
  refine (tint_mark_walk k s h1 h2 h3 hk hst hbl).mono fun e w' ⟨he,hw⟩=>?_
  subst hw
  refine ⟨he,⟨S,⟨g,_,?_,h2.set _ _,?_,h4,h5,h6,?_,h8,fun k hk=>by simpa using h9 k hk⟩,fun k hk=>.inl hk⟩,(aY.refl S w).setCell (.inl h5) _⟩
  · simp only [if_true,Int.toNat_natCast]
    rw [cnt_st (f:=f) (k:=k) (x:=⟨(f k).st,(f k).hd,s⟩) rfl 0,cnt_st (f:=f) (k:=k) (x:=⟨(f k).st,(f k).hd,s⟩) rfl 1,cnt_st (f:=f) (k:=k) (x:=⟨(f k).st,(f k).hd,s⟩) rfl 2]
    exact h1.far h6 _
  · simpa using cells3_sn h3 hk s
  · intro j hj
    simp only [if_true,Int.toNat_natCast,upd]
    split
    · exact h7 k hk
    · exact h7 j hj
 | false=>
  refine (tint_mark_no hst (fun h2=>?_)).mono fun e w' ⟨he,hw⟩=>?_
  · have h2':fJ n f i=2:=by omega
    simp only [tMarks,h2',beq_self_eq_true,Bool.true_and,Bool.not_eq_false'] at hm
    rw [hm] at hbl
    exact hbl
  · subst hw
    exact ⟨he,⟨S,by simpa using h,fun k hk=>.inl hk⟩,aY.refl S w⟩
theorem tint_born_walk {f:Nat→One} (k:Nat) (h:Blk w b #[.slice (some ⟨g,0,none⟩) n n,c1,c2,c3] 183) (hg:Blk w g cs 202) (h3:eP cs n f) (hk:k<n) (hf:(f k).hd=false)
 (hs:Calls prog 53 #[.pointer (some ⟨b,0,none⟩),.int .i64 (k:Int)] w fun e w'=>e=.returned (.int .i64 2)∧w=w'):
 Calls prog 286 #[.pointer (some ⟨b,0,none⟩),.int .i64 (k:Int)] w fun e w'=>e=.returned (.bool true)∧w'=w.setCell ⟨g,k*3+1,none⟩ (.bool true):=by
 have h2:w.cell? ⟨b,0,none⟩=some (.slice (some ⟨g,0,none⟩) n n):=by rw [h.cell];rfl
 have h4:w.cell? ⟨g,k*3+1,none⟩=some (.bool false):=by rw [hg.cell,←hf];exact (h3.2 k hk).2.1
 have h5:w.frozen? ⟨g,k*3+1,none⟩=false:=hg.free _
 have HS:=zz hs
 clear h hg h3 hs hf
 go_enter func286,ntmps286
 go_wp2_with fail
 refine qq HS.out ?_
 go_wp2_with fail
 go_ret
 exact ⟨rfl,rfl⟩
theorem tint_born_no {f:Nat→One} (h:Blk w b #[.slice (some ⟨g,0,none⟩) n n,c1,c2,c3] 183) (hg:Blk w g cs 202) (h3:eP cs n f)
 (hs:Calls prog 53 #[.pointer (some ⟨b,0,none⟩),.int .i64 i] w fun e w'=>e=.returned (.int .i64 st)∧w=w')
 (hb:st=2→∃ k:Nat,i=(k:Int)∧k<n∧(f k).hd=true):
 Calls prog 286 #[.pointer (some ⟨b,0,none⟩),.int .i64 i] w fun e w'=>e=.returned (.bool false)∧w=w':=by
 have HS:=zz hs
 by_cases h2:st=2
 · obtain ⟨k,rfl,hk,hf⟩:=hb h2
   have h0:w.cell? ⟨b,0,none⟩=some (.slice (some ⟨g,0,none⟩) n n):=by rw [h.cell];rfl
   have h4:w.cell? ⟨g,k*3+1,none⟩=some (.bool true):=by rw [hg.cell,←hf];exact (h3.2 k hk).2.1
   subst h2
   clear hs hb h hg h3 hf
   go_enter func286,ntmps286
   go_wp2_with fail
   refine qq HS.out ?_
   go_wp2_with fail
   go_ret
   exact ⟨rfl,rfl⟩
 · have h3:(st==2)=false:=by simpa using h2
   have h4:(st != 2)=true:=by simpa using h2
   clear hs hb h2
   go_enter func286,ntmps286
   go_wp2_with fail
   refine qq HS.out ?_
   go_wp2_with fail
   go_ret
   exact ⟨rfl,rfl⟩
theorem tint_born {f:Nat→One} (i:Int) (h:(Tab b n f).at_ S w):
 Calls prog 286 #[.pointer (some ⟨b,0,none⟩),.int .i64 i] w fun e w'=>e=.returned (.bool (jW n f i))∧aA (Tab b n (tBorn n f i)) S w w':=by
 have hst:=gT i h
 unfold tBorn
 cases hm:jW n f i with
 | true=>
  simp only [jW,Bool.and_eq_true,beq_iff_eq,Bool.not_eq_true'] at hm
  have hi:=gV hm.1
  rw [hm.1] at hst
  have hh:=hm.2
  unfold iH at hh
  rw [if_pos hi] at hh
  obtain ⟨k,rfl⟩:∃ k:Nat,i=(k:Int):=⟨i.toNat,by have:=hi.1;omega⟩
  have hk:k<n:=by have:=hi.2;omega
  rw [Int.toNat_natCast] at hh
  obtain ⟨g,cs,h1,h2,h3,h4,h5,h6,h7,h8,h9⟩:=h
  refine (tint_born_walk k h1 h2 h3 hk hh hst).mono fun e w' ⟨he,hw⟩=>?_
  subst hw
  refine ⟨he,⟨S,⟨g,_,?_,h2.set _ _,?_,h4,h5,h6,?_,h8,fun k hk=>by simpa using h9 k hk⟩,fun k hk=>.inl hk⟩,(aY.refl S w).setCell (.inl h5) _⟩
  · simp only [if_true,Int.toNat_natCast]
    rw [cnt_st (f:=f) (k:=k) (x:=⟨(f k).st,true,(f k).sn⟩) rfl 0,cnt_st (f:=f) (k:=k) (x:=⟨(f k).st,true,(f k).sn⟩) rfl 1,cnt_st (f:=f) (k:=k) (x:=⟨(f k).st,true,(f k).sn⟩) rfl 2]
    exact h1.far h6 _
  · simpa using cells3_hd h3 hk true
  · intro j hj
    simp only [if_true,Int.toNat_natCast,upd]
    split
    · exact h7 k hk
    · exact h7 j hj
 | false=>
  have h':=h
  obtain ⟨g,cs,h1,h2,h3,_⟩:=h'
  refine (tint_born_no h1 h2 h3 hst (fun h2=>?_)).mono fun e w' ⟨he,hw⟩=>?_
  · have h2':fJ n f i=2:=by omega
    simp only [jW,h2',beq_self_eq_true,Bool.true_and,Bool.not_eq_false'] at hm
    have hi:=gV h2'
    unfold iH at hm
    rw [if_pos hi] at hm
    exact ⟨i.toNat,by have:=hi.1;omega,by have:=hi.1;have:=hi.2;omega,hm⟩
  · subst hw
    exact ⟨he,⟨S,by simpa using h,fun k hk=>.inl hk⟩,aY.refl S w⟩
theorem tint_set_walk {st0:Nat} (k st:Nat) (hd sn:Bool) (h:Blk w b #[.slice (some ⟨g,0,none⟩) n n,v1,v2,v3] 183)
 (h4:w.cell? ⟨g,k*3,none⟩=some (.int .i64 (st0:Int))) (h5:w.cell? ⟨g,k*3+1,none⟩=some (.bool hd0)) (h6:w.cell? ⟨g,k*3+2,none⟩=some (.bool sn0)) (hfr:∀ j,w.frozen? ⟨g,j,none⟩=false) (hbg:b≠g)
 (hk:k<n) (_hn:n≤1024) (hst:st≤2) (hst0:st0≤2) (c c':Int) (hc:w.cell? ⟨b,1+st0,none⟩=some (.int .i64 c)) (hc1:0≤c) (hc2:c≤1024)
 (hc':(w.setCell ⟨b,1+st0,none⟩ (.int .i64 (c-1))).cell? ⟨b,1+st,none⟩=some (.int .i64 c')) (hc3:-1≤c') (hc4:c'≤1024):
 Calls prog 256 #[.pointer (some ⟨b,0,none⟩),.int .i64 (k:Int),.int .i64 (st:Int),.bool hd,.bool sn] w fun e w'=>e=.returned (.bool true)∧
  w'=((((w.setCell ⟨b,1+st0,none⟩ (.int .i64 (c-1))).drew.setCell ⟨b,1+st,none⟩ (.int .i64 (c'+1))).drew.setCell ⟨g,k*3,none⟩ (.int .i64 st)).setCell ⟨g,k*3+1,none⟩ (.bool (hd&&st==2))).setCell ⟨g,k*3+2,none⟩ (.bool sn):=by
 have h2:w.cell? ⟨b,0,none⟩=some (.slice (some ⟨g,0,none⟩) n n):=by rw [h.cell];rfl
 have hf:=h.free (1+st0)
 have hi0:(st0:Int)<3:=by omega
 have hi1:(st:Int)<3:=by omega
 have hB1:Blk (w.setCell ⟨b,1+st0,none⟩ (.int .i64 (c-1))).drew b _ 183:=(h.set (1+st0) (.int .i64 (c-1))).drew
 have HC:=zz hc'
 have hbg':g≠b:=fun e=>hbg e.symm
 have G4:Hid ((w.setCell ⟨b,1+st0,none⟩ (.int .i64 (c-1))).drew.cell? ⟨g,k*3,none⟩=some (.int .i64 (st0:Int))):=by
  rw [World.cell?_drew,World.cell?_setCell_other _ _ _ _ (fun e=>hbg (congrArg Addr.block e))];exact h4
 have G5:Hid ((w.setCell ⟨b,1+st0,none⟩ (.int .i64 (c-1))).drew.cell? ⟨g,k*3+1,none⟩=some (.bool hd0)):=by
  rw [World.cell?_drew,World.cell?_setCell_other _ _ _ _ (fun e=>hbg (congrArg Addr.block e))];exact h5
 have G6:Hid ((w.setCell ⟨b,1+st0,none⟩ (.int .i64 (c-1))).drew.cell? ⟨g,k*3+2,none⟩=some (.bool sn0)):=by
  rw [World.cell?_drew,World.cell?_setCell_other _ _ _ _ (fun e=>hbg (congrArg Addr.block e))];exact h6
 have G7:∀ j,Hid ((w.setCell ⟨b,1+st0,none⟩ (.int .i64 (c-1))).drew.frozen? ⟨g,j,none⟩=false):=fun j=>by
  show _=_
  rw [World.frozen?_drew,World.frozen?_setCell];exact hfr j
 clear h hc' hbg'
 go_enter func256,ntmps256
 go_wp2
 go_still_tail 17,(by kernel_rfl)
 change wpList _ _ _ _ _ w.drew
 go_wp2
 obtain ⟨W1,hW1⟩:∃ W1,W1=(w.setCell ⟨b,1+st0,none⟩ (.int .i64 (c-1))).drew:=⟨_,rfl⟩
 have hh0:W1.cell? ⟨b,0,none⟩=some (.slice (some ⟨g,0,none⟩) n n):=by rw [hW1,hB1.cell];simp
 have hh1:W1.cell? ⟨b,1+st,none⟩=some (.int .i64 c'):=by rw [hW1];exact HC.out
 have hh2:W1.frozen? ⟨b,1+st,none⟩=false:=by rw [hW1];exact hB1.free _
 have G8:∀ j,Hid (W1.frozen? ⟨g,j,none⟩=false):=fun j=>by rw [hW1];exact G7 j
 rw [←hW1] at G4 G5 G6 ⊢
 have HW1:=zz hW1
 clear h2 h4 h5 h6 hfr hc hc1 hc2 HC hf hi0 hB1 G7 hW1
 go_still_tail 10,(by kernel_rfl)
 change wpList _ _ _ _ _ W1.drew
 go_upto_region 5 with fail
 obtain ⟨W2,hW2⟩:∃ W2,W2=(W1.setCell ⟨b,1+st,none⟩ (.int .i64 (c'+1))).drew:=⟨_,rfl⟩
 have far:∀ j,W2.cell? ⟨g,j,none⟩=W1.cell? ⟨g,j,none⟩:=fun j=>by
  rw [hW2,World.cell?_drew,World.cell?_setCell_other _ _ _ _ (fun e=>hbg (congrArg Addr.block e))]
 have e0:W2.cell? ⟨b,0,none⟩=some (.slice (some ⟨g,0,none⟩) n n):=by
  rw [hW2,World.cell?_drew,World.cell?_setCell_other _ _ _ _ (fun e=>by have:=congrArg Addr.off e;simp at this)];exact hh0
 have e4:=(far _).trans G4.out
 have e5:=(far _).trans G5.out
 have e6:=(far _).trans G6.out
 have e7:∀ j,W2.frozen? ⟨g,j,none⟩=false:=fun j=>by rw [hW2,World.frozen?_drew,World.frozen?_setCell];exact (G8 j).out
 have e8:=e7 (k*3)
 have e9:=e7 (k*3+1)
 have e10:=e7 (k*3+2)
 rw [←hW2]
 have HW2:=zz hW2
 clear far hh0 hh1 hh2 G4 G5 G6 G8 e7 hW2
 have hs2:∀ x:Bool,(x&&((st:Int)==2))=(x&&(st==2)):=fun x=>by
  cases x
  · rfl
  · have:((st:Int)==2)=(st==2):=by rw [Bool.eq_iff_iff];simp;omega
    simp [this]
 have HH:=zz hs2
 clear hs2
 cases hd
 · go_wp2_with fail
   go_ret
   refine ⟨rfl,?_⟩
   rw [HW2.out,HW1.out];rfl
 · go_wp2_with fail
   go_ret
   refine ⟨rfl,?_⟩
   have:=HH.out true
   simp only [Bool.true_and] at this
   rw [HW2.out,HW1.out,this];rfl
def tSets (n:Nat) (i st:Int):Bool:=decide (tIn n i∧0≤st∧st≤2)
def tSet (n:Nat) (f:Nat→One) (i st:Int) (hd sn:Bool):Nat→One:=if tSets n i st then upd f i.toNat ⟨st.toNat,hd&&st.toNat==2,sn⟩ else f
theorem iU {f:Nat→One} {s:Nat} (h:Blk w b #[v,.int .i64 (cnt f 0 n),.int .i64 (cnt f 1 n),.int .i64 (cnt f 2 n)] 183) (hs:s≤2):w.cell? ⟨b,1+s,none⟩=some (.int .i64 (cnt f s n)):=by
 rw [h.cell]
 match s,hs with
 | 0,_=>rfl
 | 1,_=>rfl
 | 2,_=>rfl
theorem set_cells (v:Value) (f:Nat→One) (n k st:Nat) (x:One) (hk:k<n) (hx:x.st=st) (hst:st≤2) (h0:(f k).st≤2):
 (((#[v,.int .i64 (cnt f 0 n),.int .i64 (cnt f 1 n),.int .i64 (cnt f 2 n)]:Array Value).setIfInBounds (1+(f k).st) (.int .i64 (cnt f (f k).st n-1))).setIfInBounds (1+st)
   (.int .i64 ((if st=(f k).st then cnt f st n-1 else cnt f st n)+1)))=#[v,.int .i64 (cnt (upd f k x) 0 n),.int .i64 (cnt (upd f k x) 1 n),.int .i64 (cnt (upd f k x) 2 n)]:=by
 rw [lI f k x 0,lI f k x 1,lI f k x 2,hx]
 simp only [hk,if_true]
 generalize (f k).st=s0 at*
 match s0,h0,st,hst with
 | 0,_,0,_=>simp
 | 0,_,1,_=>simp;omega
 | 0,_,2,_=>simp;omega
 | 1,_,0,_=>simp;omega
 | 1,_,1,_=>simp
 | 1,_,2,_=>simp;omega
 | 2,_,0,_=>simp;omega
 | 2,_,1,_=>simp;omega
 | 2,_,2,_=>simp
theorem tint_set_no (i st:Int) (hd sn:Bool) (h:Blk w b #[.slice (some ⟨g,0,none⟩) n n,c1,c2,c3] 183) (hno:tSets n i st=false):
 Calls prog 256 #[.pointer (some ⟨b,0,none⟩),.int .i64 i,.int .i64 st,.bool hd,.bool sn] w fun e w'=>e=.returned (.bool false)∧w=w':=by
 have h2:w.cell? ⟨b,0,none⟩=some (.slice (some ⟨g,0,none⟩) n n):=by rw [h.cell];rfl
 replace hno:=of_decide_eq_false hno
 unfold tIn at hno
 clear h
 by_cases h0:i<0
 · clear hno
   go_enter func256,ntmps256
   go_wp2
   go_ret
   exact ⟨rfl,rfl⟩
 by_cases h1:(n:Int)≤i
 · have hd:decide (i<(n:Int))=false:=by simp;omega
   clear hno
   go_enter func256,ntmps256
   go_wp2
   go_ret
   exact ⟨rfl,rfl⟩
 have hi:decide (i<(n:Int))=true:=by simp;omega
 by_cases h3:st<0
 · clear hno
   go_enter func256,ntmps256
   go_wp2
   go_ret
   exact ⟨rfl,rfl⟩
 · have h4:2<st:=by omega
   clear hno
   go_enter func256,ntmps256
   go_wp2
   go_ret
   exact ⟨rfl,rfl⟩
theorem tint_set {f:Nat→One} (i st:Int) (hd sn:Bool) (h:(Tab b n f).at_ S w):
 Calls prog 256 #[.pointer (some ⟨b,0,none⟩),.int .i64 i,.int .i64 st,.bool hd,.bool sn] w fun e w'=>e=.returned (.bool (tSets n i st))∧aA (Tab b n (tSet n f i st hd sn)) S w w':=by
 unfold tSet
 cases hm:tSets n i st with
 | false=>
  have h':=h
  obtain ⟨g,cs,h1,_⟩:=h'
  refine (tint_set_no i st hd sn h1 hm).mono fun e w' ⟨he,hw⟩=>?_
  subst hw
  exact ⟨he,⟨S,by simpa using h,fun k hk=>.inl hk⟩,aY.refl S w⟩
 | true=>
  simp only [tSets,decide_eq_true_eq] at hm
  obtain ⟨hi,hs1,hs2⟩:=hm
  obtain ⟨k,rfl⟩:∃ k:Nat,i=(k:Int):=⟨i.toNat,by have:=hi.1;omega⟩
  obtain ⟨s,rfl⟩:∃ s:Nat,st=(s:Int):=⟨st.toNat,by omega⟩
  have hk:k<n:=by have:=hi.2;omega
  obtain ⟨g,cs,h1,h2,h3,h4,h5,h6,h7,h8,h9⟩:=h
  obtain ⟨a0,a1,a2⟩:=h3.2 k hk
  have c0:=cnt_bd f (f k).st n
  have c1:=cnt_bd f s n
  have hs3:s≤2:=by omega
  refine (tint_set_walk (st0:=(f k).st) (hd0:=(f k).hd) (sn0:=(f k).sn) k s hd sn h1 (by rw [h2.cell];exact a0) (by rw [h2.cell];exact a1) (by rw [h2.cell];exact a2) (fun j=>h2.free j) h6 hk h8 hs3 (h7 k hk)
   (cnt f (f k).st n) (if s=(f k).st then cnt f s n-1 else cnt f s n) (iU h1 (h7 k hk)) c0.1 (by omega) ?_ ?_ ?_).mono fun e w' ⟨he,hw⟩=>?_
  · split
    · rename_i e
      rw [e]
      exact World.cell?_setCell_same _ _ _ (iU h1 (h7 k hk))
    · rename_i e
      rw [World.cell?_setCell_other _ _ _ _ (fun x=>e (by have:=congrArg Addr.off x;simp at this;omega))]
      exact iU h1 hs3
  · split<;>omega
  · split<;>omega
  · subst hw
    have hb:=((((h1.set (1+(f k).st) (.int .i64 (cnt f (f k).st n-1))).drew).set (1+s) (.int .i64 ((if s=(f k).st then cnt f s n-1 else cnt f s n)+1))).drew)
    rw [set_cells _ f n k s ⟨s,hd&&s==2,sn⟩ hk rfl hs3 (h7 k hk)] at hb
    have hg:=(((h2.far (a:=⟨b,1+(f k).st,none⟩) (fun e=>h6 e.symm) (.int .i64 (cnt f (f k).st n-1))).drew).far (a:=⟨b,1+s,none⟩) (fun e=>h6 e.symm) (.int .i64 ((if s=(f k).st then cnt f s n-1 else cnt f s n)+1))).drew
    refine ⟨he,⟨S,⟨g,_,((hb.far h6 _).far h6 _).far h6 _,(((hg.set (k*3) (.int .i64 s)).set (k*3+1) (.bool (hd&&s==2))).set (k*3+2) (.bool sn)),?_,h4,h5,h6,?_,h8,fun k hk=>by simpa using h9 k hk⟩,fun k hk=>.inl hk⟩,?_⟩
    · simpa using cells3_all h3 hk ⟨s,hd&&s==2,sn⟩
    · intro j hj
      simp only [if_true,Int.toNat_natCast,upd]
      split
      · exact hs3
      · exact h7 j hj
    · exact (((((((aY.refl S w).setCell (.inl h4) _).drew).setCell (.inl h4) _).drew.setCell (.inl h5) _).setCell (.inl h5) _).setCell (.inl h5) _)
end Go.Proofs.YtgcmiahhkalfmaaGreat
