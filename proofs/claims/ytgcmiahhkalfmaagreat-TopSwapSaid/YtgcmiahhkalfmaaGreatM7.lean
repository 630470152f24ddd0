import Derived.Test.YtgcmiahhkalfmaaGreatM6
set_option maxRecDepth 100000
set_option maxHeartbeats 8000000
set_option linter.unusedVariables false
set_option linter.unusedSimpArgs false
namespace Go.Proofs.YtgcmiahhkalfmaaGreat
open Go.Proofs.Tryz
open Go.RowKit
variable {args:Array Value} {lost lost' r:Bool} {R:Ending→Prop} {g:FuncId} {ct i m:Int} {xs xs':List Int} {b:Nat} {f f':Nat→One} {S:Nat→Prop} {P:Program} {w w':World}
def pileAt (b:Nat) (xs:List Int) (m:Int) (lost:Bool) (S:Nat→Prop) (w:World):Prop:=
 ∃ v,Blk w b #[v,.int .i64 m,.bool lost] 258∧w.ownsRow 0 3 1 v xs.length (xs.map (Value.int .i64))∧S b∧(∀ k,v.ownBlock=some k→S k∧k≠b)∧∀ k,S k→k<w.heap.size
def iF (b:Nat) (xs:List Int) (m:Int) (lost:Bool):aC where
 at_:=pileAt b xs m lost
 lt:=fun ⟨_,_,_,_,_,h⟩=>h
 kept:=fun ⟨v,h1,h2,h3,h4,h5⟩ hk hs=>
  ⟨v,by unfold Blk at *;rw [hk b h3];exact h1,dN h2 (fun k hv=>hk k (h4 k hv).1),h3,h4,fun k hS=>Nat.lt_of_lt_of_le (h5 k hS) hs⟩
theorem pile_lost (h:(iF b xs m lost).at_ S w):
 Calls prog 199 #[.pointer (some ⟨b,0,none⟩)] w fun e w'=>e=.returned (.bool lost)∧w=w':=by
 obtain ⟨v,h,_⟩:=h
 have h2:w.cell? ⟨b,2,none⟩=some (.bool lost):=by rw [h.cell];rfl
 clear h
 go_enter func199,ntmps199
 go_wp2
 go_ret
 exact ⟨rfl,rfl⟩
theorem pile_found_walk (b:Nat) (v:Value) (m:Int) (lost:Bool) (w:World) (h:Blk w b #[v,.int .i64 m,.bool lost] 258):
 Calls prog 200 #[.pointer (some ⟨b,0,none⟩)] w fun e w'=>e=.returned (.tuple #[])∧w'=w.setCell ⟨b,2,none⟩ (.bool false):=by
 have h2:w.cell? ⟨b,2,none⟩=some (.bool lost):=by rw [h.cell];rfl
 have h3:w.frozen? ⟨b,2,none⟩=false:=h.free 2
 clear h
 go_enter func200,ntmps200
 go_wp2
 go_end0
 exact ⟨rfl,rfl⟩
theorem pile_found (h:(iF b xs m lost).at_ S w):
 Calls prog 200 #[.pointer (some ⟨b,0,none⟩)] w fun e w'=>e=.returned (.tuple #[])∧aA (iF b xs m false) S w w':=by
 obtain ⟨v,h1,h2,h3,h4,h5⟩:=h
 refine (pile_found_walk b v m lost w h1).mono fun e w' ⟨he,hw⟩=>?_
 subst hw
 exact ⟨he,⟨S,⟨v,h1.set 2 _,ownsRow_setCell_other h2 (fun e=>(h4 b (by simpa using e)).2 rfl) _,h3,h4,fun k hk=>by simpa using h5 k hk⟩,fun k hk=>.inl hk⟩,(aY.refl S w).setCell (.inl h3) _⟩
theorem pile_push_full (b:Nat) (xs:List Int) (v:Value) (lost:Bool) (i:Int) (w:World) (h:Blk w b #[v,.int .i64 (xs.length:Int),.bool lost] 258) (hv:∃ a cap,v=.slice a xs.length cap):
 Calls prog 195 #[.pointer (some ⟨b,0,none⟩),.int .i64 i] w fun e w'=>e=.returned (.bool false)∧∃ n,w'=(w.drewN n).setCell ⟨b,2,none⟩ (.bool true):=by
 obtain ⟨a,cap,rfl⟩:=hv
 have h0:w.cell? ⟨b,0,none⟩=some (.slice a xs.length cap):=by rw [h.cell];rfl
 have h1:w.cell? ⟨b,1,none⟩=some (.int .i64 (xs.length:Int)):=by rw [h.cell];rfl
 have h2:w.cell? ⟨b,2,none⟩=some (.bool lost):=by rw [h.cell];rfl
 have h3:w.frozen? ⟨b,2,none⟩=false:=h.free 2
 clear h
 go_enter func195,ntmps195
 go_wp2
 go_quiet (fail)
 go_wp2
 go_ret
 exact ⟨rfl,_,rfl⟩
theorem pile_push_room (b:Nat) (xs:List Int) (v:Value) (m:Int) (lost:Bool) (i:Int) (w:World) (h:Blk w b #[v,.int .i64 m,.bool lost] 258) (hown:w.ownsRow 0 3 1 v xs.length (xs.map (Value.int .i64)))
 (hne:∀ k,v.ownBlock=some k→k≠b) (hlen:(((xs.length:Int))==m)=false) (hsm:xs.length≤1000000):
 Calls prog 195 #[.pointer (some ⟨b,0,none⟩),.int .i64 i] w fun e w'=>e=.returned (.bool true)∧
  ∃ v' w1 n,w1.ownsRow 0 3 1 v' (xs.length+1) (xs.map (Value.int .i64)++[.int .i64 i])∧((w.drewN n).alloc (.cells #[.int .i64 i] 3)).grownBy w1 v.ownBlock∧
   (v'.ownBlock=v.ownBlock∨v'.ownBlock=some (w.heap.size+1))∧w'=w1.setCell ⟨b,0,none⟩ v':=by
 obtain ⟨a,cap,hv,_,_⟩:=bK hown
 have h0:w.cell? ⟨b,0,none⟩=some v:=by rw [h.cell];rfl
 have h1:w.cell? ⟨b,1,none⟩=some (.int .i64 m):=by rw [h.cell];rfl
 obtain ⟨i0,hi,hz0,hz1,hz2⟩:=info_parts Tryz.info3
 have hlt:=h.lt
 subst hv
 go_enter func195,ntmps195
 go_wp2
 go_quiet (fail)
 go_wp2_with (at_builtin;refine wpList_push rfl _ _ 22 rfl 3 i0 (.int .i64 0) 8 underlying22 hi hz0 hz1 hz2 rfl _ _ _ rfl ((dN hown (fun k hk=>rfl)).alloc _) ⟨w.heap.size,0,none⟩ (.int .i64 i) rfl ?c1 rfl hsm (by decide) ?_)
 case c1=>exact World.cell?_alloc_new _ _ _ 0
 intro v' w1 hown' hgrow hblk
 obtain ⟨a',cap',rfl,_⟩:=bK hown'
 have hb:Blk w1 b #[.slice a xs.length cap,.int .i64 m,.bool lost] 258:=by
  have h9:=(Blk.alloc (w:=w.drewN nq) h (.cells #[.int .i64 i] 3))
  unfold Blk at*
  rw [hgrow.block b (by simp;omega) (fun e=>hne b e.symm rfl)];exact h9
 have g0:w1.cell? ⟨b,0,none⟩=some (.slice a xs.length cap):=by rw [hb.cell];rfl
 have g3:w1.frozen? ⟨b,0,none⟩=false:=hb.free 0
 clear h hown h0 hb
 have G:Hid _:=hgrow
 have G2:Hid (_∨_):=hblk
 clear hgrow hblk
 go_wp2
 go_ret
 exact ⟨rfl,_,w1,nq,hown',G.out,by simpa using G2.out,rfl⟩
theorem pile_push (i:Int) (h:(iF b xs m lost).at_ S w) (hsm:xs.length≤1000000):
 Calls prog 195 #[.pointer (some ⟨b,0,none⟩),.int .i64 i] w fun e w'=>e=.returned (.bool (!((xs.length:Int)==m)))∧
  aA (iF b (if (xs.length:Int)==m then xs else xs++[i]) m (lost||((xs.length:Int)==m))) S w w':=by
 obtain ⟨v,h1,h2,h3,h4,h5⟩:=h
 by_cases hm:((xs.length:Int)==m)=true
 · obtain rfl:(xs.length:Int)=m:=by simpa using hm
   obtain ⟨a,cap,hv,_⟩:=bK h2
   refine (pile_push_full b xs v lost i w h1 ⟨a,cap,hv⟩).mono fun e w' ⟨he,n,hw⟩=>?_
   subst hw
   refine ⟨by rw [he,hm];rfl,⟨S,⟨v,?_,?_,h3,h4,?_⟩,fun k hk=>.inl hk⟩,?_⟩
   · simp only [hm,Bool.or_true]
     exact Blk.set (w:=w.drewN n) h1 2 _
   · simp only [hm,if_true]
     exact ownsRow_setCell_other (dN h2 (fun k hk=>rfl)) (fun e=>(h4 b (by simpa using e)).2 rfl) _
   · intro k hk;simpa using h5 k hk
   · exact ((aY.refl S w).drewN n).setCell (.inl h3) _
 · have hm':((xs.length:Int)==m)=false:=by simpa using hm
   refine (pile_push_room b xs v m lost i w h1 h2 (fun k hk=>(h4 k hk).2) hm' hsm).mono fun e w' ⟨he,v',w1,n,ho,hg,hbk,hw⟩=>?_
   subst hw
   have hb1:Blk w1 b #[v,.int .i64 m,.bool lost] 258:=by
    have h9:=(Blk.alloc (w:=w.drewN n) h1 (.cells #[.int .i64 i] 3))
    have:=h1.lt
    unfold Blk at*
    rw [hg.block b (by simp;omega) (fun e=>(h4 b e.symm).2 rfl)];exact h9
   have hv':∀ k,v'.ownBlock=some k→k≠b∧(v.ownBlock=some k∨w.heap.size≤k)∧k<w1.heap.size:=by
    intro k hk
    have hl:=dF ho hk
    have hb:=h1.lt
    rcases hbk with e|e
    · exact ⟨(h4 k (e▸hk)).2,.inl (e▸hk),hl⟩
    · rw [e] at hk;simp at hk;subst hk;exact ⟨by omega,.inr (by omega),hl⟩
   refine ⟨by rw [he,hm'];rfl,⟨fun k=>S k∨v'.ownBlock=some k,⟨v',?_,?_,.inl h3,fun k hk=>⟨.inr hk,(hv' k hk).1⟩,?_⟩,?_⟩,?_⟩
   · simp only [hm',Bool.or_false]
     exact hb1.set 0 v'
   · simp only [hm',Bool.false_eq_true,if_false,List.length_append,List.length_cons,List.length_nil,List.map_append,List.map_cons,List.map_nil]
     exact ownsRow_setCell_other ho (fun e=>(hv' b (by simpa using e)).1 rfl) _
   · rintro k (hk|hk)
     · have:=h5 k hk;have:=hg.size;simp at *;omega
     · simpa using (hv' k hk).2.2
   · rintro k (hk|hk)
     · exact .inl hk
     · exact (hv' k hk).2.1.elim (fun e=>.inl (h4 k e).1) .inr
   · exact ((((aY.refl S w).drewN n).alloc _).grown hg (fun k hk=>.inl (h4 k hk).1)).setCell (.inl h3) _
theorem pile_pop_none (h:(iF b [] m lost).at_ S w):
 Calls prog 196 #[.pointer (some ⟨b,0,none⟩)] w fun e w'=>e=.returned (.tuple #[.int .i64 0,.bool false])∧w=w':=by
 obtain ⟨v,h,h2,_⟩:=h
 obtain ⟨a,cap,rfl,_⟩:=bK h2
 have h0:w.cell? ⟨b,0,none⟩=some (.slice a 0 cap):=by rw [h.cell];rfl
 clear h h2
 go_enter func196,ntmps196
 go_wp2
 go_ret2
 exact ⟨rfl,rfl⟩
theorem pile_pop_walk (b g n cap:Nat) (i m:Int) (lost:Bool) (w:World) (h:Blk w b #[.slice (some ⟨g,0,none⟩) (n+1) cap,.int .i64 m,.bool lost] 258) (hc:w.cell? ⟨g,n,none⟩=some (.int .i64 i)) (hn:n+1≤cap) (hcap:cap≤maxLen):
 Calls prog 196 #[.pointer (some ⟨b,0,none⟩)] w fun e w'=>e=.returned (.tuple #[.int .i64 i,.bool true])∧w'=w.setCell ⟨b,0,none⟩ (.slice (some ⟨g,0,none⟩) n cap):=by
 have h0:w.cell? ⟨b,0,none⟩=some (.slice (some ⟨g,0,none⟩) (n+1) cap):=by rw [h.cell];rfl
 have h1:w.frozen? ⟨b,0,none⟩=false:=h.free 0
 unfold maxLen at hcap
 clear h
 go_enter func196,ntmps196
 go_wp2
 go_ret2
 exact ⟨rfl,rfl⟩
theorem pile_pop (h:(iF b (xs++[i]) m lost).at_ S w):
 Calls prog 196 #[.pointer (some ⟨b,0,none⟩)] w fun e w'=>e=.returned (.tuple #[.int .i64 i,.bool true])∧aA (iF b xs m lost) S w w':=by
 obtain ⟨v,h1,h2,h3,h4,h5⟩:=h
 have h2':=h2
 rcases h2 with ⟨hl,⟨_,h0⟩|⟨g,cap,cur,rfl,hg,hh,hn,hcap,hsz,htake⟩⟩
 · simp at h0
 have hlen:(xs++[i]).length=xs.length+1:=by simp
 rw [hlen] at h1 hn htake h2'
 have hc:w.cell? ⟨g,xs.length,none⟩=some (.int .i64 i):=by
  have:=h2'.cells (g:=g) rfl xs.length (.int .i64 i) (by simp)
  unfold Addr.add at this;split at this
  · rename_i h;rw [h];exact this
  · simpa using this
 refine (pile_pop_walk b g xs.length cap i m lost w h1 hc hn hcap).mono fun e w' ⟨he,hw⟩=>?_
 subst hw
 have hgb:g≠b:=(h4 g rfl).2
 refine ⟨he,⟨S,⟨_,h1.set 0 _,?_,h3,fun k hk=>h4 k (by simpa [Value.ownBlock] using hk),fun k hk=>by simpa using h5 k hk⟩,fun k hk=>.inl hk⟩,(aY.refl S w).setCell (.inl h3) _⟩
 refine ownsRow_setCell_other (ownsRow_pop (last:=[.int .i64 i]) (by simp) (by simpa using h2')) (fun e=>hgb (by simpa [Value.ownBlock] using e)) _
theorem pile_new_walk (m:Int) (w:World) (h1:1≤m) (h2:m≤256):
 Calls prog 115 #[.int .i64 m] w fun e w'=>e=.returned (.tuple #[.pointer (some ⟨w.heap.size,0,none⟩),.int .i64 0])∧w'=w.alloc (.cells #[.slice none 0 0,.int .i64 m,.bool false] 258):=by
 go_enter func115,ntmps115
 go_wp2
 go_ret2
 exact ⟨rfl,rfl⟩
theorem pile_new (m:Int) (w:World) (h1:1≤m) (h2:m≤256):
 Calls prog 115 #[.int .i64 m] w fun e w'=>∃ b,e=.returned (.tuple #[.pointer (some ⟨b,0,none⟩),.int .i64 0])∧(∃ S,(iF b [] m false).at_ S w'∧∀ k,S k→w.heap.size≤k)∧Below w.heap.size w w':=by
 refine (pile_new_walk m w h1 h2).mono fun e w' ⟨he,hw⟩=>?_
 subst hw
 exact ⟨_,he,⟨fun k=>k=w.heap.size,⟨_,Blk.new _ _ _,World.ownsRow_nil _ _ _ _,rfl,fun k hk=>by simp [Value.ownBlock] at hk,fun k hk=>by simp;omega⟩,fun k hk=>by omega⟩,(Below.refl _ _).alloc (Nat.le_refl _) _⟩
theorem pile_push_lt (i:Int) (h:(iF b xs m lost).at_ S w) (hm:(xs.length:Int)<m) (hm2:m≤256):
 Calls prog 195 #[.pointer (some ⟨b,0,none⟩),.int .i64 i] w fun e w'=>e=.returned (.bool true)∧aA (iF b (xs++[i]) m lost) S w w':=by
 have e:((xs.length:Int)==m)=false:=by simp;omega
 have:=pile_push i h (by omega)
 rw [e] at this
 simpa using this
theorem pile_push_eq (i:Int) (h:(iF b xs m lost).at_ S w) (hm:(xs.length:Int)=m) (hm2:m≤256):
 Calls prog 195 #[.pointer (some ⟨b,0,none⟩),.int .i64 i] w fun e w'=>e=.returned (.bool false)∧aA (iF b xs m true) S w w':=by
 have e:((xs.length:Int)==m)=true:=by simp;omega
 have:=pile_push i h (by omega)
 rw [e] at this
 simpa using this
def cO (bs bt bp n:Nat) (f:Nat→One) (xs:List Int) (m:Int) (lost:Bool) (ct:Int):aC:=
 Sep (Var bs #[.pointer (some ⟨bt,0,none⟩),.pointer (some ⟨bp,0,none⟩),.int .i64 ct] 127) (Sep (Tab bt n f) (iF bp xs m lost))
section
variable {bs bt bp n:Nat}
theorem eJ (h:(cO bs bt bp n f xs m lost ct).at_ S w):Blk w bs #[.pointer (some ⟨bt,0,none⟩),.pointer (some ⟨bp,0,none⟩),.int .i64 ct] 127:=by
 obtain ⟨_,_,h1,_⟩:=h;exact h1.1
theorem aA.shadeBlk (h:aA (cO bs bt bp n f xs m lost ct) S w w'):Blk w' bs #[.pointer (some ⟨bt,0,none⟩),.pointer (some ⟨bp,0,none⟩),.int .i64 ct] 127:=eJ h.now.choose_spec.1
theorem dW (h:(cO bs bt bp n f xs m lost ct).at_ S w):aA (cO bs bt bp n f xs m lost (wrap64 (ct+1))) S w (w.setCell ⟨bs,2,none⟩ (.int .i64 (wrap64 (ct+1)))):=
 aG (fun _ h=>dD h 2 (.int .i64 (wrap64 (ct+1)))) S h
theorem shade_tab (h:aA (cO bs bt bp n f xs m lost ct) S w w')
 (hc:∀ S',(Tab bt n f).at_ S' w'→Calls P g args w' fun e w2=>R e∧aA (Tab bt n f') S' w' w2):Calls P g args w' fun e w2=>R e∧aA (cO bs bt bp n f' xs m lost ct) S w w2:=
 h.call (cY (bR hc))
theorem jX (h:aA (cO bs bt bp n f xs m lost ct) S w w')
 (hc:∀ S',(iF bp xs m lost).at_ S' w'→Calls P g args w' fun e w2=>R e∧aA (iF bp xs' m lost') S' w' w2):Calls P g args w' fun e w2=>R e∧aA (cO bs bt bp n f xs' m lost' ct) S w w2:=
 h.call (cY (cY hc))
theorem shade_look (h:aA (cO bs bt bp n f xs m lost ct) S w w')
 (hc:∀ S',(Tab bt n f).at_ S' w'→Calls P g args w' fun e w2=>R e∧w'=w2):Calls P g args w' fun e w2=>R e∧w'=w2:=
 h.look (lookR (lookL hc))
theorem shade_lookP (h:aA (cO bs bt bp n f xs m lost ct) S w w')
 (hc:∀ S',(iF bp xs m lost).at_ S' w'→Calls P g args w' fun e w2=>R e∧w'=w2):Calls P g args w' fun e w2=>R e∧w'=w2:=
 h.look (lookR (lookR hc))
def iO (n:Nat) (f:Nat→One) (i:Int) (s:Bool):Bool:=iH n f i&&!jV n f i s
theorem shade_white (i:Int) (s:Bool) (h:(Tab bt n f).at_ S w):
 Calls prog 193 #[.agg #[.pointer (some ⟨bt,0,none⟩)],.int .i64 i,.bool s] w fun e w'=>e=.returned (.bool (iO n f i s))∧aA (Tab bt n f) S w w':=by
 have hb:=aA.later h ((Below.refl _ w).alloc (Nat.le_refl _) (.cells #[.pointer (some ⟨bt,0,none⟩)] 124))
 have HB:=zz hb
 have HH:=zz (hb.look fun S h=>tint_head i h)
 have HK:=zz (hb.look fun S h=>gU i s h)
 unfold iO
 clear hb h
 cases hh:iH n f i with
 | false=>
  rw [hh] at HH
  clear hh
  go_enter func193,ntmps193
  go_wp2_with fail
  refine qq HH.out ?_
  go_wp2_with fail
  go_ret
  exact ⟨by simp,HB.out⟩
 | true=>
  rw [hh] at HH
  clear hh
  go_enter func193,ntmps193
  go_wp2_with fail
  refine qq HH.out ?_
  go_wp2_with fail
  refine qq HK.out ?_
  go_wp2_with fail
  go_ret
  exact ⟨by simp,HB.out⟩
theorem fS (bt:Nat) (w:World):
 Calls prog 44 #[.agg #[.pointer (some ⟨bt,0,none⟩)]] w fun e w'=>e=.returned (.pointer (some ⟨bt,0,none⟩))∧Below w.heap.size w w':=by
 go_enter func44,ntmps44
 go_wp2
 go_ret
 exact ⟨rfl,(Below.refl _ _).alloc (Nat.le_refl _) _⟩
theorem shade_black (i:Int) (s:Bool) (h:(cO bs bt bp n f xs m lost ct).at_ S w):
 Calls prog 135 #[.pointer (some ⟨bs,0,none⟩),.int .i64 i,.bool s] w fun e w'=>e=.returned (.bool (iH n f i&&jV n f i s))∧aA (cO bs bt bp n f xs m lost (wrap64 (ct+1))) S w w':=by
 have hb:=eJ h
 have g1:=dW h
 have hb1:=g1.shadeBlk
 have c0:w.cell? ⟨bs,2,none⟩=some (.int .i64 ct):=by rw [hb.cell];rfl
 have c1:w.frozen? ⟨bs,2,none⟩=false:=hb.free 2
 have d0:(w.setCell ⟨bs,2,none⟩ (.int .i64 (wrap64 (ct+1)))).cell? ⟨bs,0,none⟩=some (.pointer (some ⟨bt,0,none⟩)):=by rw [hb1.cell];rfl
 have HG:=zz g1
 have HH:=zz (shade_look g1 fun S h=>tint_head i h)
 have HK:=zz (shade_look g1 fun S h=>gU i s h)
 clear hb g1 hb1 h
 cases hh:iH n f i with
 | false=>
  rw [hh] at HH
  clear hh
  go_enter func135,ntmps135
  go_wp2_with fail
  refine qq HH.out ?_
  go_wp2_with fail
  go_ret
  exact ⟨by simp,HG.out⟩
 | true=>
  rw [hh] at HH
  clear hh
  go_enter func135,ntmps135
  go_wp2_with fail
  refine qq HH.out ?_
  go_wp2_with fail
  refine qq HK.out ?_
  go_wp2_with fail
  go_ret
  exact ⟨by simp,HG.out⟩
theorem shade_next_none (h:(cO bs bt bp n f [] m lost ct).at_ S w):
 Calls prog 130 #[.pointer (some ⟨bs,0,none⟩)] w fun e w'=>e=.returned (.tuple #[.int .i64 0,.bool false])∧aA (cO bs bt bp n f [] m lost (wrap64 (ct+1))) S w w':=by
 have hb:=eJ h
 have g1:=dW h
 have hb1:=g1.shadeBlk
 have c0:w.cell? ⟨bs,2,none⟩=some (.int .i64 ct):=by rw [hb.cell];rfl
 have c1:w.frozen? ⟨bs,2,none⟩=false:=hb.free 2
 have d0:(w.setCell ⟨bs,2,none⟩ (.int .i64 (wrap64 (ct+1)))).cell? ⟨bs,1,none⟩=some (.pointer (some ⟨bp,0,none⟩)):=by rw [hb1.cell];rfl
 have HK:=zz (shade_lookP g1 fun S h=>pile_pop_none h)
 have HG:=zz g1
 clear hb g1 hb1 h
 go_enter func130,ntmps130
 go_wp2_with fail
 refine qq HK.out ?_
 go_wp2_with fail
 go_ret2
 exact ⟨rfl,HG.out⟩
theorem shade_next (h:(cO bs bt bp n f (xs++[i]) m lost ct).at_ S w):
 Calls prog 130 #[.pointer (some ⟨bs,0,none⟩)] w fun e w'=>e=.returned (.tuple #[.int .i64 i,.bool true])∧aA (cO bs bt bp n f xs m lost (wrap64 (ct+1))) S w w':=by
 have hb:=eJ h
 have g1:=dW h
 have hb1:=g1.shadeBlk
 have c0:w.cell? ⟨bs,2,none⟩=some (.int .i64 ct):=by rw [hb.cell];rfl
 have c1:w.frozen? ⟨bs,2,none⟩=false:=hb.free 2
 have d0:(w.setCell ⟨bs,2,none⟩ (.int .i64 (wrap64 (ct+1)))).cell? ⟨bs,1,none⟩=some (.pointer (some ⟨bp,0,none⟩)):=by rw [hb1.cell];rfl
 have HK:=zz (jX g1 fun S h=>pile_pop h)
 clear hb g1 hb1 h
 go_enter func130,ntmps130
 go_wp2_with fail
 refine qz HK.out fun w' g2=>?_
 have G2:=zz g2
 clear g2
 go_wp2_with fail
 go_ret2
 exact ⟨rfl,G2.out⟩
theorem shade_lost (h:(cO bs bt bp n f xs m lost ct).at_ S w):
 Calls prog 134 #[.pointer (some ⟨bs,0,none⟩)] w fun e w'=>e=.returned (.bool lost)∧aA (cO bs bt bp n f xs m false (wrap64 (ct+1))) S w w':=by
 have hb:=eJ h
 have g1:=dW h
 have hb1:=g1.shadeBlk
 have c0:w.cell? ⟨bs,2,none⟩=some (.int .i64 ct):=by rw [hb.cell];rfl
 have c1:w.frozen? ⟨bs,2,none⟩=false:=hb.free 2
 have d0:(w.setCell ⟨bs,2,none⟩ (.int .i64 (wrap64 (ct+1)))).cell? ⟨bs,1,none⟩=some (.pointer (some ⟨bp,0,none⟩)):=by rw [hb1.cell];rfl
 have HL:=zz (shade_lookP g1 fun S h=>pile_lost h)
 have HK:=zz (jX g1 fun S h=>pile_found h)
 clear hb g1 hb1 h
 go_enter func134,ntmps134
 go_wp2_with fail
 refine qq HL.out ?_
 go_wp2_with fail
 refine qz HK.out fun w' g2=>?_
 have G2:=zz g2
 clear g2
 go_wp2_with fail
 go_ret
 exact ⟨rfl,G2.out⟩
theorem shade_grey_no (i:Int) (s:Bool) (h:(cO bs bt bp n f xs m lost ct).at_ S w) (hw:iO n f i s=false):
 Calls prog 128 #[.pointer (some ⟨bs,0,none⟩),.int .i64 i,.bool s] w fun e w'=>e=.returned (.bool false)∧aA (cO bs bt bp n f xs m lost (wrap64 (ct+1))) S w w':=by
 have hb:=eJ h
 have g1:=dW h
 have hb1:=g1.shadeBlk
 have c0:w.cell? ⟨bs,2,none⟩=some (.int .i64 ct):=by rw [hb.cell];rfl
 have c1:w.frozen? ⟨bs,2,none⟩=false:=hb.free 2
 have d0:(w.setCell ⟨bs,2,none⟩ (.int .i64 (wrap64 (ct+1)))).cell? ⟨bs,0,none⟩=some (.pointer (some ⟨bt,0,none⟩)):=by rw [hb1.cell];rfl
 have HW:=zz (shade_tab g1 fun S h=>shade_white i s h)
 rw [hw] at HW
 clear hb g1 hb1 h hw
 go_enter func128,ntmps128
 go_wp2_with fail
 refine qz HW.out fun w' g2=>?_
 have G2:=zz g2
 clear g2
 go_wp2_with fail
 go_ret
 exact ⟨rfl,G2.out⟩
theorem iJ (i:Int) (s:Bool) (h:(cO bs bt bp n f xs m lost ct).at_ S w) (hw:iO n f i s=true)
 (hp:∀ S w,(iF bp xs m lost).at_ S w→Calls prog 195 #[.pointer (some ⟨bp,0,none⟩),.int .i64 i] w fun e w'=>e=.returned (.bool r)∧aA (iF bp xs' m lost') S w w'):
 Calls prog 128 #[.pointer (some ⟨bs,0,none⟩),.int .i64 i,.bool s] w fun e w'=>e=.returned (.bool true)∧aA (cO bs bt bp n (tMark n f i s) xs' m lost' (wrap64 (ct+1))) S w w':=by
 have hb:=eJ h
 have g1:=dW h
 have hb1:=g1.shadeBlk
 have c0:w.cell? ⟨bs,2,none⟩=some (.int .i64 ct):=by rw [hb.cell];rfl
 have c1:w.frozen? ⟨bs,2,none⟩=false:=hb.free 2
 have d0:(w.setCell ⟨bs,2,none⟩ (.int .i64 (wrap64 (ct+1)))).cell? ⟨bs,0,none⟩=some (.pointer (some ⟨bt,0,none⟩)):=by rw [hb1.cell];rfl
 have HW:=zz (shade_tab g1 fun S h=>shade_white i s h)
 have HPP:=zz hp
 rw [hw] at HW
 clear hb g1 hb1 h hw hp
 go_enter func128,ntmps128
 go_wp2_with fail
 refine qz HW.out fun w1 g2=>?_
 have hb2:=g2.shadeBlk
 have e0:w1.cell? ⟨bs,0,none⟩=some (.pointer (some ⟨bt,0,none⟩)):=by rw [hb2.cell];rfl
 have HM:=zz (shade_tab g2 fun S h=>tint_mark i s h)
 clear g2 hb2 c0 c1 d0 HW
 go_wp2_with fail
 refine qz HM.out fun w2 g3=>?_
 have hb3:=g3.shadeBlk
 have e1:w2.cell? ⟨bs,1,none⟩=some (.pointer (some ⟨bp,0,none⟩)):=by rw [hb3.cell];rfl
 have HP:=zz (jX g3 fun S h=>HPP.out S w2 h)
 clear g3 hb3 e0 HM HPP
 go_wp2_with fail
 refine qz HP.out fun w3 g4=>?_
 have G4:=zz g4
 clear g4 HP
 go_wp2_with fail
 go_ret
 exact ⟨rfl,G4.out⟩
theorem shade_grey_lt (i:Int) (s:Bool) (h:(cO bs bt bp n f xs m lost ct).at_ S w) (hw:iO n f i s=true) (hm:(xs.length:Int)<m) (hm2:m≤256):
 Calls prog 128 #[.pointer (some ⟨bs,0,none⟩),.int .i64 i,.bool s] w fun e w'=>e=.returned (.bool true)∧aA (cO bs bt bp n (tMark n f i s) (xs++[i]) m lost (wrap64 (ct+1))) S w w':=
 iJ i s h hw fun _ _ h=>pile_push_lt i h hm hm2
theorem shade_grey_eq (i:Int) (s:Bool) (h:(cO bs bt bp n f xs m lost ct).at_ S w) (hw:iO n f i s=true) (hm:(xs.length:Int)=m) (hm2:m≤256):
 Calls prog 128 #[.pointer (some ⟨bs,0,none⟩),.int .i64 i,.bool s] w fun e w'=>e=.returned (.bool true)∧aA (cO bs bt bp n (tMark n f i s) xs m true (wrap64 (ct+1))) S w w':=
 iJ i s h hw fun _ _ h=>pile_push_eq i h hm hm2
end
theorem shade_new (n:Nat) (m:Int) (w:World) (h1:n≤1024) (h2:1≤m) (h3:m≤256):
 Calls prog 57 #[.int .i64 n,.int .i64 m] w fun e w'=>∃ bs bt bp,e=.returned (.tuple #[.pointer (some ⟨bs,0,none⟩),.int .i64 0])∧St w (cO bs bt bp n fM [] m false 0) w':=by
 go_enter func57,ntmps57
 go_wp2_with fail
 with_reducible refine (tint_new n _ h1).mono ?_
 rintro e w1 ⟨bt,rfl,hP,hB⟩
 have hs:=St.begin (Below.refl _ w) hP hB
 clear hP hB
 have HS:=zz hs
 clear hs
 go_wp2_with fail
 with_reducible refine (pile_new m _ h2 h3).mono ?_
 rintro e w2 ⟨bp,rfl,hP,hB⟩
 have hs:=zz (HS.out.more hP hB)
 clear hP hB HS
 go_wp2_with fail
 go_ret2
 exact ⟨_,bt,bp,rfl,(hs.out.var _ _).swap⟩
end Go.Proofs.YtgcmiahhkalfmaaGreat
