import Derived.Test.YtgcmiahhkalfmaaGreatM29
import Derived.Laws.OwnMore
set_option maxRecDepth 100000
set_option maxHeartbeats 8000000
set_option linter.unusedVariables false
set_option linter.unusedSimpArgs false
namespace Go.Proofs.YtgcmiahhkalfmaaGreat
section
attribute [local go_sem] aF aI aO aV
open Go.Proofs.Tryz
open Go.RowKit
variable {ops:Array Oper} {c:Cf} {x:GrX} {rl:List Bool} {l tl:List Nat} {rest:List Oper} {b hb i k t u yb:Nat} {ph st:Nat→Int} {lo:Nat→Nat→Lc} {R S:Nat→Prop} {ls th:Nat→Value} {o:Oper} {a:Option Addr} {g:Sw.Gr} {q:Sw.Q} {B H:aC} {tv v:Value} {w w':World}
theorem lA:∀ (n:Nat) (l:List Nat),l.Nodup→(∀ x∈l,x<n)→l.length≤n
 | 0,l,_,h=>by
  cases l with
  | nil=>simp
  | cons a l=>exact absurd (h a (by simp)) (by omega)
 | n+1,l,hd,h=>by
  by_cases e:n∈l
  · have h1:=lA n (l.erase n) (hd.erase n) fun x hx=>by
     have h2:=(List.Nodup.mem_erase_iff hd).1 hx
     have:=h x h2.2
     omega
    rw [List.length_erase_of_mem e] at h1
    omega
  · exact Nat.le_succ_of_le (lA n l hd fun x hx=>by
     have:=h x hx
     have h3:x≠n:=fun e'=>e (e'▸hx)
     omega)
theorem numl_pop (h:(dU (.slice a (l.length+1) k) (l++[i])).at_ S w):(dU (.slice a l.length k) l).at_ S w:=by
 obtain ⟨h1,h2⟩:=h
 rw [List.length_append,List.map_append] at h1
 rcases h1.2 with ⟨e,_⟩|⟨g,cap,cur,e,_⟩
 · cases e
 · cases e
   exact ⟨ownsRow_pop (last:=[.int .i64 (i:Int)]) (by simp) h1,h2⟩
theorem app_nums {a:Act} {Q:Exit→Act→World→Prop} {w0:World} (hgd:o.guard=none) (s x:Operand)
 (ho:o.op=.call {callee:=.builtin .append,args:=#[s,x],argTypes:=#[22,22]}) (h:aA (Sep (Sep B (dU tv tl)) (dU v l)) S w0 w) (hs:a.eval s=v) (hx:a.eval x=tv) (hn:l.length+tl.length≤100000)
 (hk:∀ (na:Option Addr) (nc:Nat) (w':World),aA (Sep (Sep B (dU tv tl)) (dU (.slice na (l.length+tl.length) nc) (l++tl))) S w0 w'→wpList prog ops Q rest (a.put o.dst (.slice na (l.length+tl.length) nc)) w'):
 wpList prog ops Q (o::rest) a w:=by
 obtain ⟨i0,hi,hz0,hz1,hz2⟩:=info_parts Tryz.info3
 rcases h.l.r.is.1.2 with ⟨rfl,e⟩|⟨g,cap,cur,rfl,_,h4,_,_,_,h8⟩
 · obtain rfl:tl=[]:=List.length_eq_zero_iff.1 e
   refine wpList_plain hgd fun K hK=>?_
   have hr:=run_append_owned_none (P:=prog) (w:=w) 0 22 o.type 3 i0 1 underlying22 hi v l.length _ h.r.is.1
   unfold Oper.wp execOp
   simp only [ho,resolve,invoke,builtin,Sem.run_bind,Sem.run_pure,Result.andThen_ok,List.map_toArray,List.map_cons,List.map_nil,hs,hx,hr]
   obtain ⟨va,vk,rfl⟩:=dJ h.r.is
   exact hK _ _ (hk va vk w (by rw [List.append_nil];exact h))
 · refine bI hgd s x 22 ho 3 i0 (.int .i64 0) 1 8 underlying22 hi hz0 hz1 hz2 rfl (by decide) v l.length _ hs h.r.is.1 ⟨g,0,none⟩ tl.length cap (tl.map fun j:Nat=>.int .i64 (j:Int)) hx (by simp) ?_ ?_ (by omega) (by decide) ?_
   · intro i u hi
     rw [bU,Nat.zero_add]
     have hi2:i<tl.length:=by have:=(List.getElem?_eq_some_iff.1 hi).1;simpa using this
     have h9:=h4
     rw [Blk.cell (show Blk w g cur 3 from h9),←Array.getElem?_toList]
     have:(cur.toList.take (tl.length*1))[i]? = some u:=by rw [h8];exact hi
     rw [List.getElem?_take_of_lt (by omega)] at this
     exact this
   · intro u hu
     obtain ⟨j,_,rfl⟩:=List.mem_map.1 hu
     rfl
   · intro v' w' h9 hgr hbk
     have g:=h.then (aH (fun S h=>bS (m:=tl.length) (news:=tl.map fun j:Nat=>.int .i64 (j:Int)) h (Below.refl w.heap.size w) h9 hgr hbk))
     obtain ⟨na,nc,rfl⟩:=jZ h9
     exact hk na nc w' (by unfold dU at *;rw [List.map_append,List.length_append];exact g)
structure AlOk (c:Cf) (rl:List Bool) (q:Sw.Q) (R:Nat→Prop):Prop where
 lt:∀ i,R i→i<c.frags
 hd:∀ i,R i→(q.t i).hd=true
 st:∀ i,R i→(q.t i).st=2
 w1:∀ i,R i→q.m (i*8+1)=⟨0,1⟩
 rf:∀ i,R i→∀ k,rl[k]? = some true→(q.m (i*8+(2+k))).i=1∧(q.m (i*8+(2+k))).k≤63∧(1≤(q.m (i*8+(2+k))).k→R ((q.m (i*8+(2+k))).k-1))
theorem AlOk.refs {c:Cf} {rl:List Bool} {q:Sw.Q} {R:Nat→Prop} (o:AlOk c rl q R) {i:Nat} (hi:R i):∀ n,∀ x∈rfN q.m i rl n,R x
 | 0,x,hx=>by simp [rfN] at hx
 | n+1,x,hx=>by
  rw [rfN] at hx
  rcases List.mem_append.1 hx with h|h
  · exact o.refs hi n x h
  · split at h
    · next e=>
      unfold rfs at h
      split at h
      · simp at h;subst h;exact (o.rf i hi n e).2.2 (by assumption)
      · simp at h
    · simp at h
def lenOf:Value→Nat
 | .slice _ n _=>n
 | _=>0
section
theorem aU.lll (A B C:aC):aU (Sep (Sep A B) C) A:=fun S w h=>by
 obtain ⟨S1,h1,k1⟩:=aB.l h
 obtain ⟨S2,h2,k2⟩:=aB.l h1
 exact ⟨S2,h2,fun k hk=>k1 k (k2 k hk)⟩
structure RcR (R:Nat→Prop) (H:aC) (mb:Nat) (S:Nat→Prop) (w:World) (wv ov:Value) (wr:World) (wl ol:List Nat) (f:Nat→Bool):Prop where
 rw_:∀ x∈wl,R x
 ro:∀ x∈ol,R x
 nd:ol.Nodup
 ff:∀ x,f x=true↔x∈ol
 le:wl.length≤200+6*ol.length
 g:aA (Sep (Sep (Sep H (MapS mb ol.length f)) (dU wv wl)) (dU ov ol)) S w wr
theorem aud_reach (a:AuH H c hb q) (b:AuT H c hb ph st lo) (hc:c.ok) (hs:c.shapes[0]? = some (false,rl)) (o:AlOk c rl q R) (hl:∀ t,t<c.threads→ph t≠0→ph t≠4→∀ j,j<c.locals→(lo t j).k≤63∧(lo t j).i≤63∧((lo t j).ref=true→RfOk R (lo t j).w)) (hgl:∀ g,g<c.globals→RfOk R (q.m (c.gw g))) (w:World):
 aN prog 23 #[.pointer (some ⟨hb,0,none⟩)] w H (fun (z:Value×List Nat) e=>e=.returned z.1∧z.2.length≤1024∧z.2.Nodup∧∀ x∈z.2,R x) (fun z=>Sep H (dU z.1 z.2)):=by
 intro S h
 have hrl:rl.length≤6:=(hc.shape _ (List.mem_of_getElem? hs)).1
 have g0:=(aA.begin h).moreSt (St.map w)
 obtain ⟨mb,hmb⟩:∃ k,w.heap.size=k:=⟨_,rfl⟩
 rw [hmb] at g0
 have HR:=zz ((aN.lX (aud_roots a b hc hl hgl _)).on g0)
 have HO:=zz o
 have HF:=zz hc.frags
 have HRL:=zz hrl
 have HLK:=zz fun (B C D:aC) i (hi:R i) w1 (gg:aA (Sep (Sep (Sep H B) C) D) S w w1)=>(aN.lX (aN.lX (aN.lX (aud_looks a hc hs (o.lt i hi) (o.hd i hi) (o.w1 i hi) (fun k hk=>⟨(o.rf i hi k hk).1,(o.rf i hi k hk).2.1⟩) w1)))).on gg
 clear h hc hs hl hgl a b o g0 hrl
 go_enter func23,ntmps23
 have hmm:=@run_makeMap prog
 go_upto_region 2 with fail
 generalize w.alloc _=w1 at*
 clear hmm hmb
 go_wp2_with fail
 with_reducible refine HR.out.mono ?_
 rintro e w2 ⟨⟨wv,wl⟩,⟨rfl,hl,hR⟩,hg⟩
 have HG:=zz (show RcR R H mb S w wv (.slice none 0 0) w2 wl [] fun _=>false from ⟨hR,fun _ h=>absurd h (by simp),List.nodup_nil,fun x=>by simp,by simpa using hl,kZ hg⟩)
 clear HR hl hR hg
 dsimp only
 go_wp2_with fail
 go_loopw [4,5,6,7,8] (fun x y _ _ _ wr=>∃ (wl ol:List Nat) (wv ov:Value) (f:Nat→Bool) (wx:World),wx=wr∧wv=x∧ov=y∧RcR R H mb S w wv ov wx wl ol f) (fun x y _ _ _ _=>7*(c.frags-lenOf y)+lenOf x)
 case atStart=>exact ⟨wl,[],_,_,_,_,rfl,rfl,rfl,HG.out⟩
 case round=>
  clear HG
  obtain ⟨wl,ol,wv,ov,f,wr,rfl,rfl,rfl,hr⟩:=hrel
  obtain ⟨oa,ok,rfl⟩:=dJ hr.g.r.is
  rcases List.eq_nil_or_concat wl with rfl|⟨l0,i,rfl⟩
  · obtain ⟨wa,wk,rfl⟩:=dJ hr.g.l.r.is
    have hle:ol.length≤1024:=by have:=lA c.frags ol hr.nd fun x hx=>HO.out.lt x (hr.ro x hx);have:=HF.out;omega
    have HS:=zz (aN.on (aN.r (B:=Sep (Sep H (MapS mb ol.length f)) (dU (.slice wa ([]:List Nat).length wk) [])) (fun S h=>(sort_num (v:=.slice oa ol.length ok) (l:=ol) (by omega) h).mono fun e w' ⟨l',h1,h2,h3⟩=>⟨l',⟨h1,h2⟩,h3⟩:aN prog 50 #[.slice oa ol.length ok] wr (dU (.slice oa ol.length ok) ol) (fun (l':List Nat) e=>e=.returned (.tuple #[])∧l'.Perm ol) (fun l'=>dU (.slice oa ol.length ok) l'))) hr.g)
    have HX:=zz hr
    have HLE:=zz hle
    clear hr hle HLK
    simp only [List.length_nil] at*
    go_wp2_with fail
    with_reducible refine HS.out.mono ?_
    rintro e w3 ⟨l',⟨rfl,hp⟩,hg⟩
    have HG:=zz (hg.drop (aU.ll _ _ _ _))
    have HP:=zz hp
    clear HS hg hp
    go_wp2_with fail
    go_ret
    exact ⟨(.slice oa ol.length ok,l'),⟨rfl,by rw [HP.out.length_eq];exact HLE.out,HP.out.nodup_iff.2 HX.out.nd,fun x hx=>HX.out.ro x (HP.out.mem_iff.1 hx)⟩,HG.out⟩
  · have hlw:(l0++[i]).length=l0.length+1:=by simp
    rw [List.concat_eq_append] at*
    obtain ⟨wa,wk,rfl⟩:=dJ hr.g.l.r.is
    rw [hlw] at hr ⊢
    obtain ⟨wb,rfl,hcl⟩:=numl_cell hr.g.l.r (j:=l0.length) (x:=i) (by simp)
    obtain ⟨_,_,e,hk1,hk2⟩:=bK hr.g.l.r.is.1
    injection e with e1 e2 e3
    subst e1 e3
    clear e2
    rw [hlw] at hk1
    unfold maxLen at hk2
    have hRi:R i:=hr.rw_ i (by simp)
    have hif:=HO.out.lt i hRi
    have hiF:=HF.out.2
    have hlk:=map_get underlying89 hr.g.l.l.r.is (j:=i) (by omega)
    have g1:=hr.g.conv fun _ _ h=>aB.monoL (fun _ h=>aB.monoR (fun _ h=>numl_pop h) h) h
    cases hfi:f i with
    | true=>
     rw [hfi] at hlk
     have HX:=zz (show RcR R H mb S w (.slice (some ⟨wb,0,none⟩) l0.length wk) (.slice oa ol.length ok) wr l0 ol f from ⟨fun x hx=>hr.rw_ x (by simp [hx]),hr.ro,hr.nd,hr.ff,by have:=hr.le;rw [hlw] at this;omega,g1⟩)
     clear hr g1 hlw hRi hif hiF hfi HLK
     go_wp2_with fail
     go_round
     case rel=>exact ⟨l0,ol,_,_,f,_,rfl,rfl,rfl,HX.out⟩
     case measure=>simp [lenOf]
    | false=>
     rw [hfi] at hlk
     have hni:¬i∈ol:=fun h=>by have:=(hr.ff i).2 h;rw [hfi] at this;cases this
     have hol:ol.length+1≤c.frags:=lA c.frags (i::ol) (List.nodup_cons.2 ⟨hni,hr.nd⟩) fun x hx=>by
      rcases List.mem_cons.1 hx with rfl|h
      · exact hif
      · exact HO.out.lt x (hr.ro x h)
     obtain ⟨w2,hu⟩:=(map_put underlying89 hr.g.l.l.r.is (j:=i) (by omega) (by omega)).imp fun _ h=>h.1
     have g2:=g1.then (aG (aG (aH (fun S h=>by
      obtain ⟨w3,h3,hg3⟩:=map_put underlying89 h (j:=i) (by omega) (by omega)
      rw [hu] at h3
      cases h3
      exact hg3))))
     have G2:=zz g2
     have HX:=zz hr
     have HN:=zz (And.intro hni (And.intro hol (And.intro hRi hlw)))
     have hol2:ol.length≤1024:=by omega
     clear hr g1 g2 hlw hRi hif hfi hni hol
     go_wp2_with (at_builtin;refine lK (j:=i) rfl _ _ rfl G2.out rfl rfl (by omega) ?_)
     intro na nc w3 g3
     have HLC:=zz (HLK.out _ _ _ i HN.out.2.2.1 _ g3)
     clear G2 g3 HLK hlk hu
     go_wp2_with fail
     with_reducible refine HLC.out.mono ?_
     rintro e w4 ⟨⟨X,rv,fr,tv⟩,rfl,hg⟩
     dsimp only at hg ⊢
     obtain ⟨ta,tk,rfl⟩:=dJ hg.r.r.is
     have c18:=hg.r.l.l.l.l.vC 18 (.slice ta (rfN q.m i rl rl.length).length tk)
     have G5:=zz (hg.conv fun _ _ h=>aB.monoL (fun _ h=>aB.assoc' h) (aB.rot (aB.monoL (fun _ h=>aB.rot h) h)))
     have hrf:=rfN_len q.m i rl rl.length
     have hr6:=HRL.out
     have hlw2:=HX.out.le
     rw [HN.out.2.2.2] at hlw2
     clear HLC hg
     go_wp2_with (at_builtin;refine app_nums rfl _ _ rfl G5.out rfl rfl (by omega) ?_)
     intro na2 nc2 w5 g5
     have HX5:=zz (show RcR R H mb S w (.slice na2 (l0.length+(rfN q.m i rl rl.length).length) nc2) (.slice na (ol.length+1) nc) w5 (l0++rfN q.m i rl rl.length) (ol++[i]) (fun k=>decide (k=i)||f k) from ⟨fun x hx=>by
      rcases List.mem_append.1 hx with h|h
      · exact HX.out.rw_ x (by simp [h])
      · exact HO.out.refs HN.out.2.2.1 _ x h,fun x hx=>by
      rcases List.mem_append.1 hx with h|h
      · exact HX.out.ro x h
      · simp at h;subst h;exact HN.out.2.2.1,by
      rw [List.nodup_append]
      exact ⟨HX.out.nd,by simp,fun x hx y hy=>by simp at hy;subst hy;exact fun e=>HN.out.1 (e▸hx)⟩,fun x=>by
      have:=HX.out.ff x
      by_cases e:x=i
      · simp [e]
      · simp [e,this],by simp only [List.length_append,List.length_singleton];omega,by
      simp only [List.length_append,List.length_singleton]
      exact (g5.drop (aU.both (aU.lll _ _ _) (aU.refl _))).conv fun _ _ h=>aB.rot h⟩)
     clear g5 G5 c18 hrf hr6 hlw2
     go_wp2_with fail
     go_round
     case rel=>exact ⟨_,_,_,_,_,_,rfl,rfl,rfl,HX5.out⟩
     case measure=>have:=HN.out.2.1;have:=rfN_len q.m i rl rl.length;have:=HRL.out;simp [lenOf];omega
end
theorem field_frags (c:Cf) (g k:Nat) (w:World):(Instr.field 34 (.agg #[.int .i64 c.frags,.int .i64 c.spine,.int .i64 c.globals,.int .i64 c.threads,.int .i64 c.locals,.int .i64 0,.int .i64 c.stack,.int .i64 c.low,.slice (some ⟨g,0,none⟩) c.shapes.length k]) 0).run prog w=.ok (.int .i64 c.frags) w:=by
 kernel_rfl
structure AuC (H:aC) (c:Cf) (hb yb:Nat):Prop where
 cell:∀ S w w',aA H S w w'→w'.cell? ⟨hb,1,none⟩=some (.pointer (some ⟨yb,0,none⟩))
 err:∀ w,aJ prog 21 #[.agg #[.pointer (some ⟨yb,0,none⟩)]] w H (.int .i64 0) H
 cnt:∀ w,aN prog 20 #[.pointer (some ⟨hb,0,none⟩)] w H (fun (v:Int×Int×Int) e=>e=.returned (.tuple #[.int .i64 v.1,.int .i64 v.2.1,.int .i64 v.2.2])∧v.1+v.2.1+v.2.2=c.frags∧0≤v.1∧0≤v.2.1∧0≤v.2.2) (fun _=>H)
section
def SdT (H:aC) (m n:Nat) (f:Nat→Bool) (ov:Value) (ol:List Nat) (z:Option Addr×Nat) (i tb:Nat):aC:=Sep (Sep (Sep (Sep H (MapS m n f)) (dU ov ol)) (dU (.slice z.1 1 z.2) [i])) (Var tb #[.int .i64 (i:Int),.int .i64 0,.int .i64 0,.slice z.1 1 z.2,.int .i64 (-1),.int .i64 0] 93)
def SdR (H:aC) (m n:Nat) (f f2:Nat→Bool) (ov:Value) (ol:List Nat) (z:Option Addr×Nat) (i tb:Nat) (S:Nat→Prop) (w:World) (j:Value) (wr:World):Prop:=
 (j=.int .i64 0∧aA (SdT H m n f ov ol z i tb) S w wr)∨(j=.int .i64 1∧aA (SdT H m (n+1) f2 ov ol z i tb) S w wr)
theorem aud_sound (a:AuH H c hb q) (b:AuT H c hb ph st lo) (d:AuC H c hb yb) (hc:c.ok) (hs:c.shapes[0]? = some (false,rl)) (o:AlOk c rl q R) (hl:∀ t,t<c.threads→ph t≠0→ph t≠4→∀ j,j<c.locals→(lo t j).k≤63∧(lo t j).i≤63∧((lo t j).ref=true→RfOk R (lo t j).w)) (hgl:∀ g,g<c.globals→RfOk R (q.m (c.gw g))) (w:World):
 aJ prog 9 #[.pointer (some ⟨hb,0,none⟩)] w H (.int .i64 0) H:=by
 intro S h
 have HCN:=zz ((d.cnt w).on (aA.begin h))
 have HE:=zz fun w1 (gg:aA H S w w1)=>(d.err w1).on gg
 have HCL:=zz fun w1 (gg:aA H S w w1)=>d.cell S w w1 gg
 have HC:=zz fun w1 (gg:aA H S w w1)=>(a.conf w1).on gg
 have HR:=zz fun w1 (B:aC) (gg:aA (Sep H B) S w w1)=>(aN.lX (aud_reach a b hc hs o hl hgl w1)).on gg
 have HST:=zz fun w1 (B C D E:aC) i (hi:i<c.frags) (gg:aA (Sep (Sep (Sep (Sep H B) C) D) E) S w w1)=>((((a.state i hi w1).l).l).l).l.on gg
 have HLK:=zz fun w1 (B C:aC) i (hi:R i) (gg:aA (Sep (Sep H B) C) S w w1)=>(aN.lX (aN.lX (aud_look a hc hs (o.lt i hi) (o.hd i hi) (o.w1 i hi) (fun k hk=>⟨(o.rf i hi k hk).1,(o.rf i hi k hk).2.1⟩) w1))).on gg
 have HO:=zz o
 have hF:=hc.frags
 have HF:=zz hF
 unfold cfV at HC
 clear h a b d hc hs o hl hgl
 go_enter func9,ntmps9
 go_wp2_with fail
 with_reducible refine HCN.out.mono ?_
 rintro e w1 ⟨⟨v1,v2,v3⟩,⟨rfl,hs,h1,h2,h3⟩,hg⟩
 simp only at hs h1 h2 h3
 have c1:=HCL.out _ hg
 have HEC:=zz (HE.out _ hg)
 have hfi:(c.frags:Int)≤1024:=by omega
 clear HCN HE hg hF HCL
 go_wp2_with fail
 refine qz HEC.out fun w2 hg=>?_
 have HCC:=zz (HC.out _ hg)
 clear HEC HC hg c1
 go_wp2_with fail
 with_reducible refine HCC.out.mono ?_
 rintro e w3 ⟨u,rfl,hgx⟩
 have hg:=hgx.l
 have hff:=field_frags c u.1 u.2
 clear HCC hgx
 have hmm:=@run_makeMap prog
 go_upto_region 5 with fail
 have g2:=(hg.moreSt (St.map w3)).alloc_ (.map #[] 0)
 obtain ⟨mb,hmb⟩:∃ k,w3.heap.size=k:=⟨_,rfl⟩
 rw [hmb] at g2 ⊢
 generalize World.alloc (World.alloc _ _) _=w4 at*
 have HRC:=zz (HR.out _ _ g2)
 clear HR hg g2 hmm hmb hs h1 h2 h3 hff
 go_wp2_with fail
 with_reducible refine HRC.out.mono ?_
 rintro e w5 ⟨⟨ov,ol⟩,⟨rfl,hle,hnd,hR⟩,hg⟩
 dsimp only at hle hnd hR hg ⊢
 obtain ⟨oa,ok,rfl⟩:=dJ hg.r.is
 have HG:=zz hg
 have HN:=zz (And.intro hnd hR)
 have hle:(ol.length:Int)≤1024:=by have:ol.length≤1024:=hle;omega
 clear HRC hg hnd hR
 go_wp2_with fail
 go_loopw [9,10,11,13,14,43] (fun _ _ _ _ _ j wr=>∃ (k:Nat) (f:Nat→Bool) (wx:World),wx=wr∧k≤ol.length∧j=.int .i64 (k:Int)∧(∀ x,f x=true↔x∈ol.take k)∧aA (Sep (Sep H (MapS mb k f)) (dU (.slice oa ol.length ok) ol)) S w wx) (fun _ _ _ _ _ j _=>ol.length-(intOf j).toNat)
 case atStart=>exact ⟨0,_,_,rfl,Nat.zero_le _,rfl,fun x=>by simp,HG.out⟩
 case round=>
  clear HG
  obtain ⟨k,f,wr,rfl,hk,rfl,hf,hg⟩:=hrel
  by_cases hlt:k<ol.length
  · obtain ⟨i,hi⟩:∃ i,ol[k]? = some i:=⟨_,List.getElem?_eq_getElem hlt⟩
    obtain ⟨ob,rfl,hcl⟩:=numl_cell hg.r hi
    have hki:(k:Int)<(ol.length:Int):=by omega
    have hmem:i∈ol:=List.mem_of_getElem? hi
    have hRi:=HN.out.2 i hmem
    have hif:=HO.out.lt i hRi
    have hfi2:f i=false:=by
     cases h:f i with
     | false=>rfl
     | true=>
      have h1:=(hf i).1 h
      obtain ⟨j,hj,e⟩:=List.mem_take_iff_getElem.1 h1
      have hnd:=HN.out.1
      have e2:ol[k]=i:=by rw [List.getElem?_eq_getElem hlt] at hi;exact Option.some.inj hi
      have:=(List.getElem_inj hnd).1 (e.trans e2.symm)
      omega
    obtain ⟨f2,hf2⟩:∃ f2:Nat→Bool,f2=fun x=>if x=i then true else f x:=⟨_,rfl⟩
    have HTK:=zz fun w1 (B C D E:aC) (gg:aA (Sep (Sep (Sep (Sep B (MapS mb k f)) C) D) E) S w w1)=>(((((aud_takes (by omega) (by omega) hfi2 w1).r).l).l).l).on gg
    rw [←hf2] at HTK
    have HF2:=zz (show ∀ x,f2 x=true↔x∈ol.take (k+1) from fun x=>by
     rw [hf2,List.take_add_one,hi]
     by_cases e:x=i
     · simp [e]
     · simp [e,hf x])
    have HLC:=zz (HLK.out _ _ _ i hRi hg)
    have HSC:=zz (HO.out.st i hRi)
    have HK:=zz hlt
    clear hg hlt hf hk hi hmem hRi hfi2 hf2
    go_wp2_with fail
    with_reducible refine HLC.out.mono ?_
    rintro e w6 ⟨z,rfl,hg⟩
    have g7:=hg.moreSt (St.fresh #[.int .i64 (i:Int),.int .i64 0,.int .i64 0,.slice z.1 1 z.2,.int .i64 (-1),.int .i64 0] 93)
    clear HLC hg hcl
    go_upto_region 9 with fail
    generalize w6.heap.size=tb at*
    generalize w6.alloc _=w7 at*
    have G7:=zz (show aA (SdT H mb k f (.slice (some ⟨ob,0,none⟩) ol.length ok) ol z i tb) S w w7 from g7)
    have t5:=g7.r.vi 5 0
    have t3:=g7.r.vC 3 (.slice z.1 1 z.2)
    obtain ⟨z1,z2⟩:=z
    dsimp only at*
    clear g7
    go_wp2_with fail
    clear t5 t3
    go_loopw [13,69] (fun _ j wr=>SdR H mb k f f2 (.slice (some ⟨ob,0,none⟩) ol.length ok) ol (z1,z2) i tb S w j wr) (fun _ j _=>1-(intOf j).toNat)
    case atStart=>exact .inl ⟨rfl,G7.out⟩
    case round=>
     clear G7
     rcases hrel with ⟨rfl,hg⟩|⟨rfl,hg⟩
     · obtain ⟨zb,rfl,hcz⟩:=numl_cell (j:=0) hg.l.r rfl
       have HS:=zz (HST.out _ _ _ _ _ i hif hg)
       rw [HSC.out] at HS
       clear hg
       go_wp2_with fail
       refine qz HS.out fun w8 hg=>?_
       have HT:=zz (HTK.out _ _ _ _ _ hg)
       clear HS hg hcz
       go_wp2_with fail
       refine qz HT.out fun w9 hg=>?_
       have HG:=zz hg
       clear HT hg
       go_wp2_with fail
       go_round
       case rel=>exact .inr ⟨by go_num,HG.out⟩
       case measure=>simp [intOf]
     · have t5:=hg.r.vi 5 0
       have HG:=zz hg.l.l
       clear hg
       go_wp2_with fail
       go_loopw [14,86] (fun _ j wr=>j=.int .i64 0∧aA (Sep (Sep H (MapS mb (k+1) f2)) (dU (.slice (some ⟨ob,0,none⟩) ol.length ok) ol)) S w wr) (fun _ _ _=>0)
       case atStart=>exact ⟨rfl,HG.out⟩
       case round=>
        clear HG t5
        obtain ⟨rfl,hg⟩:=hrel
        have HG:=zz hg
        clear hg
        go_wp2_with fail
        go_round
        case rel=>exact ⟨k+1,f2,_,rfl,HK.out,by go_num,HF2.out,HG.out⟩
        case measure=>have:=HK.out;simp [intOf];omega
  · obtain rfl:k=ol.length:=by omega
    have HG:=zz hg.l.l
    clear hg hf hk hlt
    go_wp2_with fail
    go_ret
    exact ⟨rfl,HG.out⟩
end
section
def GrP (b:Nat) (c:Cf) (x:GrX) (g:Sw.Gr) (th ls:Nat→Value):aC:=
 Sep (Var b (grC c x) 73) (Sep (aZ c x.g x.cap) (Sep (Sep (cQ 177 3 x.lv g.len (fI x g.len)) (All g.len fun d=>Vgs (x.wb d) 3 25 (jM (g.f d))))
  (Sep (Sep (bV x.tb 2 4 th) (bV x.lb 2 59 ls)) (Sep (Vgs x.gb 2 25 (jM g.g)) (All 2 (LsT c x g))))))
theorem grp_th (h:aA (GrP b c x g th ls) S w w') (j:Nat) (v:Value):aA (GrP b c x g (dH th j v) ls) S w (w'.setCell ⟨x.tb,j,none⟩ v):=
 h.then (aH (aH (aH (aG (aG (fun S h=>dE h j v))))))
theorem grp_ls (h:aA (GrP b c x g th ls) S w w') (j:Nat) (v:Value):aA (GrP b c x g th (dH ls j v)) S w (w'.setCell ⟨x.lb,j,none⟩ v):=
 h.then (aH (aH (aH (aG (aH (fun S h=>dE h j v))))))
theorem thgs_xb (x:GrX) (f:Nat→Nat):∀ n,fI {x with xb:=f} n=fI x n
 | 0=>rfl
 | n+1=>by unfold fI;rw [thgs_xb x f n]
theorem grp_join (ht:t<2) (hz:g.th t=false) (h:(Sep (GrP b c x g (dH (thM g.th) t (.bool true)) (dH (lsM c x g.th) t (.slice (some ⟨u,0,none⟩) c.locals c.locals))) (bV u (c.locals*2) 39 (cG lc0))).at_ S w):(GrO b c (g.join t)).at_ S w:=by
 refine ⟨{x with xb:=fun k=>if k=t then u else x.xb k},?_⟩
 show (Sep _ (Sep _ (Sep (Sep (cQ _ 3 _ g.len (fI _ g.len)) _) (Sep (Sep (bV _ 2 _ (thM (Sw.set g.th t true))) (bV _ 2 _ (lsM c _ (Sw.set g.th t true)))) _)))).at_ S w
 rw [thgs_xb,thM_on,lsM_on]
 exact aB.monoR (fun _ h=>aB.monoR (fun _ h=>aB.monoR (fun _ h=>aB.monoR (fun _ h=>aB.monoR (fun _ h=>ls_join ht h hz) (aB.assoc h)) (aB.assoc h)) (aB.assoc h)) (aB.assoc h)) (aB.assoc h)
theorem gr_join (ht:t<2) (hz:g.th t=false) (hc:c.ok) (w:World):aJ prog 14 #[.pointer (some ⟨b,0,none⟩),.int .i64 (t:Int)] w (GrO b c g) (.bool true) (GrO b c (g.join t)):=by
 rintro S ⟨x,h⟩
 have g0:aA (GrP b c x g (thM g.th) (lsM c x g.th)) S w w:=aA.begin h
 have c10:=g0.cC 10 (.slice (some ⟨x.tb,0,none⟩) 2 2)
 have ct1:=aR (j:=t) g0.r.r.r.l.l.is ht
 rw [show thM g.th t=.bool false by unfold thM;rw [hz]] at ct1
 have f1:=bD g0.r.r.r.l.l.is t
 have g1:=grp_th g0 t (.bool true)
 have hmk:=fun w=>make_locals c.locals (by have:=hc.locals;omega) w
 have h0:(0:Int)≤(t:Int):=by omega
 have h2:(t:Int)<2:=by omega
 have h3:¬(2:Int)≤(t:Int):=by omega
 have h4:¬(t:Int)<0:=by omega
 have HZ:=zz hz
 clear h g0 hc hz
 go_enter func14,ntmps14
 go_upto_region 4 with fail
 generalize World.setCell _ _ _=w1 at*
 clear c10 ct1 f1
 have g2:=g1.drew_
 refine wp_region_held_drew (S:=fun w'=>w'.cell? ⟨b,11,none⟩=some (.slice (some ⟨x.lb,0,none⟩) 2 2)∧w'.cell? ⟨b,4,none⟩=some (.int .i64 c.locals)) (by kernel_rfl) ⟨g2.cC 11 (.slice (some ⟨x.lb,0,none⟩) 2 2),g2.ci 4 c.locals⟩ (fun hHeld=>?_)
 generalize w1.drew=wd at*
 clear g1
 refine tk 0 ?_
 refine tk 1 ?_
 refine tk 2 ?_
 refine tk 3 ?_
 refine tk 4 ?_
 refine tk 5 ?_
 refine tk 6 ?_
 refine tk 7 ?_
 refine tk 8 ?_
 refine tk 9 ?_
 refine rdy 10 fun K hK=>?_
 go_simp
 have g3:=g2.moreSt (St.locals wd c.locals)
 go_wp2_with fail
 refine hK.out _ _ ⟨g3.l.cC 11 (.slice (some ⟨x.lb,0,none⟩) 2 2),g3.l.ci 4 c.locals⟩ (fun hHeld=>?_)
 clear hK K g2
 try simp only [Act.put,List.setIfInBounds_toArray,List.set_cons_zero,List.set_cons_succ]
 generalize wd.heap.size=u at*
 generalize wd.alloc _=we at*
 refine tk 11 ?_
 have cl2:=aR (j:=t) g3.l.r.r.r.l.r.is ht
 have fl2:=bD g3.l.r.r.r.l.r.is t
 rw [show lsM c x g.th t=.slice none 0 0 by unfold lsM;rw [HZ.out];rfl] at cl2
 have g4:=g3.then (aG (fun S h=>grp_ls (aA.begin h) t (.slice (some ⟨u,0,none⟩) c.locals c.locals)))
 refine rdy 12 fun K hK=>?_
 go_simp
 refine hon hK ⟨g4.l.cC 11 (.slice (some ⟨x.lb,0,none⟩) 2 2),g4.l.ci 4 c.locals⟩ fun hHeld=>?_
 clear hK K
 refine wpAnyH_done (by kernel_rfl) ?_ _
 have HF:=zz (g4.conv fun S w h=>grp_join ht HZ.out h)
 clear g3 g4 cl2 fl2 hHeld
 go_wp2_with fail
 go_ret
 exact ⟨rfl,HF.out⟩
end
end
section
open Go.Proofs.Tryz
open Go.RowKit
variable {c:Cf} {g:List Nat} {i no t:Nat} {o:Nat→Opn} {S:Nat→Prop} {q:Sw.Q} {p:Sw.T} {a:TA} {x:Tc} {A:aC} {v:Value} {w w':World}
structure OpIn (c:Cf) (o:Opn):Prop where
 kd:o.kd=1∨o.kd=3∨o.kd=4∨o.kd=7∨o.kd=8∨o.kd=11∨o.kd=12∨o.kd=13
 a:o.a<c.locals
 b:o.b<c.locals
 b1:o.kd=1→o.b=0
 n:o.kd=7∨o.kd=8→o.n<c.globals
 n3:o.kd=3∨o.kd=4→o.n<c.refs.length
structure dB (c:Cf) (q:Sw.Q) (p:Sw.T) (t no:Nat) (o:Nat→Opn):Prop where
 hc:c.ok
 sh:c.shapes[0]? = some (false,c.refs)
 ht:t<c.threads
 fr:c.frags≤62
 hno:no≤1000
 l:LocS c.locals p.l
 hu:∀ i,i<c.frags→(q.t i).hd=true→(q.t i).st=2
 pl:q.pl.length≤c.stack
 ho:∀ i,i<no→OpIn c (o i)
section
variable {A:CA}
theorem bB (h7:¬(p.ph=2∧(p.at_=7∨p.at_=8))) (h1:¬((p.ph=1∨p.ph=3)∧p.pc=1)):ThK c p x=Emp:=by
 unfold ThK
 by_cases h2:p.ph=2
 · rw [if_pos h2,if_neg fun h=>h7 ⟨h2,.inl h⟩,if_neg fun h=>h7 ⟨h2,.inr h⟩]
 · rw [if_neg h2,if_neg h1]
theorem ts_out (P:dB c q p t no o) (h:p.ph=0) (ho:q.own t=-1):bG A c a t no o q p {q with own:=Sw.set q.own t q.st} {p with ph:=1,pc:=0,st:=q.st,sn:=q.sn} Sw.rs0:=
 tr_of fun x ok S w hx=>(act_step_out (x:=x) (by rw [ok.ph,h]) P.ht P.hc ho hx).mono fun e w' ⟨he,hg⟩=>by
  rw [bB (by simp [h]) (by simp [h])] at hg
  refine ⟨0,{x with ph:=1,pc:=0,st:=q.st,sn:=q.sn},Emp,by rw [he];unfold idle rsV Rs.v Sw.rs0 Sw.w0;simp only [fl0];rfl,⟨rfl,rfl,rfl,ok.nx,rfl,?_,?_,?_,?_,?_⟩,bB (by simp) (by simp),hg⟩<;>simp
theorem ts_gone (h:p.ph=4):bG A c a t no o q p q p Sw.rs0:=
 tr_of fun x ok S w hx=>(act_step_gone (A:=A) (O:=Sep (aE A c q) (ThP c a t no o x p.l (ThK c p x))) (fun S w h'=>by rw [th_ph h',ok.ph,h]) hx).mono fun e w' ⟨he,hg⟩=>
  ⟨0,x,_,by rw [he];unfold idle rsV Rs.v Sw.rs0 Sw.w0;simp only [fl0];rfl,ok,rfl,hg⟩
theorem ts_go (h:p.ph=1) (hpc:p.pc=0) (hst:q.st=p.st) (hn:p.nx<no):bG A c a t no o q p q p.fresh Sw.rs0:=
 eI h rfl fun x ok S w hx=>(act_border_go (x:=x) (ov:=a.ov no) rfl (by rw [ok.pc,hpc]) (by rw [ok.st,hst]) (by rw [ok.nx];exact hn) hx).mono fun e w' ⟨he,hg⟩=>by
  rw [bB (by simp [h]) (by simp [hpc])] at hg
  exact ⟨(x.fresh,Emp),⟨he,⟨rfl,ok.st,ok.sn,ok.nx,ok.pc,by simp [Sw.T.fresh],fun _=>rfl,by simp [Sw.T.fresh],by simp [Sw.T.fresh],by simp [Sw.T.fresh]⟩,bB (by simp [Sw.T.fresh]) (by simp [Sw.T.fresh])⟩,hg⟩
theorem ts_quit (h:p.ph=1) (hpc:p.pc=0) (hst:q.st=p.st) (hn:no≤p.nx):bG A c a t no o q p q {p with pc:=3} Sw.rs0:=
 eI h rfl fun x ok S w hx=>(act_border_end (x:=x) (ov:=a.ov no) rfl (by rw [ok.pc,hpc]) (by rw [ok.st,hst]) (by rw [ok.nx];exact hn) hx).mono fun e w' ⟨he,hg⟩=>by
  rw [bB (by simp [h]) (by simp [hpc])] at hg
  exact ⟨({x with pc:=3},Emp),⟨he,⟨ok.ph,ok.st,ok.sn,ok.nx,rfl,by simp,ok.at_,ok.ad,ok.w,ok.old⟩,bB (by simp [h]) (by simp)⟩,hg⟩
theorem ts_drain (P:dB c q p t no o) (h:p.ph=1) (hpc:p.pc=3):bG A c a t no o q p q {p with pc:=4} Sw.rs0:=
 eI h rfl fun x ok S w hx=>(act_border_drain (x:=x) (by rw [ok.pc,hpc]) P.ht hx).mono fun e w' ⟨he,hg⟩=>by
  rw [bB (by simp [h]) (by simp [hpc])] at hg
  exact ⟨({x with pc:=4},Emp),⟨he,⟨ok.ph,ok.st,ok.sn,ok.nx,rfl,by simp,ok.at_,ok.ad,ok.w,ok.old⟩,bB (by simp [h]) (by simp)⟩,hg⟩
theorem ts_leave (P:dB c q p t no o) (h:p.ph=1) (hpc:p.pc=4) (ho:q.own t≠-1):bG A c a t no o q p {q with own:=Sw.set q.own t (-1)} {p with ph:=4,l:=fun _=>⟨false,0,0⟩} Sw.rs0:=
 eI h rfl fun x ok S w hx=>(act_border_leave (by rw [th_pc hx,ok.pc,hpc]) (act_goes (x:=x) P.ht (by have:=P.hc.locals;omega) P.hc ho hx)).mono fun e w' ⟨he,hg⟩=>by
  rw [bB (by simp [h]) (by simp [hpc])] at hg
  exact ⟨({x with ph:=4},Emp),⟨he,⟨rfl,ok.st,ok.sn,ok.nx,ok.pc,by simp,by simp,by simp,by simp,by simp⟩,bB (by simp) (by simp)⟩,hg⟩
def lB (c:Cf) (q:Sw.Q) (p:Sw.T):Sw.T:=
 {p with seen:=q.st,sn:=if q.st=1 then q.sn else p.sn,grey:=if q.st=3 then Sw.greys c.locals p.l else [],pc:=if q.st=3∧Sw.greys c.locals p.l≠[] then 1 else 2}
theorem gry_goes {A:aC} (h:aA (Sep A (cQ 3 1 v g.length (jO g))) S w w'):aA (Sep A (Gry v g)) S w w':=by
 cases g with
 | nil=>exact h.l.conv fun _ _ h=>emp_add h
 | cons i g=>exact h.conv fun S w h=>aB.monoR (fun _ h=>cX h (by simp)) h
theorem looks_all (P:dB c q p t no o) (hph:p.ph=1∨p.ph=3) (hpc:p.pc=0) (hst:q.st≠p.st) (ok:eH p x) (hx:(Sep (aE A c q) (ThP c a t no o x p.l (ThK c p x))).at_ S w):
 Calls prog 145 #[.pointer (some ⟨a.b,0,none⟩),.pointer (some ⟨A.b,0,none⟩)] w fun e w'=>e=.returned (.bool false)∧∃ x',(eH (lB c q p) x'∧x'.ph=x.ph)∧aA (Sep (aE A c q) (ThP c a t no o x' p.l (ThK c (lB c q p) x'))) S w w':=by
 have h2:¬p.ph=2:=by omega
 rw [bB (by simp [h2]) (by simp [hpc])] at hx
 have hst':¬q.st=x.st:=by rw [ok.st];exact hst
 by_cases h3:q.st=3
 · refine (act_looks_trace (x:=x) h3 (by rw [←h3];exact hst') P.l P.hc.locals.2 (fU (th_out hx))).mono ?_
   rintro e w' ⟨v,he,hg⟩
   refine ⟨he,{x with seen:=3,grey:=v,pc:=gpc (Sw.greys c.locals p.l)},⟨⟨ok.ph,ok.st,?_,ok.nx,?_,?_,?_,?_,?_,?_⟩,rfl⟩,?_⟩
   · show x.sn=if q.st=1 then q.sn else p.sn
     rw [if_neg (by omega),ok.sn]
   · show gpc _=if q.st=3∧_ then 1 else 2
     unfold gpc
     by_cases e:Sw.greys c.locals p.l=[]<;>simp [e,h3]
   · intro _ _;exact h3.symm
   · intro h;exact absurd h h2
   · intro h;exact absurd h h2
   · intro h;exact absurd h h2
   · intro h;exact absurd h h2
   · have e:ThK c (lB c q p) {x with seen:=3,grey:=v,pc:=gpc (Sw.greys c.locals p.l)}=Gry v (Sw.greys c.locals p.l):=by
      unfold ThK lB
      rw [if_neg h2]
      by_cases e:Sw.greys c.locals p.l=[]
      · rw [if_neg (by simp [h3,e]),e];rfl
      · rw [if_pos ⟨hph,by simp [h3,e]⟩];simp [h3]
     rw [e]
     exact (gry_goes hg).conv fun S w h=>th_in h
 · refine (act_looks_no (x:=x) rfl hst' h3 hx).mono ?_
   rintro e w' ⟨he,hg⟩
   refine ⟨he,{x with seen:=q.st,grey:=.slice none 0 0,pc:=2,sn:=if q.st=1 then q.sn else x.sn},⟨⟨ok.ph,ok.st,?_,ok.nx,?_,?_,?_,?_,?_,?_⟩,rfl⟩,?_⟩
   rotate_right
   · rw [bB (by simp [lB,h2]) (by simp [lB,h3])];exact hg
   · show (if q.st=1 then q.sn else x.sn)=if q.st=1 then q.sn else p.sn
     rw [ok.sn]
   · simp [lB,h3]
   · intro _ _;rfl
   · intro h;exact absurd h h2
   · intro h;exact absurd h h2
   · intro h;exact absurd h h2
   · intro h;exact absurd h h2
theorem ts_look1 (P:dB c q p t no o) (h:p.ph=1) (hpc:p.pc=0) (hst:q.st≠p.st):bG A c a t no o q p q (lB c q p) Sw.rs0:=
 eI h rfl fun x ok S w hx=>(act_border_no (by rw [th_pc hx,ok.pc,hpc]) (looks_all P (.inl h) hpc hst ok hx)).mono fun e w' ⟨he,x',ok',hg⟩=>⟨(x',_),⟨he,ok'.1,rfl⟩,hg⟩
def greyP (p:Sw.T) (g:List Nat):Sw.T:={p with grey:=g,pc:=if g=[] then 2 else 1}
theorem lL (P:dB c q p t no o) (hph:p.ph=1∨p.ph=3) (hpc:p.pc=1) (hgr:p.grey=i::g) (hi:i<c.frags) (ok:eH p x) (hx:(Sep (aE A c q) (ThP c a t no o x p.l (ThK c p x))).at_ S w):
 Calls prog 146 #[.pointer (some ⟨a.b,0,none⟩),.pointer (some ⟨A.b,0,none⟩)] w fun e w'=>e=.returned (.bool false)∧∃ x',(eH (greyP p g) x'∧x'.ph=x.ph)∧aA (Sep (aE A c (q.grey c i p.sn)) (ThP c a t no o x' p.l (ThK c (greyP p g) x'))) S w w':=by
 have h2:¬p.ph=2:=by omega
 have e:ThK c p x=Gry x.grey (i::g):=by unfold ThK;rw [if_neg h2,if_pos ⟨hph,hpc⟩,hgr]
 rw [e] at hx
 refine (act_answers_grey (x:=x) P.hc hi (P.hu i hi) P.pl (by rw [ok.pc,hpc]) rfl (th_out hx)).mono ?_
 rintro e w' ⟨v,he,hg⟩
 rw [show q.grey c i x.sn=q.grey c i p.sn by rw [ok.sn]] at hg
 refine ⟨he,{x with grey:=v,pc:=gpc g},⟨⟨ok.ph,ok.st,ok.sn,ok.nx,?_,?_,?_,?_,?_,?_⟩,rfl⟩,?_⟩
 · rfl
 · intro h1 _;exact ok.seen hph (.inl hpc)
 · intro h;exact absurd h h2
 · intro h;exact absurd h h2
 · intro h;exact absurd h h2
 · intro h;exact absurd h h2
 · have e:ThK c (greyP p g) {x with grey:=v,pc:=gpc g}=Gry v g:=by
    unfold ThK greyP
    rw [if_neg h2]
    by_cases e:g=[]
    · rw [if_neg (by simp [e]),e];rfl
    · rw [if_pos ⟨hph,by simp [e]⟩]
   rw [e]
   exact hg.conv fun S w h=>th_in h
theorem ts_grey1 (P:dB c q p t no o) (h:p.ph=1) (hpc:p.pc=1) (hgr:p.grey=i::g) (hi:i<c.frags):bG A c a t no o q p (q.grey c i p.sn) (greyP p g) Sw.rs0:=
 eI h rfl fun x ok S w hx=>(act_border_grey (by rw [th_pc hx,ok.pc,hpc]) (lL P (.inl h) hpc hgr hi ok hx)).mono fun e w' ⟨he,x',ok',hg⟩=>⟨(x',_),⟨he,ok'.1,rfl⟩,hg⟩
theorem ts_answer1 (P:dB c q p t no o) (h:p.ph=1) (hpc:p.pc=2) (ho:q.own t≠-1) (hs0:0≤p.seen) (hs4:p.seen≤4):bG A c a t no o q p {q with own:=Sw.set q.own t p.seen} {p with st:=p.seen,pc:=0} Sw.rs0:=
 eI h rfl fun x ok S w hx=>by
  have e:=ok.seen (.inl h) (.inr hpc)
  rw [←e] at hs0 hs4
  refine (act_border_give (x:=x) (by rw [ok.pc,hpc]) P.ht P.hc ho hs0 hs4 hx).mono fun e' w' ⟨he,hg⟩=>?_
  rw [bB (by simp [h]) (by simp [hpc]),show ({q with own:=Sw.set q.own t x.seen}:Sw.Q)={q with own:=Sw.set q.own t p.seen} by rw [e]] at hg
  exact ⟨({x with st:=x.seen,pc:=0},Emp),⟨he,⟨ok.ph,e,ok.sn,ok.nx,rfl,by simp,ok.at_,ok.ad,ok.w,ok.old⟩,bB (by simp [h]) (by simp)⟩,hg⟩
end
end
end Go.Proofs.YtgcmiahhkalfmaaGreat
