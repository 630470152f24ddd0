import Derived.Test.YtgcmiahhkalfmaaGreatM39
import Derived.Test.YtgcmiahhkalfmaaGreatM40
set_option maxRecDepth 100000
set_option maxHeartbeats 8000000
set_option linter.unusedVariables false
set_option linter.unusedSimpArgs false
namespace Go.Proofs.YtgcmiahhkalfmaaGreat
attribute [local go_sem] aF aI aO aV
open Go.Proofs.Tryz
open Go.RowKit
variable {args:Array Value} {fu:Bool} {c:Cf} {f:FuncId} {x:GrX} {er:Int} {v:Lc} {l:List Value} {b cap cg d e k n t:Nat} {S:Nat→Prop} {m:Nat→Value} {o:Opn} {g g' g1:Sw.Gr} {A B:aC} {gv:Value} {w w':World}
section
def GLc (g:Sw.Gr) (v:Lc):Prop:=(v.ref=true→v.w=Sw.wN∨∃ d,v.w=Sw.wR d∧d<g.len)∧(v.ref=false→Sw.NumW v.w)
theorem GLc.bd (h:GLc g v) (hl:g.len≤60):v.k≤63∧v.i≤63:=by
 obtain ⟨r,k,i⟩:=v
 cases r
 · rcases h.2 rfl with e|⟨e1,e2⟩
   · simp [Lc.w,Sw.w0] at e;show k≤63∧i≤63;omega
   · simp [Lc.w] at e1 e2;show k≤63∧i≤63;omega
 · rcases h.1 rfl with e|⟨d,e,hd⟩
   · simp [Lc.w,Sw.wN] at e;show k≤63∧i≤63;omega
   · simp [Lc.w,Sw.wR] at e;show k≤63∧i≤63;omega
theorem wN_iff (v:Lc):v.w=Sw.wN↔v.k=0∧v.i=1:=by
 obtain ⟨r,k,i⟩:=v
 simp [Lc.w,Sw.wN]
theorem jI (v:Lc) (hk:k≠8):eZ k v=if v.ref=false then 4 else if True∧v.w=Sw.wN then 3 else 0:=by
 unfold eZ
 simp only [wN_iff,hk,ne_eq,not_false_eq_true]
theorem erOf_8 (v:Lc):eZ 8 v=if v.ref=false then 4 else 0:=by
 unfold eZ
 simp
theorem eU {v:Value} (h:aJ prog f args w (GrB b c x g) v (GrB b c x g')):aN prog f args w (GrB b c x g) (fun (x':GrX) e=>e=.returned v∧x'.xb=x.xb) (fun x'=>GrB b c x' g'):=fun S hs=>(h S hs).mono fun e w' ⟨h1,h2⟩=>⟨x,⟨h1,rfl⟩,h2⟩
theorem GLc.at_ (h:GLc g v) (hr:¬v.ref=false) (hn:¬v.w=Sw.wN):∃ d,v=⟨true,d+1,1⟩∧d<g.len:=by
 obtain ⟨r,k,i⟩:=v
 cases r
 · exact absurd rfl hr
 · rcases h.1 rfl with e|⟨d,e,hd⟩
   · exact absurd e hn
   · simp [Lc.w,Sw.wR] at e
     exact ⟨d,by rw [e.1,e.2],hd⟩
theorem gr_does (hc:Sw.cS.ok) (ok:Sw.OpOk o) (ht:t<2) (hth:g.th t=true) (hlen:g.len≤60) (hl:∀ j,j<4→GLc g (g.l t j)) (hd:g.does t o fu=(g1,er,v)) (w:World):
 aJ prog 15 #[.pointer (some ⟨b,0,none⟩),.int .i64 (t:Int),opR o.r,.bool fu] w (GrO b Sw.cS g) (doR v.ref (fl v.k) (fl v.i) er) (GrO b Sw.cS g1):=by
 rintro S ⟨x,h⟩
 have hs:Sw.cS.shapes[0]? = some (false,[true,true,false]):=rfl
 have hck:∀ w,aJ prog 39 #[cfV Sw.cS x.g x.cap,opR o.r] w (aZ Sw.cS x.g x.cap) (.int .i64 0) (aZ Sw.cS x.g x.cap):=fun w=>by
  obtain ⟨kd,oa,ob,oc,on,zk,zi⟩:=o
  have hk:=ok.kd
  have ha:oa<4:=ok.a
  have hb:ob<4:=ok.b
  simp only at hk
  rcases hk with rfl|hk
  · obtain rfl:ob=0:=ok.b1 rfl
    exact fun S h=>sg_check1 hc ha hs h
  · refine aJ.see fun S h=>?_
    refine sg_check (K:=(kd:Int)) (by omega) hc ha hb (fun hh=>ok.n7 ?_) h
    show kd=7∨kd=8
    omega
 have h0:∀ {k},o.kd=k→(k=1∨k=7∨k=12∨k=13)→∀ w,aJ prog 40 #[opR o.r,.slice (some ⟨x.xb t,0,none⟩) Sw.cS.locals Sw.cS.locals] w (LsT Sw.cS x g t) (.int .i64 0) (LsT Sw.cS x g t):=fun {k} e hk w=>aJ.see fun S h=>sg_opds0 (o:=o.r) (by show o.kd=1∨o.kd=7∨o.kd=12∨o.kd=13∨o.kd=18;omega) _ w
 have h1:∀ {j},(o.kd=3∧j=o.b)∨(o.kd=4∧j=o.a)∨(o.kd=8∧j=o.b)→j<4→∀ w,aJ prog 40 #[opR o.r,.slice (some ⟨x.xb t,0,none⟩) Sw.cS.locals Sw.cS.locals] w (LsT Sw.cS x g t) (.int .i64 (eZ o.kd (g.l t j))) (LsT Sw.cS x g t):=fun {j} hj hj4 w=>by
  unfold LsT
  rw [hth]
  exact fun S h=>sg_opds (o:=o.r) hj hj4 (by decide) ((hl j hj4).bd hlen) h
 have fl00:fl 0=0:=fl0
 unfold Sw.Gr.does at hd
 rcases ok.kd with hk|hk|hk|hk|hk|hk|hk
 · have e0:Sw.opEr o (g.l t)=0:=by unfold Sw.opEr Sw.must;simp [hk]
   rw [if_neg (by rw [e0];simp),if_pos hk] at hd
   cases fu
   · obtain ⟨rfl,rfl,rfl⟩:({g with len:=g.len+1,f:=Sw.set g.f g.len nwM,l:=Sw.set g.l t (Sw.set (g.l t) o.a ⟨true,g.len+1,1⟩)}:Sw.Gr)=g1∧(0:Int)=er∧(⟨true,g.len+1,1⟩:Lc)=v:=by
      simp only [Bool.false_eq_true,if_false] at hd
      unfold Sw.Gr.lay at hd
      simp only [Prod.mk.injEq] at hd
      exact hd
     exact gJ (er1:=0) (er2:=0) (rv:=true) (vk:=g.len+1) (vi:=1) (g':=Gr1 g) ht hth hck (h0 hk (.inl rfl)) (fun _ w=>gd_1 hc hs hk (ok.b1 hk) hlen w) (.inr (.inr (.inr ⟨rfl,rfl,.inl hk,rfl,hth,ok.a,rfl⟩))) w S h
   · obtain ⟨rfl,rfl,rfl⟩:g=g1∧6=er∧Sw.lc0=v:=by simpa using hd
     exact gJ (er1:=0) (er2:=6) (rv:=false) (vk:=0) (vi:=0) (g':=g) ht hth hck (h0 hk (.inl rfl)) (fun _ w=>eU (gd_1f hk w)) (.inr (.inl ⟨rfl,by decide,by show _=doR false 0 0 6;rw [←fl00];rfl,rfl⟩)) w S h
 · have e1:Sw.opEr o (g.l t)=eZ o.kd (g.l t o.b):=by
    rw [jI _ (by omega)]
    unfold Sw.opEr Sw.must
    simp [hk]
   rw [e1] at hd
   by_cases he:eZ o.kd (g.l t o.b)=0
   · rw [if_neg (by simpa using he),if_neg (by omega),if_pos hk] at hd
     obtain ⟨rfl,rfl,rfl⟩:({g with l:=Sw.set g.l t (Sw.set (g.l t) o.a (Sw.lcOf (decide (o.n<2)) (g.f ((g.l t o.b).k-1) o.n)))}:Sw.Gr)=g1∧(0:Int)=er∧Sw.lcOf (decide (o.n<2)) (g.f ((g.l t o.b).k-1) o.n)=v:=by
      unfold Sw.Gr.lay at hd
      simp only [Prod.mk.injEq] at hd
      exact hd
     rw [jI _ (by omega)] at he
     obtain ⟨dd,ed,hdd⟩:=(hl o.b ok.b).at_ (by intro e;rw [if_pos e] at he;simp at he) (by intro e;split at he;simp at he;rw [if_pos ⟨trivial,e⟩] at he;simp at he)
     have ek:(g.l t o.b).k-1=dd:=by rw [ed];rfl
     rw [ek]
     exact gJ (er1:=eZ o.kd (g.l t o.b)) (er2:=0) (rv:=decide (o.n<2)) (vk:=(g.f dd o.n).k) (vi:=(g.f dd o.n).i) (g':=g) ht hth hck (h1 (.inl ⟨hk,rfl⟩) ok.b) (fun _ w=>eU (gd_3 (r:=true) hc hs hk (show o.n<3 by have:=ok.n3 hk;omega) ht hth ok.b ed hdd hlen w)) (.inr (.inr (.inr ⟨by rw [jI _ (by omega)];exact he,rfl,.inr (.inl hk),rfl,hth,ok.a,rfl⟩))) w S h
   · rw [if_pos he] at hd
     obtain ⟨rfl,rfl,rfl⟩:g=g1∧eZ o.kd (g.l t o.b)=er∧Sw.lc0=v:=by simpa using hd
     exact gJ (er1:=eZ o.kd (g.l t o.b)) (er2:=0) (rv:=false) (vk:=0) (vi:=0) (g':=g) ht hth hck (h1 (.inl ⟨hk,rfl⟩) ok.b) (fun h=>absurd h he) (.inl ⟨he,by show _=doR false 0 0 _;rw [←fl00];rfl,rfl⟩) w S h
 · have e1:Sw.opEr o (g.l t)=eZ o.kd (g.l t o.a):=by
    rw [jI _ (by omega)]
    unfold Sw.opEr Sw.must
    simp [hk]
   rw [e1] at hd
   by_cases he:eZ o.kd (g.l t o.a)=0
   · rw [if_neg (by simpa using he),if_neg (by omega),if_neg (by omega),if_pos hk] at hd
     rw [jI _ (by omega)] at he
     obtain ⟨dd,ed,hdd⟩:=(hl o.a ok.a).at_ (by intro e;rw [if_pos e] at he;simp at he) (by intro e;split at he;simp at he;rw [if_pos ⟨trivial,e⟩] at he;simp at he)
     have ek:(g.l t o.a).k-1=dd:=by rw [ed];rfl
     rw [ek] at hd
     have he':eZ o.kd (g.l t o.a)=0:=by rw [jI _ (by omega)];exact he
     have hds:∀ w,aN prog 41 #[.pointer (some ⟨b,0,none⟩),.int .i64 (t:Int),opR o.r,.slice (some ⟨x.xb t,0,none⟩) Sw.cS.locals Sw.cS.locals,.bool fu] w (GrB b Sw.cS x g) _ _:=fun w=>eU (gd_4 (r:=true) (r2:=(g.l t o.b).ref) (bk:=(g.l t o.b).k) (bi:=(g.l t o.b).i) hc hs hk (ok.n4 hk) ht hth ok.a ok.b ed rfl hdd hlen w)
     by_cases hr:(g.l t o.b).ref=decide (o.n<2)
     · rw [if_neg (by simp [hr])] at hd
       obtain ⟨rfl,rfl,rfl⟩:({g with f:=Sw.set g.f dd (Sw.set (g.f dd) o.n (g.l t o.b).w)}:Sw.Gr)=g1∧(0:Int)=er∧Sw.lc0=v:=by simpa using hd
       have hr2:(g.l t o.b).ref=decide (o.r.n<2):=hr
       rw [if_pos hr2,if_pos hr2] at hds
       exact gJ (er1:=eZ o.kd (g.l t o.a)) (er2:=0) (rv:=false) (vk:=0) (vi:=0) ht hth hck (h1 (.inr (.inl ⟨hk,rfl⟩)) ok.a) (fun _ w=>hds w) (.inr (.inr (.inl ⟨he',rfl,.inl hk,by show _=doR false 0 0 _;rw [←fl00];rfl,rfl⟩))) w S h
     · rw [if_pos hr] at hd
       obtain ⟨rfl,rfl,rfl⟩:g=g1∧(4:Int)=er∧Sw.lc0=v:=by simpa using hd
       have hr2:¬(g.l t o.b).ref=decide (o.r.n<2):=hr
       rw [if_neg hr2,if_neg hr2] at hds
       exact gJ (er1:=eZ o.kd (g.l t o.a)) (er2:=4) (rv:=false) (vk:=0) (vi:=0) ht hth hck (h1 (.inr (.inl ⟨hk,rfl⟩)) ok.a) (fun _ w=>hds w) (.inr (.inl ⟨he',by decide,by show _=doR false 0 0 _;rw [←fl00];rfl,rfl⟩)) w S h
   · rw [if_pos he] at hd
     obtain ⟨rfl,rfl,rfl⟩:g=g1∧eZ o.kd (g.l t o.a)=er∧Sw.lc0=v:=by simpa using hd
     exact gJ (er1:=eZ o.kd (g.l t o.a)) (er2:=0) (rv:=false) (vk:=0) (vi:=0) (g':=g) ht hth hck (h1 (.inr (.inl ⟨hk,rfl⟩)) ok.a) (fun h=>absurd h he) (.inl ⟨he,by show _=doR false 0 0 _;rw [←fl00];rfl,rfl⟩) w S h
 · have e0:Sw.opEr o (g.l t)=0:=by unfold Sw.opEr Sw.must;simp [hk]
   rw [if_neg (by rw [e0];simp),if_neg (by omega),if_neg (by omega),if_neg (by omega),if_pos hk] at hd
   obtain ⟨rfl,rfl,rfl⟩:({g with l:=Sw.set g.l t (Sw.set (g.l t) o.a (Sw.lcOf true (g.g o.n)))}:Sw.Gr)=g1∧(0:Int)=er∧Sw.lcOf true (g.g o.n)=v:=by
    unfold Sw.Gr.lay at hd
    simp only [Prod.mk.injEq] at hd
    exact hd
   exact gJ (er1:=0) (er2:=0) (rv:=true) (vk:=(g.g o.n).k) (vi:=(g.g o.n).i) (g':=g) ht hth hck (h0 hk (.inr (.inl rfl))) (fun _ w=>eU (gd_7 hk (ok.n7 (.inl hk)) w)) (.inr (.inr (.inr ⟨rfl,rfl,.inr (.inr (.inl hk)),rfl,hth,ok.a,rfl⟩))) w S h
 · have e1:Sw.opEr o (g.l t)=eZ o.kd (g.l t o.b):=by
    rw [hk,erOf_8]
    unfold Sw.opEr Sw.must
    simp [hk]
   rw [e1] at hd
   by_cases he:eZ o.kd (g.l t o.b)=0
   · rw [if_neg (by simpa using he),if_neg (by omega),if_neg (by omega),if_neg (by omega),if_neg (by omega),if_pos hk] at hd
     obtain ⟨rfl,rfl,rfl⟩:({g with g:=Sw.set g.g o.n (g.l t o.b).w}:Sw.Gr)=g1∧(0:Int)=er∧Sw.lc0=v:=by simpa using hd
     exact gJ (er1:=eZ o.kd (g.l t o.b)) (er2:=0) (rv:=false) (vk:=0) (vi:=0) ht hth hck (h1 (.inr (.inr ⟨hk,rfl⟩)) ok.b) (fun _ w=>eU (gd_8 hk (ok.n7 (.inr hk)) ht hth ok.b w)) (.inr (.inr (.inl ⟨he,rfl,.inr (.inl hk),by show _=doR false 0 0 _;rw [←fl00];rfl,rfl⟩))) w S h
   · rw [if_pos he] at hd
     obtain ⟨rfl,rfl,rfl⟩:g=g1∧eZ o.kd (g.l t o.b)=er∧Sw.lc0=v:=by simpa using hd
     exact gJ (er1:=eZ o.kd (g.l t o.b)) (er2:=0) (rv:=false) (vk:=0) (vi:=0) (g':=g) ht hth hck (h1 (.inr (.inr ⟨hk,rfl⟩)) ok.b) (fun h=>absurd h he) (.inl ⟨he,by show _=doR false 0 0 _;rw [←fl00];rfl,rfl⟩) w S h
 · have e0:Sw.opEr o (g.l t)=0:=by unfold Sw.opEr Sw.must;simp [hk]
   rw [if_neg (by rw [e0];simp),if_neg (by omega),if_neg (by omega),if_neg (by omega),if_neg (by omega),if_neg (by omega),if_pos hk] at hd
   obtain ⟨rfl,rfl,rfl⟩:({g with l:=Sw.set g.l t (Sw.set (g.l t) o.a ⟨false,o.zk,o.zi⟩)}:Sw.Gr)=g1∧(0:Int)=er∧(⟨false,o.zk,o.zi⟩:Lc)=v:=by
    unfold Sw.Gr.lay at hd
    simp only [Prod.mk.injEq] at hd
    exact hd
   exact gJ (er1:=0) (er2:=0) (rv:=false) (vk:=o.zk) (vi:=o.zi) (g':=g) ht hth hck (h0 hk (.inr (.inr (.inl rfl)))) (fun _ w=>eU (gd_pl (.inl ⟨hk,rfl,rfl,rfl⟩) w)) (.inr (.inr (.inr ⟨rfl,rfl,.inr (.inr (.inr (.inl hk))),rfl,hth,ok.a,rfl⟩))) w S h
 · have e0:Sw.opEr o (g.l t)=0:=by unfold Sw.opEr Sw.must;simp [hk]
   rw [if_neg (by rw [e0];simp),if_neg (by omega),if_neg (by omega),if_neg (by omega),if_neg (by omega),if_neg (by omega),if_neg (by omega)] at hd
   obtain ⟨rfl,rfl,rfl⟩:({g with l:=Sw.set g.l t (Sw.set (g.l t) o.a ⟨true,0,1⟩)}:Sw.Gr)=g1∧(0:Int)=er∧(⟨true,0,1⟩:Lc)=v:=by
    unfold Sw.Gr.lay at hd
    simp only [Prod.mk.injEq] at hd
    exact hd
   exact gJ (er1:=0) (er2:=0) (rv:=true) (vk:=0) (vi:=1) (g':=g) ht hth hck (h0 hk (.inr (.inr (.inr rfl)))) (fun _ w=>eU (gd_pl (.inr ⟨hk,rfl,rfl⟩) w)) (.inr (.inr (.inr ⟨rfl,rfl,.inr (.inr (.inr (.inr hk))),rfl,hth,ok.a,rfl⟩))) w S h
end
theorem Tryz.info59:(prog.info? 59).map (fun i=>(i.zero,i.size,i.bytes))=some (some (.slice none 0 0),1,24):=by kernel_rfl
theorem make_rows (n:Nat) (hn:n≤100) (w:World):(Instr.makeSlice 70 (.int .i64 n) (.int .i64 n)).run prog w=.ok (.slice (some ⟨w.heap.size,0,none⟩) n n) (w.alloc (.cells (madeCells #[.slice none 0 0] n) 59)):=by
 obtain ⟨i0,hi,hz0,hz1,hz2⟩:=info_parts Tryz.info59
 have:=run_make (P:=prog) w 70 59 i0 _ underlying70 hi hz0 .i64 .i64 n n (by omega) (by omega) (by rw [hz2];omega) (by omega)
 rw [this,hz1];simp [Value.cells]
theorem St.rep (w:World) (n:Nat) (t:TypeId) (v:Value):St w (bV w.heap.size n t fun _=>v) (w.alloc (.cells (madeCells #[v] n) t)):=
 ⟨⟨fun k=>k=w.heap.size,⟨_,Blk.new w _ _,by simp [madeCells],fun j hj=>by simp [madeCells,hj,Nat.mod_one],rfl,fun _ h=>h⟩,fun k hk=>by omega⟩,(Below.refl _ _).alloc (Nat.le_refl _) _⟩
section
theorem gr_leave (hc:c.ok) (hl:1≤c.locals) (ht:t<2) (hth:g.th t=true) (w:World):
 aJ prog 15 #[.pointer (some ⟨b,0,none⟩),.int .i64 (t:Int),opR ⟨18,0,0,0,0,0,0⟩,.bool false] w (GrO b c g) (doR false 0 0 0) (GrO b c (g.quit t)):=by
 rintro S ⟨x,h⟩
 have fl00:fl 0=0:=fl0
 obtain ⟨o,ho⟩:∃ o:OpR,o=⟨18,0,0,0,0,0,0⟩:=⟨_,rfl⟩
 have hk:o.kd=18:=by rw [ho]
 have h1:∀ w,aJ prog 39 #[cfV c x.g x.cap,opR o] w (aZ c x.g x.cap) (.int .i64 0) (aZ c x.g x.cap):=fun w=>aJ.see fun S h=>by
  obtain ⟨kd,oa,ob,oc,on,z1,z2⟩:=o
  obtain rfl:kd=18:=hk
  cases ho
  exact sg_check (K:=((18:Nat):Int)) (by simp) hc hl hl (fun h=>absurd h (by simp)) h
 have h2:∀ w,aJ prog 40 #[opR o,.slice (some ⟨x.xb t,0,none⟩) c.locals c.locals] w (LsT c x g t) (.int .i64 0) (LsT c x g t):=fun w=>aJ.see fun S h=>sg_opds0 (o:=o) (by omega) _ w
 have h3:∀ w,aJ prog 41 #[.pointer (some ⟨b,0,none⟩),.int .i64 (t:Int),opR o,.slice (some ⟨x.xb t,0,none⟩) c.locals c.locals,.bool false] w (GrB b c x g) (doR false (fl 0) (fl 0) 0) (GrB b c x (g.quit t)):=fun w=>by
  have:=gd_18 (b:=b) (c:=c) (x:=x) (g:=g) (lv:=.slice (some ⟨x.xb t,0,none⟩) c.locals c.locals) (fu:=false) hk ht w
  exact this
 rw [←ho]
 exact gJ (er1:=0) (er2:=0) (rv:=false) (vk:=0) (vi:=0) (g':=g.quit t) ht hth h1 h2 (fun _ w=>eU (h3 w)) (.inr (.inr (.inl ⟨rfl,rfl,.inr (.inr hk),rfl,rfl⟩))) w S h
def gr0:Sw.Gr:=⟨0,fun _ _=>Sw.w0,fun _=>Sw.wN,fun _ _=>Sw.lc0,fun _=>false⟩
def nwC (c:Cf) (cg cap:Nat) (tb lb:Nat) (gv:Value):Array Value:=#[.int .i64 c.frags,.int .i64 c.spine,.int .i64 c.globals,.int .i64 c.threads,.int .i64 c.locals,.int .i64 0,.int .i64 c.stack,.int .i64 c.low,.slice (some ⟨cg,0,none⟩) c.shapes.length cap,
 .slice none 0 0,.slice (some ⟨tb,0,none⟩) c.threads c.threads,.slice (some ⟨lb,0,none⟩) c.threads c.threads,gv]
theorem kX {v:Value} (hn:n≠0) (hl:∀ j,j<n→l[j]? = some (m j)) (h:(cQ e 1 v n l).at_ S w):∃ wb wc,v=.slice (some ⟨wb,0,none⟩) n wc∧(Vgs wb n e m).at_ S w:=by
 obtain ⟨⟨_,h2⟩,h3⟩:=h
 rcases h2 with ⟨_,e⟩|⟨q,cap,cur,rfl,_,e2,e3,e4,e5,e6⟩
 · exact absurd e hn
 · have hc:∀ j,j<n→cur[j]? = some (m j):=fun j hj=>by
    have h1:(cur.toList.take (n*1))[j]? = some (m j):=by rw [e6];exact hl j hj
    rw [List.getElem?_take_of_lt (by omega)] at h1
    simpa using h1
   refine ⟨q,cap,rfl,cur,e2,?_,hc,(h3 q).2 rfl,fun k hk=>?_⟩
   · rcases Nat.lt_or_ge cur.size n with h|h
     · have:=hc (n-1) (by omega)
       rw [Array.getElem?_eq_none (by omega)] at this
       simp at this
     · exact h
   · have:=(h3 k).1 hk
     simp [Value.ownBlock] at this;exact this.symm
theorem kW (hb:B.at_ (fun _=>False) w) (h:A.at_ S w):(Sep A B).at_ S w:=⟨S,fun _=>False,h,hb,fun _ _ h=>h,fun _ h=>h,fun _ h=>h.elim,fun _ h=>.inl h⟩
def NwT (c:Cf) (cg cap cb tb lb b:Nat) (gv:Value) (j:Nat):aC:=
 Sep (Sep (Sep (Sep (Sep (aZ c cg cap) (Var cb (aD c (.slice (some ⟨cg,0,none⟩) c.shapes.length cap)) 34)) (bV tb c.threads 4 fun _=>.bool false)) (bV lb c.threads 59 fun _=>.slice none 0 0)) (Var b (nwC c cg cap tb lb gv) 73)) (cQ 25 1 gv j (List.replicate j cJ))
theorem nw_done {cb tb lb:Nat} (h2:c.threads=2) (h:aA (NwT c cg cap cb tb lb b gv 2) S w w'):aA (GrO b c gr0) S w w':=by
 refine (h.drop (aU.both (aU.both (aU.both (aU.both (aU.left _ _) (aU.refl _)) (aU.refl _)) (aU.refl _)) (aU.refl _))).conv fun S w h=>?_
 obtain ⟨S1,hr,_⟩:=aB.r h
 obtain ⟨gb,gc,rfl,_⟩:=kX (m:=jM fun _=>Sw.wN) (by decide) (fun j hj=>by
  have:j=0∨j=1:=by omega
  rcases this with rfl|rfl
  · show some cJ=some (cx 0 1);rw [cx01]
  · show some cJ=some (cx 0 1);rw [cx01]) hr
 refine ⟨⟨cg,cap,.slice none 0 0,fun _=>0,fun _=>0,tb,lb,gb,gc,fun _=>0⟩,?_⟩
 have a1:=aB.monoR (fun _ h=>aB.assoc (aB.assoc h)) (aB.swap (aB.rot h))
 have e1:nwC c cg cap tb lb (.slice (some ⟨gb,0,none⟩) 2 gc)=grC c ⟨cg,cap,.slice none 0 0,fun _=>0,fun _=>0,tb,lb,gb,gc,fun _=>0⟩:=by unfold nwC grC;rw [h2]
 rw [e1,h2] at a1
 refine aB.monoR (fun _ h=>aB.monoR (fun _ h=>?_) h) a1
 have a2:=aB.assoc' h
 have a3:=aB.monoR (fun S h=>by
  obtain ⟨gb',gc',e,h'⟩:=kX (m:=jM fun _=>Sw.wN) (by decide) (fun j hj=>by
   have:j=0∨j=1:=by omega
   rcases this with rfl|rfl
   · show some cJ=some (cx 0 1);rw [cx01]
   · show some cJ=some (cx 0 1);rw [cx01]) h
  cases e
  exact kW (B:=All 2 (LsT c ⟨cg,cap,.slice none 0 0,fun _=>0,fun _=>0,tb,lb,gb,gc,fun _=>0⟩ gr0)) (all2' (kW (fun _ h=>h) (fun _ h=>h))) h') a2
 exact aB.swap (kW (kW (fun _ h=>h) (eW _ _ _)) a3)
theorem gr_new (hc:c.ok) (h2:c.threads=2) (hgl:c.globals=2) (w:World):aN prog 13 #[cfV c cg cap] w (aZ c cg cap) (fun (b:Nat) e=>e=.returned (.tuple #[.pointer (some ⟨b,0,none⟩),.int .i64 0])) (fun b=>GrO b c gr0):=by
 intro S h
 obtain ⟨i0,hi,hz0,hz1,hz2⟩:=info_parts Tryz.info25
 have g0:=(aA.begin h).moreSt (St.fresh (aD c (.slice (some ⟨cg,0,none⟩) c.shapes.length cap)) 34)
 obtain ⟨cb,hcb⟩:∃ k,w.heap.size=k:=⟨_,rfl⟩
 rw [hcb] at g0
 have C9:=zz fun w1 (gg:aA (Sep (aZ c cg cap) (Var cb (aD c (.slice (some ⟨cg,0,none⟩) c.shapes.length cap)) 34)) S w w1)=>(⟨gg.r.vc 0 rfl,gg.r.vc 1 rfl,gg.r.vc 2 rfl,gg.r.vc 3 rfl,gg.r.vc 4 rfl,gg.r.vc 5 rfl,gg.r.vc 6 rfl,gg.r.vc 7 rfl,gg.r.vc 8 rfl⟩:w1.cell? ⟨cb,0,none⟩=some (.int .i64 c.frags)∧w1.cell? ⟨cb,1,none⟩=some (.int .i64 c.spine)∧w1.cell? ⟨cb,2,none⟩=some (.int .i64 c.globals)∧w1.cell? ⟨cb,3,none⟩=some (.int .i64 c.threads)∧
  w1.cell? ⟨cb,4,none⟩=some (.int .i64 c.locals)∧w1.cell? ⟨cb,5,none⟩=some (.int .i64 0)∧w1.cell? ⟨cb,6,none⟩=some (.int .i64 c.stack)∧w1.cell? ⟨cb,7,none⟩=some (.int .i64 c.low)∧w1.cell? ⟨cb,8,none⟩=some (.slice (some ⟨cg,0,none⟩) c.shapes.length cap))
 have HCK:=zz fun w1 (gg:aA (Sep (aZ c cg cap) (Var cb (aD c (.slice (some ⟨cg,0,none⟩) c.shapes.length cap)) 34)) S w w1)=>gg.plain (sr_check hc gg.l.is)
 have hmb:=fun w=>kB c.threads (by omega) w
 have hmr:=fun w=>make_rows c.threads (by omega) w
 have H2:=zz h2
 have HGL:=zz hgl
 unfold cfV at*
 simp only [aD] at*
 clear h hc h2 hgl
 go_enter func13,ntmps13
 go_upto_region 1 with fail
 generalize w.alloc _=w1 at*
 obtain ⟨c0,c1,c2,c3,c4,c5,c6,c7,c8⟩:=C9.out _ g0
 go_wp2_with fail
 refine qz (HCK.out _ g0) fun w2 hg=>?_
 clear HCK c0 c1 c2 c3 c4 c5 c6 c7 c8 g0
 go_upto_region 4 with fail
 have g1:=hg.drew_
 refine wp_region_held_drew (S:=fun w'=>aA (Sep (aZ c cg cap) (Var cb #[.int .i64 c.frags,.int .i64 c.spine,.int .i64 c.globals,.int .i64 c.threads,.int .i64 c.locals,.int .i64 0,.int .i64 c.stack,.int .i64 c.low,.slice (some ⟨cg,0,none⟩) c.shapes.length cap] 34)) S w w') (by kernel_rfl) g1 (fun hHeld=>?_)
 generalize w2.drew=w3 at*
 refine tkh 0 C9.out ?_
 refine tkh 1 C9.out ?_
 refine tkh 2 C9.out ?_
 refine tkh 4 C9.out ?_
 refine tkh 5 C9.out ?_
 refine wpAnyH_ready (rs:=[3,6]) (by kernel_rfl) (by simp) ?_
 refine AllReadyH.cons (o:=_) rfl ?cA (AllReadyH.cons (o:=_) rfl ?cB AllReadyH.nil)
 case' cA=>
  intro K hK
  go_simp
  have g2:=g1.moreSt (St.rep w3 c.threads 4 (.bool false))
  go_wp2_with fail
  refine hon hK g2.l fun hHeld=>?_
  clear hK K
  refine rdy 6 fun K hK=>?_
  go_simp
  have g3:=g2.moreSt (St.rep _ c.threads 59 (.slice none 0 0))
  simp only [World.size_alloc] at g3
  go_wp2_with fail
  refine hon hK g3.l.l fun hHeld=>?_
  clear hK K
  generalize w3.heap.size+1=lb at*
  generalize w3.heap.size=tb at*
 case' cB=>
  intro K hK
  go_simp
  have g2:=g1.moreSt (St.rep w3 c.threads 59 (.slice none 0 0))
  go_wp2_with fail
  refine hon hK g2.l fun hHeld=>?_
  clear hK K
  refine rdy 3 fun K hK=>?_
  go_simp
  have g3x:=g2.moreSt (St.rep _ c.threads 4 (.bool false))
  have g3:=g3x.conv fun S w h=>aB.rot h
  clear g3x
  simp only [World.size_alloc] at g3
  go_wp2_with fail
  refine hon hK g3.l.l fun hHeld=>?_
  clear hK K
  generalize w3.heap.size+1=tb at*
  generalize w3.heap.size=lb at*
 all_goals (
  generalize (w3.alloc _).alloc _=w5 at*
  clear g1 g2
  refine tk 7 ?_
  have g4:=g3.moreSt (St.fresh (nwC c cg cap tb lb (.slice none 0 0)) 73)
  unfold nwC at g4
  refine rdy 8 fun K hK=>?_
  go_simp
  go_wp2_with fail
  refine hon hK g4.l.l.l fun hHeld=>?_
  clear hK K
  refine tk 9 ?_
  refine wpAnyH_done (by kernel_rfl) ?_ _
  clear hHeld C9 g3
  generalize w5.heap.size=b at*
  generalize w5.alloc _=w6 at*
  have HG:=zz (show aA (NwT c cg cap cb tb lb b (.slice none 0 0) 0) S w w6 from eL (e:=25) (sz:=1) g4)
  clear g4 hmb hmr
  go_wp2_with fail
  go_loopw [6] (fun i wr=>∃ (j:Nat) (gv:Value) (wx:World),wx=wr∧j≤2∧i=.int .i64 j∧aA (NwT c cg cap cb tb lb b gv j) S w wx) (fun i _=>2-(intOf i).toNat)
  case atStart=>exact ⟨0,_,_,rfl,by omega,rfl,HG.out⟩
  case round=>
   clear HG
   obtain ⟨j,gv,wr,rfl,hj2,rfl,hg⟩:=hrel
   obtain ⟨ga,gc,rfl⟩:=bE hg.r.is.1
   have c2:=hg.l.l.l.l.r.vc 2 (v:=.int .i64 2) (by have:=HGL.out;simp [aD,this])
   by_cases hlt:j<2
   · have hji:(j:Int)<2:=by omega
     have HJ:=zz hlt
     go_upto_region 8 with fail
     clear c2
     have g6:=hg.drew_
     clear hg
     refine wp_region_held_drew (S:=fun w'=>True) (by kernel_rfl) trivial (fun hHeld=>?_)
     generalize wr.drew=w7 at*
     refine tk 0 ?_
     refine tk 1 ?_
     refine tk 2 ?_
     refine tk 3 ?_
     refine wpAnyH_ready (rs:=[4,5]) (by kernel_rfl) (by simp) ?_
     refine AllReadyH.cons (o:=_) rfl ?_ (AllReadyH.cons (o:=_) rfl ?_ AllReadyH.nil)
     focus (
      have c12:=g6.l.r.vC 12 (.slice ga j gc)
      intro K hK
      go_simp
      go_wp2_with fail
      refine hon hK trivial fun hHeld=>?_
      clear hK K
      clear c12
      refine rdy 5 fun K hK=>?_
      go_simp
      refine qq (jD _) ?_
      go_wp2_with fail
      refine hon hK trivial fun hHeld=>?_
      clear hK K
      refine rdy 6 fun K hK=>?_
      go_simp
      have gB:=g6.moreSt (St.fresh #[cJ] 25)
      go_wp2_with fail
      refine hon hK trivial fun hHeld=>?_
      clear hK K
      )
     rotate_left
     focus (
      intro K hK
      go_simp
      refine qq (jD _) ?_
      go_wp2_with fail
      refine hon hK trivial fun hHeld=>?_
      clear hK K
      refine wpAnyH_ready (rs:=[4,6]) (by kernel_rfl) (by simp) ?_
      refine AllReadyH.cons (o:=_) rfl ?_ (AllReadyH.cons (o:=_) rfl ?_ AllReadyH.nil)
      focus (
       have c12:=g6.l.r.vC 12 (.slice ga j gc)
       intro K hK
       go_simp
       go_wp2_with fail
       refine hon hK trivial fun hHeld=>?_
       clear hK K
       clear c12
       refine rdy 6 fun K hK=>?_
       go_simp
       have gB:=g6.moreSt (St.fresh #[cJ] 25)
       go_wp2_with fail
       refine hon hK trivial fun hHeld=>?_
       clear hK K
       )
      rotate_left
      focus (
       intro K hK
       go_simp
       have gB:=g6.moreSt (St.fresh #[cJ] 25)
       have c12:=gB.l.l.r.vC 12 (.slice ga j gc)
       go_wp2_with fail
       refine hon hK trivial fun hHeld=>?_
       clear hK K
       refine rdy 4 fun K hK=>?_
       go_simp
       go_wp2_with fail
       refine hon hK trivial fun hHeld=>?_
       clear hK K
       clear c12
       )
      )
     all_goals (
      obtain ⟨qb,hqb⟩:∃ k,w7.heap.size=k:=⟨_,rfl⟩
      have hBe:∀ (i:Nat) (u:Value),([cJ]:List Value)[i]? = some u→(w7.alloc (.cells #[cJ] 25)).cell? ((⟨qb,0,none⟩:Addr).add i)=some u:=fun i u hu=>by
       rw [bU,←hqb,(Blk.new w7 _ 25).cell,Nat.zero_add]
       simpa using hu
      rw [hqb] at*
      clear hqb
      generalize w7.alloc _=wB at*
      obtain ⟨v',wC,hr,ho,hgr,hbk⟩:=bZ (P:=prog) wB 0 71 71 25 i0 (.complex .f64 0 0) 1 16 underlying71 hi hz0 hz1 hz2 rfl (by decide) _ j (List.replicate j cJ) gB.l.r.is.1 ⟨qb,0,none⟩ 1 1 [cJ] rfl hBe
       (fun u hu=>by simp at hu;subst hu;rfl) (by have:=HJ.out;unfold maxLen;omega) (by have:=HJ.out;omega) (Nat.zero_le _)
      have gC:=gB.then (aG (aH (fun S h=>bS (m:=1) (news:=[cJ]) h (Below.refl _ _) ho hgr hbk)))
      have gD:=gC.then (aG (aG (aH (fun S h=>(aA.begin h).vput 12 v' (cs':=nwC c cg cap tb lb v') rfl))))
      have f12:=gC.l.l.r.vf 12
      have c12:=gC.l.l.r.vC 12 (.slice ga j gc)
      refine rdy 7 fun K hK=>?_
      refine dZ _ _ _ rfl (by kernel_rfl) _ _ rfl rfl hr ?_
      refine hon hK trivial fun hHeld=>?_
      clear hK K
      have HY:=zz (show aA (NwT c cg cap cb tb lb b v' (j+1)) S w _ from by
       have:=gD.l
       unfold NwT
       rw [List.replicate_succ']
       exact this)
      obtain ⟨na,nc,rfl⟩:=bE ho
      clear hr ho hgr hbk hBe gB gC gD
      refine tk 8 ?_
      refine tk 9 ?_
      refine rdy 10 fun K hK=>?_
      go_simp
      go_wp2_with fail
      refine hon hK trivial fun hHeld=>?_
      clear hK K
      refine wpAnyH_done (by kernel_rfl) ?_ _
      clear hHeld c12 f12
      generalize World.setCell _ _ _=wE at*
      go_wp2_with fail
      go_round
      case rel=>exact ⟨j+1,_,_,rfl,by omega,by go_num,HY.out⟩
      case measure=>simp [intOf];omega)
   · obtain rfl:j=2:=by omega
     have HF:=zz (nw_done H2.out hg)
     clear hg
     go_wp2_with fail
     (try rw [aI])
     exact bodyPost_ret (v:=.tuple #[.pointer (some ⟨b,0,none⟩),.int .i64 0]) (by simp [results,results13,go_sem]) rfl ⟨b,rfl,HF.out⟩)
end
end Go.Proofs.YtgcmiahhkalfmaaGreat
