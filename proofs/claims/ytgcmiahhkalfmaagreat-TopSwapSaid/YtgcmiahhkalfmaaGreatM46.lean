import Derived.Test.YtgcmiahhkalfmaaGreatM45
set_option maxRecDepth 100000
set_option maxHeartbeats 8000000
set_option linter.unusedVariables false
set_option linter.unusedSimpArgs false
namespace Go.Proofs.YtgcmiahhkalfmaaGreat
section
open Go.Proofs.Tryz
open Go.RowKit
variable {args:Array Value} {g:Bool} {A:CA} {c:Cf} {x:CyH} {f:FuncId} {sp:Int} {l ws:List Nat} {b i n:Nat} {S:Nat→Prop} {q q':Sw.Q} {r:Sw.Rq} {y y':Sw.Y} {C K:aC} {w w':World} {yc:Yc}
section
theorem cs_turns2 (h1:y.st=6) (ha:y.at_=1) (hc:c.ok) (hi:y.i<c.threads):bC A c b q y q (if q.polls y.i=c.threads then y.to 7 else {y with i:=q.polls y.i}):=by
 refine cH (f:=70) (args:=cyA A b) (.inr (.inr (.inr (.inr (.inr (.inl ⟨h1,rfl,rfl⟩)))))) (fun x sp=>if q.polls y.i=c.threads then {(cP y x).to 7 with h:=.pointer none,sp:=sp} else {cP y x with i:=(q.polls y.i:Nat),sp:=sp}) (fun x sp=>if q.polls y.i=c.threads then {x with sp:=sp,h:=.pointer none} else {x with sp:=sp}) (fun x ok sp w=>?_) fun x sp ok=>?_
 · have:=cy_turns2 (b:=b) (A:=A) (c:=c) (q:=q) (K:=x.K) (y:={cP y x with sp:=sp}) hc (by show ¬y.at_=0;omega) (by show ¬y.at_=2;omega) rfl hi w
   split
   · rename_i h;simp only [if_pos h] at this;exact this
   · rename_i h;simp only [if_neg h] at this;exact this
 · split
   · exact ⟨rfl,fun _ _=>rfl,fun a=>by have:(7:Int)=5:=a;omega⟩
   · exact ⟨rfl,.other (.inl (by show y.st≠5;omega)) (.inl (by show y.st≠7;omega))⟩
theorem cs_hauls0 (h1:y.st=7) (ha:y.at_≠2) (hc:c.ok):bC A c b q y q {y with at_:=2}:=
 gL (f:=71) (args:=cyA A b) (.inr (.inr (.inr (.inr (.inr (.inr (.inl ⟨h1,rfl,rfl⟩))))))) fun x ok=>⟨Value×Int,fun r=>Sep (aE A c q) (Cyc b {cP y x with sp:=r.2,h:=r.1,at_:=2} x.K),
  fun sp w S h=>(cy_hauls0 hc ha (ok.haul h1 ha) rfl w S h).mono fun e w' ⟨hv,he,hg⟩=>⟨(hv,sp),he,hg⟩,
  fun r S w h=>iC {x with sp:=r.2,h:=r.1} rfl rfl (.other (.inl (by show y.st≠5;omega)) (.inr rfl)) h⟩
theorem cs_sweepX (h1:y.st=9) (hc:c.ok) (hi:y.i<c.frags) (hsw:∀ w,aJ prog 142 #[.pointer (some ⟨A.bsp,0,none⟩),.int .i64 (y.i:Nat),.bool y.sn] w (aE A c q) (.bool g) (aE A c q')):
 bC A c b q y q' (if y.i+1=c.frags then y.to 10 else {y with i:=y.i+1}):=
 gL (f:=73) (args:=cyA A b) (.inr (.inr (.inr (.inr (.inr (.inr (.inr (.inr (.inl ⟨h1,rfl,rfl⟩))))))))) fun x ok=>
  ⟨Int×Int,fun r=>Sep (aE A c q') (Cyc b (if y.i+1=c.frags then ({cP y x with sp:=r.2,fr:=r.1}:Yc).to 10 else {cP y x with sp:=r.2,fr:=r.1,i:=((y.i+1:Nat):Int)}) x.K),
  fun sp w S h=>(cy_sweeps (y:={cP y x with sp:=sp}) hc rfl hi hsw w S h).mono fun e w' ⟨fr,he,hg⟩=>⟨(fr,sp),he,hg⟩,
  fun r S w h=>by
   refine iC {x with sp:=r.2,fr:=r.1} ?_ rfl ?_ h
   · split<;>rfl
   · split
     · exact .other (.inl (by show (10:Int)≠5;decide)) (.inl (by show (10:Int)≠7;decide))
     · exact .other (.inl (by show y.st≠5;omega)) (.inl (by show y.st≠7;omega))⟩
theorem cs_sweep (h1:y.st=9) (hc:c.ok) (hi:y.i<c.frags) (h2:(q.t y.i).st=2) (hb:q.blk y.i y.sn=false) (hf:q.fr y.i=false):
 bC A c b q y {q with t:=Sw.set q.t y.i ⟨0,false,false⟩,fr:=Sw.set q.fr y.i true} (if y.i+1=c.frags then y.to 10 else {y with i:=y.i+1}):=
 cs_sweepX h1 hc hi fun w=>eF (sp_sweep1 hi h2 hb hf hc w)
theorem cs_spare (h1:y.st=9) (hc:c.ok) (hi:y.i<c.frags) (h2:¬((q.t y.i).st=2∧q.blk y.i y.sn=false)):bC A c b q y q (if y.i+1=c.frags then y.to 10 else {y with i:=y.i+1}):=
 cs_sweepX h1 hc hi fun w=>eF (sp_sweep0 hi h2 w)
theorem cs_end (h1:y.st=10) (ha:y.at_=0) (hcy:∀ r,q.ln=some r→r.cy≤1000):bC A c b q y {q with ln:=q.ln.map fun r=>{r with cy:=if r.nt&&r.st==0 then r.cy+1 else r.cy,nt:=false}} {y with at_:=7}:=
 cH (f:=74) (args:=cyA A b) (.inr (.inr (.inr (.inr (.inr (.inr (.inr (.inr (.inr ⟨h1,rfl,rfl⟩))))))))) _ (fun x sp=>{x with sp:=sp}) (fun x ok sp w=>cy_serves0 hcy ha w) fun x sp ok=>⟨rfl,.other (.inl (by show y.st≠5;omega)) (.inl (by show y.st≠7;omega))⟩
theorem kF (h1:y.st=10) (ha:¬y.at_=0) (hsv:∀ w,aJ prog 144 #[.pointer (some ⟨A.bsp,0,none⟩),.bool y.sn] w (aE A c q) (.bool g) (aE A c q')):bC A c b q y q' (cond g y (y.to 0)):=by
 cases g with
 | true=>exact cH (f:=74) (args:=cyA A b) (.inr (.inr (.inr (.inr (.inr (.inr (.inr (.inr (.inr ⟨h1,rfl,rfl⟩))))))))) _ (fun x sp=>{x with sp:=sp}) (fun x ok sp w=>cy_serves1 (y:={cP y x with sp:=sp}) ha hsv w) fun x sp ok=>⟨rfl,.other (.inl (by show y.st≠5;omega)) (.inl (by show y.st≠7;omega))⟩
 | false=>exact cH (f:=74) (args:=cyA A b) (.inr (.inr (.inr (.inr (.inr (.inr (.inr (.inr (.inr ⟨h1,rfl,rfl⟩))))))))) _ (fun x sp=>{x with sp:=sp,fi:=wrap64 (x.fi+1)}) (fun x ok sp w=>cy_serves1 (y:={cP y x with sp:=sp}) ha hsv w) fun x sp ok=>⟨rfl,.other (.inl (by show (0:Int)≠5;decide)) (.inl (by show (0:Int)≠7;decide))⟩
theorem cs_serve (h1:y.st=10) (ha:¬y.at_=0) (hl:q.ln=some r) (h0:r.st=0) (hc:c.ok) (ht:Sw.topF q.fr c.frags=some i):bC A c b q y {q.take i y.sn with ln:=some {r with st:=1,got:=i}} y:=by
 have:=kF (b:=b) (A:=A) (c:=c) (q:=q) (g:=true) (q':={q.take i y.sn with ln:=some {r with st:=1,got:=i}}) h1 ha fun w=>by
  have:=sp_serve (b:=A.bsp) (bs:=A.bs) (bt:=A.bt) (s:=y.sn) hl h0 hc w
  rw [svQ,ht] at this
  exact eF (t:=(q.take i y.sn).t) (fr:=(q.take i y.sn).fr) (ln:=some {r with st:=1,got:=i}) this
 exact this
theorem cs_fail (h1:y.st=10) (ha:¬y.at_=0) (hl:q.ln=some r) (h0:r.st=0) (hc:c.ok) (ht:Sw.topF q.fr c.frags=none) (hcy:2≤r.cy):bC A c b q y {q with ln:=some {r with st:=2}} y:=by
 have:=kF (b:=b) (A:=A) (c:=c) (q:=q) (g:=true) (q':={q with ln:=some {r with st:=2}}) h1 ha fun w=>by
  have:=sp_serve (b:=A.bsp) (bs:=A.bs) (bt:=A.bt) (s:=y.sn) hl h0 hc w
  rw [svQ,ht] at this
  simp only [if_pos hcy] at this
  exact eF this
 exact this
theorem cs_done (h1:y.st=10) (ha:¬y.at_=0) (hc:c.ok) (h:¬(q.wait=true∧(Sw.topF q.fr c.frags≠none∨∃ r,q.ln=some r∧2≤r.cy))):bC A c b q y q (y.to 0):=by
 refine kF (b:=b) (A:=A) (c:=c) (g:=false) (q':=q) h1 ha fun w=>?_
 by_cases hw:q.wait=true
 · cases hl:q.ln with
   | none=>rw [Sw.Q.wait,hl] at hw;simp at hw
   | some r=>
    have h0:r.st=0:=by rw [Sw.Q.wait,hl] at hw;simpa using hw
    have ht:Sw.topF q.fr c.frags=none:=by
     cases e:Sw.topF q.fr c.frags with
     | none=>rfl
     | some i=>exact absurd ⟨hw,.inl (by rw [e];simp)⟩ h
    have hcy:¬2≤r.cy:=fun e=>h ⟨hw,.inr ⟨r,hl,e⟩⟩
    have:=sp_serve (b:=A.bsp) (bs:=A.bs) (bt:=A.bt) (s:=y.sn) hl h0 hc w
    rw [svQ,ht] at this
    simp only [if_neg hcy] at this
    exact eF this
 · refine eF (sp_serve0 ?_ w)
   unfold Sw.Q.wait at hw
   unfold lnW
   cases hl:q.ln with
   | none=>rfl
   | some r=>rw [hl] at hw;simpa using hw
end
section
variable {k h:Nat}
theorem wait_is (q:Sw.Q):lnW q.ln=q.wait:=by unfold lnW Sw.Q.wait;cases q.ln<;>rfl
theorem cs_idle (h1:y.st=0):bC A c b q y q (cond (q.wait||decide (cF c.frags q.fr<c.low)) (y.to 1) y):=by
 intro w S hs
 obtain ⟨x,ok,hs⟩:=cyo_open hs
 refine (cy_step0 (y:=cP y x) h1 w S hs).mono fun e w' ⟨sp,he,hg⟩=>⟨he,hg.conv fun S w h=>?_⟩
 rw [wait_is] at h
 cases hc:(q.wait||decide (cF c.frags q.fr<c.low)) with
 | true=>rw [hc] at h;exact iC {x with sp:=sp} rfl rfl (.other (.inl (by show (1:Int)≠5;decide)) (.inl (by show (1:Int)≠7;decide))) h
 | false=>rw [hc] at h;exact iC {x with sp:=sp} rfl rfl (.other (.inl (by show y.st≠5;omega)) (.inl (by show y.st≠7;omega))) h
theorem wrap_nat (hi:n≤100000):wrap64 ((n:Nat)+1:Int)=((n+1:Nat):Int):=by unfold wrap64;omega
theorem cs_rootG (h1:y.st=4) (ha:y.at_=3) (hc:c.ok) (hi:y.i≤1000) (hh:y.hd<c.frags) (hu:(q.t y.hd).hd=true→(q.t y.hd).st=2) (hp:q.pl.length≤c.stack):bC A c b q y (q.grey c y.hd y.sn) {y with at_:=0,i:=y.i+1}:=
 cH (f:=68) (args:=cyA A b) (.inr (.inr (.inr (.inl ⟨h1,rfl,rfl⟩)))) (fun x sp=>{cP y x with sp:=sp,at_:=0,i:=wrap64 ((y.i:Nat)+1)}) (fun x sp=>{x with sp:=sp}) (fun x ok sp w=>cy_roots3 (y:={cP y x with sp:=sp}) hc ha rfl hh hu hp w)
  fun x sp ok=>⟨by rw [wrap_nat (by omega)];rfl,.other (.inl (by show y.st≠5;omega)) (.inl (by show y.st≠7;omega))⟩
theorem cs_root (h1:y.st=4) (ha:y.at_=0) (hc:c.ok) (hi:y.i<c.globals) (hm:(q.m (c.gw y.i)).i=1) (hk:(q.m (c.gw y.i)).k≤63) (hx:(q.m (c.gw y.i)).ix=some h):bC A c b q y q {y with hd:=h,at_:=3}:=by
 have hx:1≤(q.m (c.gw y.i)).k∧(q.m (c.gw y.i)).k-1=h:=by
  unfold Sw.Wd.ix at hx;split at hx
  · rename_i e;exact ⟨e.2,by simpa using hx⟩
  · simp at hx
 have e1:ixB (q.m (c.gw y.i)).k 1=true:=by simp [ixB,hx.1]
 have e2:ixI (q.m (c.gw y.i)).k 1=h:=by unfold ixI;rw [e1];simpa using hx.2
 refine cH (f:=68) (args:=cyA A b) (.inr (.inr (.inr (.inl ⟨h1,rfl,rfl⟩)))) (fun x sp=>{cP y x with sp:=sp,head:=(h:Nat),at_:=3}) (fun x sp=>{x with sp:=sp}) (fun x ok sp w=>?_)
  fun x sp ok=>⟨rfl,.other (.inl (by show y.st≠5;omega)) (.inl (by show y.st≠7;omega))⟩
 have:=cy_roots0 (b:=b) (A:=A) (Kt:=x.K) (y:={cP y x with sp:=sp}) hc ha rfl hi hm hk w
 rw [e1,e2] at this
 exact this
theorem cs_root0 (h1:y.st=4) (ha:y.at_=0) (hc:c.ok) (hi:y.i<c.globals) (hm:(q.m (c.gw y.i)).i=1) (hk:(q.m (c.gw y.i)).k≤63) (hx:(q.m (c.gw y.i)).ix=none):bC A c b q y q {y with hd:=0,i:=y.i+1}:=by
 have hx:(q.m (c.gw y.i)).k=0:=by
  unfold Sw.Wd.ix at hx;split at hx
  · simp at hx
  · rename_i e;have:¬1≤(q.m (c.gw y.i)).k:=fun e2=>e ⟨hm,e2⟩;omega
 have e1:ixB (q.m (c.gw y.i)).k 1=false:=by simp [ixB,hx]
 have e2:ixI (q.m (c.gw y.i)).k 1=0:=by unfold ixI;rw [e1];rfl
 have hg:=hc.globals
 refine cH (f:=68) (args:=cyA A b) (.inr (.inr (.inr (.inl ⟨h1,rfl,rfl⟩)))) (fun x sp=>{cP y x with sp:=sp,head:=0,at_:=0,i:=wrap64 ((y.i:Nat)+1)}) (fun x sp=>{x with sp:=sp}) (fun x ok sp w=>?_)
  fun x sp ok=>⟨by rw [wrap_nat (by omega)];unfold cP;rw [ha];rfl,.other (.inl (by show y.st≠5;omega)) (.inl (by show y.st≠7;omega))⟩
 have:=cy_roots0 (b:=b) (A:=A) (Kt:=x.K) (y:={cP y x with sp:=sp}) hc ha rfl hi hm hk w
 rw [e1,e2] at this
 exact this
theorem cs_rootsX (h1:y.st=4) (hn:n<c.threads) (hW:∀ x:CyH,∀ sp w,aJ prog 68 (cyA A b) w (Sep (aE A c q) (Cyc b {cP y x with sp:=sp} x.K)) (.tuple #[]) (Sep (aE A c q) (Cyc b (if q.polls n=c.threads then ({cP y x with sp:=sp}:Yc).to 5 else {cP y x with sp:=sp,at_:=1,i:=(q.polls n:Nat)}) x.K))):
 bC A c b q y q (if q.polls n=c.threads then y.to 5 else {y with at_:=1,i:=q.polls n}):=
 cH (f:=68) (args:=cyA A b) (.inr (.inr (.inr (.inl ⟨h1,rfl,rfl⟩)))) (fun x sp=>if q.polls n=c.threads then ({cP y x with sp:=sp}:Yc).to 5 else {cP y x with sp:=sp,at_:=1,i:=(q.polls n:Nat)}) (fun x sp=>{x with sp:=sp}) (fun x ok sp w=>hW x sp w)
  fun x sp ok=>by
   split
   · exact ⟨rfl,.other (.inr (by show (0:Int)≠4;decide)) (.inl (by show (5:Int)≠7;decide))⟩
   · exact ⟨rfl,.other (.inl (by show y.st≠5;omega)) (.inl (by show y.st≠7;omega))⟩
theorem cs_roots1 (h1:y.st=4) (ha:y.at_=1) (hc:c.ok) (hi:y.i<c.threads):bC A c b q y q (if q.polls y.i=c.threads then y.to 5 else {y with at_:=1,i:=q.polls y.i}):=
 cs_rootsX h1 hi fun x sp w=>cy_roots1 (y:={cP y x with sp:=sp}) hc ha rfl hi w
theorem cs_roots0 (h1:y.st=4) (ha:y.at_=0) (hc:c.ok) (hi:c.globals≤y.i):bC A c b q y q (if q.polls 0=c.threads then y.to 5 else {y with at_:=1,i:=q.polls 0}):=
 cs_rootsX h1 hc.threads.1 fun x sp w=>cy_roots0p (y:={cP y x with sp:=sp}) hc ha (by show (c.globals:Int)≤(y.i:Nat);omega) w
theorem cs_next (h1:y.st=5) (ha:y.at_=0) (hc:c.ok) (h0:q.pl=l++[i]):bC A c b q y {q with pl:=l} {y with hd:=i,at_:=4,rs:=false,tr:=⟨i,0,[],0⟩}:=
 gL (f:=69) (args:=cyA A b) (.inr (.inr (.inr (.inr (.inl ⟨h1,rfl,rfl⟩))))) fun x ok=>⟨Nat×Int,fun r=>Sep (aE A c {q with pl:=l}) (Cyc b {cP y x with sp:=r.2,head:=(i:Nat),at_:=4,rs:=false,tr:=.pointer (some ⟨r.1,0,none⟩)} (TrO r.1 c y.sn ⟨i,0,[],0⟩)),
  fun sp w S h=>(cy_marks0 (r:=true) (q':={q with pl:=l}) (y:={cP y x with sp:=sp}) hc (by show ¬y.at_=4;omega) (by show ¬y.at_=5;omega) (by show ¬y.at_=6;omega) (fun w=>fV (q':={q with pl:=l}) (sh_next h0 w) ⟨rfl,rfl,rfl,rfl,rfl,rfl⟩) w S h).mono fun e w' ⟨tb,he,hg⟩=>⟨(tb,sp),he,hg⟩,
  fun r S w h=>iC {x with sp:=r.2,tr:=.pointer (some ⟨r.1,0,none⟩),tb:=r.1,K:=TrO r.1 c y.sn ⟨i,0,[],0⟩} rfl rfl ⟨fun a=>by have a:y.st=7:=a;omega,fun _ _=>⟨rfl,rfl⟩⟩ h⟩
theorem cs_next0 (h1:y.st=5) (ha:y.at_=0) (hc:c.ok) (h0:q.pl=[]):bC A c b q y q {y with hd:=0,at_:=5,rs:=false}:=
 gL (f:=69) (args:=cyA A b) (.inr (.inr (.inr (.inr (.inl ⟨h1,rfl,rfl⟩))))) fun x ok=>⟨Int,fun r=>Sep (aE A c q) (Cyc b {cP y x with sp:=r,head:=0,at_:=5,rs:=false} x.K),
  fun sp w S h=>(cy_marks0 (r:=false) (i:=0) (q':=q) (y:={cP y x with sp:=sp}) hc (by show ¬y.at_=4;omega) (by show ¬y.at_=5;omega) (by show ¬y.at_=6;omega) (fun w=>fV (q':=q) (sh_next0 h0 w) ⟨rfl,rfl,rfl,rfl,rfl,rfl⟩) w S h).mono fun e w' ⟨tb,he,hg⟩=>⟨sp,he,hg⟩,
  fun r S w h=>iC {x with sp:=r} rfl rfl (.other (.inr (by show (5:Int)≠4;decide)) (.inl (by show y.st≠7;omega))) h⟩
theorem cs_lost (h1:y.st=5) (ha:y.at_=5):bC A c b q y {q with lo:=false} (cond q.lo {y with at_:=6,i:=0} (y.to 6)):=by
 refine cH (f:=69) (args:=cyA A b) (.inr (.inr (.inr (.inr (.inl ⟨h1,rfl,rfl⟩))))) (fun x sp=>cond q.lo {cP y x with sp:=sp,at_:=6,i:=0} (({cP y x with sp:=sp}:Yc).to 6)) (fun x sp=>{x with sp:=sp}) (fun x ok sp w=>cy_marks5 (y:={cP y x with sp:=sp}) ha w) fun x sp ok=>?_
 cases q.lo with
 | true=>exact ⟨rfl,.other (.inr (by show (6:Int)≠4;decide)) (.inl (by show y.st≠7;omega))⟩
 | false=>exact ⟨rfl,.other (.inl (by show (6:Int)≠5;decide)) (.inl (by show (6:Int)≠7;decide))⟩
theorem cs_rescan (h1:y.st=5) (ha:y.at_=6) (hc:c.ok) (hi:y.i<c.frags) (hb:((q.t y.i).hd&&q.blk y.i y.sn)=true):bC A c b q y q {y with at_:=4,rs:=true,tr:=⟨y.i,0,[],0⟩}:=
 gL (f:=69) (args:=cyA A b) (.inr (.inr (.inr (.inr (.inl ⟨h1,rfl,rfl⟩))))) fun x ok=>⟨Nat×Int,fun r=>Sep (aE A c q) (Cyc b {cP y x with sp:=r.2,tr:=.pointer (some ⟨r.1,0,none⟩),at_:=4,rs:=true} (TrO r.1 c y.sn ⟨y.i,0,[],0⟩)),
  fun sp w S h=>(cy_marks6 (y:={cP y x with sp:=sp}) hc rfl hi ha w S h).mono fun e w' ⟨tb,he,hg⟩=>⟨(tb,sp),he,by rw [show ((q.t y.i).hd&&q.blk y.i (cP y x).sn)=true from hb] at hg;exact hg⟩,
  fun r S w h=>iC {x with sp:=r.2,tr:=.pointer (some ⟨r.1,0,none⟩),tb:=r.1,K:=TrO r.1 c y.sn ⟨y.i,0,[],0⟩} rfl rfl ⟨fun a=>by have a:y.st=7:=a;omega,fun _ _=>⟨rfl,rfl⟩⟩ h⟩
theorem fol_is:folY c y.i {cP y x with sp:=sp}=cP (y.follows c) {x with sp:=sp}:=by
 unfold folY Sw.Y.follows
 split
 · rename_i e;rfl
 · rename_i e;rfl
theorem fol_at:(y.follows c).at_=0∨(y.follows c).at_=6:=by unfold Sw.Y.follows;split;exact .inl rfl;exact .inr rfl
theorem fol_st:(y.follows c).st=y.st:=by unfold Sw.Y.follows;split<;>rfl
theorem cs_skip (h1:y.st=5) (ha:y.at_=6) (hc:c.ok) (hi:y.i<c.frags) (hb:((q.t y.i).hd&&q.blk y.i y.sn)=false):bC A c b q y q (y.follows c):=
 gL (f:=69) (args:=cyA A b) (.inr (.inr (.inr (.inr (.inl ⟨h1,rfl,rfl⟩))))) fun x ok=>⟨Int,fun r=>Sep (aE A c q) (Cyc b (folY c y.i {cP y x with sp:=r}) x.K),
  fun sp w S h=>(cy_marks6 (y:={cP y x with sp:=sp}) hc rfl hi ha w S h).mono fun e w' ⟨tb,he,hg⟩=>⟨sp,he,by rw [show ((q.t y.i).hd&&q.blk y.i (cP y x).sn)=false from hb] at hg;exact hg⟩,
  fun r S w h=>iC {x with sp:=r} fol_is rfl (.other (.inr (by have:=fol_at (y:=y) (c:=c);omega)) (.inl (by rw [fol_st];omega))) h⟩
theorem cs_traceX (h1:y.st=5) (ha:y.at_=4) (hc:c.ok) (hi:y.i<c.frags) (tr':Sw.Tr)
 (hst:∀ tb w,aJ prog 197 #[.pointer (some ⟨tb,0,none⟩),.pointer (some ⟨A.bm,0,none⟩),.pointer (some ⟨A.bs,0,none⟩)] w (Sep (TrO tb c y.sn y.tr) (aE A c q)) (.bool (decide (tr'.pc=9))) (Sep (TrO tb c y.sn tr') (aE A c q'))):
 bC A c b q y q' (({y with tr:=tr'}:Sw.Y).traced c):=by
 refine cH (f:=69) (args:=cyA A b) (.inr (.inr (.inr (.inr (.inl ⟨h1,rfl,rfl⟩))))) (fun x sp=>cond (decide (tr'.pc=9)) (cond y.rs (folY c y.i {cP y x with sp:=sp}) {cP y x with sp:=sp,at_:=0}) {cP y x with sp:=sp}) (fun x sp=>{x with sp:=sp,K:=TrO x.tb c y.sn tr'}) (fun x ok sp w=>?_) fun x sp ok=>?_
 · obtain ⟨e1,e2⟩:=ok.tr h1 ha
   rw [e2]
   exact cy_marks4 (tb:=x.tb) (y:={cP y x with sp:=sp}) hc rfl hi e1 (hst x.tb) (fun _ S w h=>tro_errno h) ha w
 · obtain ⟨e1,e2⟩:=ok.tr h1 ha
   by_cases h9:tr'.pc=9
   · have ht:({y with tr:=tr'}:Sw.Y).traced c=if y.rs then ({y with tr:=tr',at_:=0}:Sw.Y).follows c else {y with tr:=tr',at_:=0}:=by unfold Sw.Y.traced;rw [if_pos h9]
     rw [ht]
     simp only [h9,decide_true,cond_true]
     cases hr:y.rs with
     | true=>exact ⟨by rw [cond_true,if_pos rfl,←hr];unfold folY Sw.Y.follows;split<;>rfl,.other (.inr (by rw [if_pos rfl];have:=fol_at (y:={y with tr:=tr',at_:=0}) (c:=c);simp only [hr] at this ⊢;omega)) (.inl (by rw [if_pos rfl,fol_st];show y.st≠7;omega))⟩
     | false=>exact ⟨by rw [cond_false,if_neg (by decide)];simp only [cP,hr],.other (.inr (by rw [if_neg (by decide)];show (0:Int)≠4;decide)) (.inl (by rw [if_neg (by decide)];show y.st≠7;omega))⟩
   · have ht:({y with tr:=tr'}:Sw.Y).traced c={y with tr:=tr'}:=by unfold Sw.Y.traced;rw [if_neg h9]
     rw [ht]
     simp only [h9,decide_false,cond_false]
     exact ⟨rfl,⟨fun a=>by have a:y.st=7:=a;omega,fun _ _=>⟨e1,rfl⟩⟩⟩
theorem cs_trHead (h1:y.st=5) (ha:y.at_=4) (hc:c.ok) (hs:c.shapes[0]? = some (false,c.refs)) (hi:y.i<c.frags) (hp:y.tr.pc=0) (hh:y.tr.hd<c.frags) (hm:q.m (c.fw y.tr.hd 1)=⟨0,1⟩):
 bC A c b q y q (({y with tr:={y.tr with ws:=Sw.refWs c.refs,pc:=({y.tr with ws:=Sw.refWs c.refs}:Sw.Tr).on}}:Sw.Y).traced c):=
 cs_traceX h1 ha hc hi _ fun tb w=>core_memT (tro_head hc hs hp hh hm _ w)
theorem cs_trWord (h1:y.st=5) (ha:y.at_=4) (hc:c.ok) (hl6:c.refs.length≤6) (hi:y.i<c.frags) (hp:y.tr.pc=1) (hh:y.tr.hd<c.frags) (hws:y.tr.ws=k::ws) (hk:k<8) (hlen:ws.length≤100) (hm:(q.m (c.fw y.tr.hd k)).i=1) (hb:(q.m (c.fw y.tr.hd k)).k≤63):
 bC A c b q y q (({y with tr:={y.tr with ws:=ws,nx:=ixI (q.m (c.fw y.tr.hd k)).k 1,pc:=if ixB (q.m (c.fw y.tr.hd k)).k 1 then 2 else ({y.tr with ws:=ws}:Sw.Tr).on}}:Sw.Y).traced c):=
 cs_traceX h1 ha hc hi _ fun tb w=>core_memT (tro_walks hc hl6 hp hh hws hk hlen hm hb _ w)
theorem cs_trGrey (h1:y.st=5) (ha:y.at_=4) (hc:c.ok) (hl6:c.refs.length≤6) (hi:y.i<c.frags) (hp:y.tr.pc=2) (hx:y.tr.nx<c.frags) (hu:(q.t y.tr.nx).hd=true→(q.t y.tr.nx).st=2) (hpl:q.pl.length≤c.stack) (hlen:y.tr.ws.length≤100):
 bC A c b q y (q.grey c y.tr.nx y.sn) (({y with tr:={y.tr with pc:=y.tr.on}}:Sw.Y).traced c):=
 cs_traceX h1 ha hc hi _ fun tb w=>core_shT (tro_grey hc hl6 hp hx hu hpl hlen _ w) (jF _ _ _ _)
end
end
section
open Go.RowKit
open Sw
variable {h no t:Nat} {nos:Nat→Nat} {os:Nat→Nat→Opn} {o:Nat→Opn} {D:Nat→Prop} {ps:Nat→Sw.T} {rs:Sw.Rs} {p p':Sw.T}
structure Aux (q:Q) (y:Y):Prop where
 i5:y.st=5→y.i<24
 cy:∀ r,q.ln=some r→r.cy≤2∧(r.st=0→¬(y.st=10∧y.at_≠0)→r.cy≤1)
section
variable {q q':Q} {y y':Y}
theorem grey_ln (q:Q) (c:Cf) (i:Nat) (s:Bool):(q.grey c i s).ln=q.ln:=(jF q c i s).2.2.1
theorem aux_ts (X:Aux q y) (h:TS cS t no o q p q' p' rs):Aux q' y:=by
 refine ⟨X.i5,?_⟩
 cases h<;>first
  | exact X.cy
  | (rw [grey_ln];exact X.cy)
  | (intro r hr;simp at hr;done)
  | (intro r hr;simp at hr;subst hr;simp)
theorem follows_i {y:Y} (h:y.i<24):(y.follows cS).i<24:=by
 unfold Y.follows
 split
 · show 0<24;decide
 · next e=>show y.i+1<24;have:y.i+1≠24:=e;omega
theorem traced_i {y:Y} (h:y.i<24):(y.traced cS).i<24:=by
 unfold Y.traced
 split
 · split
   · exact follows_i (y:={y with at_:=0}) h
   · exact h
 · exact h
theorem aux_cs (X:Aux q y) (h:CS cS q y q' y'):Aux q' y':=by
 have hl:∀ {q2:Q} {y2:Y},(y2.st=5→y2.i<24)→(q2.ln=q.ln)→(y.st≠10)→Aux q2 y2:=fun h5 hq hy=>⟨h5,fun r hr=>by
  rw [hq] at hr
  have:=X.cy r hr
  exact ⟨this.1,fun h0 _=>this.2 h0 fun h=>hy h.1⟩⟩
 have hst:∀ (p:Prop) [Decidable p] (a b:Y),(if p then a else b).st=if p then a.st else b.st:=fun p _ a b=>by split<;>rfl
 cases h with
 | idle h=>exact X
 | wants h=>exact hl (by simp [Y.to]) rfl (by omega)
 | begin_ h=>exact ⟨by simp [h],fun r hr=>by
  obtain ⟨r0,h0,rfl⟩:∃ r0,q.ln=some r0∧{r0 with nt:=r0.st==0}=r:=by simpa using hr
  have:=X.cy r0 h0
  exact ⟨this.1,fun h0 _=>this.2 h0 (by omega)⟩⟩
 | start h=>exact hl (by simp [Y.to]) rfl (by omega)
 | hands h ha=>exact hl (by intro h5;simp only at h5;omega) rfl (by omega)
 | post h ha=>exact hl (by intro _;simp [Y.to]) rfl (by omega)
 | rootG h=>exact hl (by intro h5;simp only at h5;omega) (grey_ln _ _ _ _) (by omega)
 | root h=>exact hl (by intro h5;simp only at h5;omega) rfl (by omega)
 | root0 h=>exact hl (by intro h5;simp only at h5;omega) rfl (by omega)
 | roots h=>
  have key:∀ j:Nat,(if j=cS.threads then y.to 5 else {y with at_:=1,i:=j}:Y).st=5→(if j=cS.threads then y.to 5 else {y with at_:=1,i:=j}:Y).i<24:=fun j=>by
   split
   · intro _;show 0<24;decide
   · intro h5;simp only at h5;omega
  exact hl (key _) rfl (by omega)
 | next h ha=>exact hl (fun _=>X.i5 h) rfl (by omega)
 | next0 h ha=>exact hl (fun _=>X.i5 h) rfl (by omega)
 | lost h ha=>exact hl (fun _=>by simp) rfl (by omega)
 | found h ha=>exact hl (by simp [Y.to]) rfl (by omega)
 | rescan h ha=>exact hl (fun _=>X.i5 h) rfl (by omega)
 | skip h ha=>exact hl (fun _=>follows_i (X.i5 h)) rfl (by omega)
 | trHead h ha=>exact hl (fun _=>traced_i (X.i5 h)) rfl (by omega)
 | trRef h ha=>exact hl (fun _=>X.i5 h) rfl (by omega)
 | trNone h ha=>exact hl (fun _=>traced_i (X.i5 h)) rfl (by omega)
 | trGrey h ha=>exact hl (fun _=>traced_i (X.i5 h)) (grey_ln _ _ _ _) (by omega)
 | turn h=>exact hl (by intro h5;simp only at h5;omega) rfl (by omega)
 | move h=>exact hl (by intro h5;simp only at h5;omega) rfl (by omega)
 | turns h=>refine hl ?_ rfl (by omega);intro h5;exfalso;simp only [hst] at h5;split at h5<;>simp_all [Y.to]
 | haul h=>exact hl (by intro h5;simp only at h5;omega) rfl (by omega)
 | still h=>exact hl (by simp [Y.to]) rfl (by omega)
 | settle h=>exact hl (by intro h5;simp only at h5;omega) rfl (by omega)
 | settled h=>exact hl (by simp [Y.to]) rfl (by omega)
 | sweep h=>refine hl ?_ rfl (by omega);intro h5;exfalso;simp only [hst] at h5;split at h5<;>simp_all [Y.to]
 | spare h=>refine hl ?_ rfl (by omega);intro h5;exfalso;simp only [hst] at h5;split at h5<;>simp_all [Y.to]
 | end_ h ha=>exact ⟨by simp [h],fun r hr=>by
  obtain ⟨r0,h0,rfl⟩:∃ r0,q.ln=some r0∧_=r:=by simpa using hr
  have:=X.cy r0 h0
  refine ⟨?_,fun _ hn=>absurd ⟨h,by show (7:Int)≠0;decide⟩ hn⟩
  simp only
  split
  · next e=>have:=this.2 (by first|exact e.2|(simp at e;exact e.2)) (by omega);omega
  · exact this.1⟩
 | serve h ha hr0=>exact ⟨fun h5=>by omega,fun r hr=>by simp at hr;subst hr;exact ⟨(X.cy _ hr0).1,fun h=>by simp at h⟩⟩
 | fail h ha hr0=>exact ⟨fun h5=>by omega,fun r hr=>by simp at hr;subst hr;exact ⟨(X.cy _ hr0).1,fun h=>by simp at h⟩⟩
 | done h ha hd=>exact ⟨by simp [Y.to],fun r hr=>⟨(X.cy r hr).1,fun h0 _=>by
  by_cases h2:2≤r.cy
  · exact absurd ⟨by unfold Q.wait;rw [hr];show (r.st==0)=true;rw [h0];rfl,.inr ⟨r,hr,h2⟩⟩ hd
  · omega⟩⟩
theorem ix_s {w:Wd} (e:w.ix=some h):ixB w.k 1=true∧ixI w.k 1=h:=by
 unfold Wd.ix at e
 split at e
 · next h1=>cases e;unfold ixI ixB;simp [h1.2]
 · cases e
theorem ix_n {w:Wd} (hi:w.i=1) (e:w.ix=none):ixB w.k 1=false∧ixI w.k 1=0:=by
 unfold Wd.ix at e
 split at e
 · cases e
 · next h1=>
   have:w.k=0:=by omega
   unfold ixI ixB;simp [this]
def CCan (q:Q) (y:Y):Prop:=∃ q' y',CS cS q y q' y'∧∀ A b,bC A cS b q y q' y'
theorem CCan.mk (h:CS cS q y q' y') (h2:∀ A b,bC A cS b q y q' y'):CCan q y:=⟨q',y',h,h2⟩
theorem word_refs {w:Wd} (h:OkW q y w):w.i=1∧w.k≤63:=by have:=OkW.bd h;omega
theorem ccan (I:Sw.Inv nos os D q y ps) (X:Aux q y):CCan q y:=by
 have C:=I.c
 have B:=I.b
 have hc:=cS_ok
 have hu:∀ i,i<24→(q.t i).hd=true→(q.t i).st=2:=fun i hi hd=>by
  rcases B.tab i hi with h|h
  · rw [h.2.2] at hd;simp at hd
  · exact h.1
 have hst:=C.st
 have hgl:∀ g,g<2→(q.m (cS.gw g)).i=1∧(q.m (cS.gw g)).k≤63:=fun g hg=>word_refs (B.glo g hg)
 have:y.st=0∨y.st=1∨y.st=2∨y.st=3∨y.st=4∨y.st=5∨y.st=6∨y.st=7∨y.st=8∨y.st=9∨y.st=10:=by omega
 rcases this with e|e|e|e|e|e|e|e|e|e|e
 · by_cases hw:q.wait=true∨cF cS.frags q.fr<cS.low
   · refine .mk (.wants e hw) fun A b=>?_
     have:=cs_idle (A:=A) (b:=b) (q:=q) (c:=cS) e
     rw [show (q.wait||decide (cF cS.frags q.fr<cS.low))=true by simpa using hw] at this
     exact this
   · refine .mk (.idle e hw) fun A b=>?_
     have:=cs_idle (A:=A) (b:=b) (q:=q) (c:=cS) e
     rw [show (q.wait||decide (cF cS.frags q.fr<cS.low))=false by simpa using hw] at this
     exact this
 · by_cases ha:y.at_=0
   · exact .mk (.begin_ e ha) fun A b=>cs_starts0 e ha
   · exact .mk (.start e ha) fun A b=>cs_starts1 e ha
 · by_cases ha:y.at_=0
   · exact .mk (.hands (.inl e) ha) fun A b=>cs_hands0 (.inl e) ha hc ((C.h2 e).2 ha)
   · exact .mk (.post (.inl e) ha) fun A b=>cs_hands1 (.inl e) ha
 · by_cases ha:y.at_=0
   · exact .mk (.hands (.inr e) ha) fun A b=>cs_hands0 (.inr e) ha hc ((C.h3 e).2 ha)
   · exact .mk (.post (.inr e) ha) fun A b=>cs_hands1 (.inr e) ha
 · rcases (C.h4 e).2 with ⟨ha,hi⟩|⟨ha,hi⟩|⟨ha,hi,hA⟩
   · by_cases h2:y.i<2
     · cases hx:(q.m (cS.gw y.i)).ix with
       | some h=>exact .mk (.root e ha h2 hx) fun A b=>cs_root e ha hc h2 (hgl _ h2).1 (hgl _ h2).2 hx
       | none=>exact .mk (.root0 e ha h2 hx) fun A b=>cs_root0 e ha hc h2 (hgl _ h2).1 (hgl _ h2).2 hx
     · have hg:cS.globals≤y.i:=by show 2≤y.i;omega
       refine .mk (.roots e (.inr ⟨ha,hg⟩)) fun A b=>?_
       simp only [if_pos ha]
       exact cs_roots0 e ha hc hg
   · refine .mk (.roots e (.inl ha)) fun A b=>?_
     simp only [if_neg (show ¬y.at_=0 by omega)]
     exact cs_roots1 e ha hc hi
   · exact .mk (.rootG e ha) fun A b=>cs_rootG e ha hc (by omega) hA.1 (hu _ hA.1) B.pl2
 · have hi:=X.i5 e
   rcases (C.h5 e).2 with ha|ha|ha|⟨ha,_⟩
   · rcases List.eq_nil_or_concat q.pl with h0|⟨l,i,h0⟩
     · exact .mk (.next0 e ha h0) fun A b=>cs_next0 e ha hc h0
     · rw [List.concat_eq_append] at h0
       exact .mk (.next e ha h0) fun A b=>cs_next e ha hc h0
   · obtain ⟨hk,ht⟩:=C.tr e ha
     have hA:Al q y y.tr.hd:=⟨hk.1,hk.2.1,fun h6=>by omega⟩
     have hT:=B.typ _ hA
     rcases ht with hp|⟨hp,hws⟩|⟨hp,hws,hn⟩
     · exact .mk (.trHead e ha hp) fun A b=>cs_trHead e ha hc rfl hi hp hk.1 hT.1
     · have hw:∃ k ws,y.tr.ws=k::ws∧(k=2∨k=3)∧ws.length≤100:=by
        rcases hws with h|h
        · exact ⟨2,[3],h,.inl rfl,by decide⟩
        · exact ⟨3,[],h,.inr rfl,by decide⟩
       obtain ⟨k,ws,hw,hk2,hlen⟩:=hw
       have hm:(q.m (cS.fw y.tr.hd k)).i=1∧(q.m (cS.fw y.tr.hd k)).k≤63:=by
        rcases hk2 with rfl|rfl
        · exact word_refs hT.2.1
        · exact word_refs hT.2.2.1
       have hr:=fun A b=>cs_trWord (A:=A) (b:=b) e ha hc (by decide) hi hp hk.1 hw (show k<8 by omega) hlen hm.1 hm.2
       cases hx:(q.m (cS.fw y.tr.hd k)).ix with
       | some h=>exact .mk (.trRef e ha hp hw hx) fun A b=>by have:=hr A b;rw [(ix_s hx).1,(ix_s hx).2] at this;exact this
       | none=>exact .mk (.trNone e ha hp hw hx) fun A b=>by have:=hr A b;rw [(ix_n hm.1 hx).1,(ix_n hm.1 hx).2] at this;exact this
     · exact .mk (.trGrey e ha hp) fun A b=>cs_trGrey e ha hc (by decide) hi hp hn.1 (hu _ hn.1) B.pl2 (by rcases hws with h|h<;>rw [h]<;>decide)
   · cases hl:q.lo with
     | true=>exact .mk (.lost e ha hl) fun A b=>by have:=cs_lost (A:=A) (b:=b) (c:=cS) (q:=q) e ha;rw [hl] at this;exact this
     | false=>exact .mk (.found e ha hl) fun A b=>by have:=cs_lost (A:=A) (b:=b) (c:=cS) (q:=q) e ha;rw [hl,show ({q with lo:=false}:Q)=q by rw [←hl]] at this;exact this
   · by_cases hb:(q.t y.i).hd=true∧q.blk y.i y.sn=true
     · exact .mk (.rescan e ha hb.1 hb.2) fun A b=>cs_rescan e ha hc hi (by simp [hb])
     · exact .mk (.skip e ha hb) fun A b=>cs_skip e ha hc hi (by cases h1:(q.t y.i).hd<;>cases h2:q.blk y.i y.sn<;>simp_all)
 · rcases C.h6 e with ⟨ha,hq,hi⟩|⟨ha,hq,hi⟩
   · rcases ha with ha|ha
     · exact .mk (.turn e ha) fun A b=>cs_turns0 e ha hc
     · exact .mk (.move e ha) fun A b=>cs_turns1 e ha
   · exact .mk (.turns e ha) fun A b=>cs_turns2 e ha hc hi
 · by_cases ha:y.at_=2
   · exact .mk (.still e ha) fun A b=>cs_hauls1 e ha
   · exact .mk (.haul e ha) fun A b=>cs_hauls0 e ha hc
 · by_cases ha:y.at_=0
   · exact .mk (.settle e ha) fun A b=>cs_settles0 e ha hc (C.h8 e ha)
   · exact .mk (.settled e ha) fun A b=>cs_settles1 e ha
 · have hi:=C.h9 e
   by_cases hb:(q.t y.i).st=2∧q.blk y.i y.sn=false
   · have hf:q.fr y.i=false:=by
      rcases B.tab _ hi with h|h
      · omega
      · exact h.2
     exact .mk (.sweep e hb.1 hb.2) fun A b=>cs_sweep e hc hi hb.1 hb.2 hf
   · exact .mk (.spare e hb) fun A b=>cs_spare e hc hi hb
 · by_cases ha:y.at_=0
   · exact .mk (.end_ e ha) fun A b=>cs_end e ha fun r hr=>by have:=(X.cy r hr).1;omega
   · by_cases hw:q.wait=true
     · unfold Q.wait at hw
       cases hl:q.ln with
       | none=>rw [hl] at hw;simp at hw
       | some r=>
        rw [hl] at hw
        have h0:r.st=0:=by simpa using hw
        cases ht:topF q.fr cS.frags with
        | some i=>exact .mk (.serve e ha hl h0 ht) fun A b=>cs_serve e ha hl h0 hc ht
        | none=>
         by_cases h2:2≤r.cy
         · exact .mk (.fail e ha hl h0 ht h2) fun A b=>cs_fail e ha hl h0 hc ht h2
         · have hd:¬(q.wait=true∧(topF q.fr cS.frags≠none∨∃ r,q.ln=some r∧2≤r.cy)):=by
            rintro ⟨_,h|⟨r',hr',h'⟩⟩
            · exact h ht
            · rw [hl] at hr';cases hr';exact h2 h'
           exact .mk (.done e ha hd) fun A b=>cs_done e ha hc hd
     · have hd:¬(q.wait=true∧(topF q.fr cS.frags≠none∨∃ r,q.ln=some r∧2≤r.cy)):=fun h=>hw h.1
       exact .mk (.done e ha hd) fun A b=>cs_done e ha hc hd
end
end
end Go.Proofs.YtgcmiahhkalfmaaGreat
