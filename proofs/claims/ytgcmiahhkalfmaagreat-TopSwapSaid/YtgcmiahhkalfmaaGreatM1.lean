import Derived.OrdersHeld
import Derived.Calls
import Derived.Scope
import Derived.WalkMore
import Derived.Lib.Hide
import Derived.WalkKit
import Derived.Handy
import Derived.Deep.RegionHeld3
import Derived.Deep.RegionWith
set_option maxRecDepth 100000
set_option maxHeartbeats 8000000
set_option linter.unusedVariables false
set_option linter.unusedSimpArgs false
namespace Go.Proofs.YtgcmiahhkalfmaaGreat
open Go Go.RowKit
variable {a a':Act} {K K':Act→World→Prop} {listed:Array Bool} {ops:Array Oper} {args:Array Value} {R:Ending→World→Prop} {f:FuncId} {fuel i j n:Nat} {o oi oj:Oper} {P:Program} {p:Prop} {v:Value} {w:World} {A S S2:World→Prop}
theorem zz (h : p) : Hid p := Lib.hid h
section
theorem qq (h : Calls P f args w fun e w' => e = .returned v ∧ w = w') (k : R (.returned v) w) : Calls P f args w R := h.mono fun e w' h => by obtain ⟨rfl, rfl⟩ := h; exact k
theorem qz (h : Calls P f args w fun e w' => e = .returned v ∧ A w') (k : ∀ w', A w' → R (.returned v) w') : Calls P f args w R := h.mono fun e w' h => by obtain ⟨rfl, h⟩ := h; exact k w' h
end
section
variable {Q : Exit → Act → World → Prop} {md : Region.Mode}
theorem tk (i : Nat) (h : wpAnyH P md ops Q S fuel (listed.setIfInBounds i true) a' w) (h1 : ops[i]? = some oi := by exact rfl) (h2 : Region.noSelect ops = true := by kernel_rfl) (h3 : Region.free md ops listed i = true := by kernel_rfl) (h4 : (Region.ready md ops listed).contains i = true := by kernel_rfl)
    (h5 : ∀ c a w, Q (.panic c) (a.put oi.dst v) w → Q (.panic c) a w := by exact fun _ _ _ h => h) (h6 : Region.wanted oi (yielded ops a.tmps) = true := by kernel_rfl) (h7 : ∀ w, S w → (execOp a.eval oi).run P w = .ok (.value v) w := by (intro w hSw; (try dsimp only at hSw); go_simp; with_reducible rfl)) (h8 : S w := by assumption)
    (h9 : a.put oi.dst v = a' := by (try simp only [Act.put, List.getElem_toArray, List.getElem_cons_zero, List.getElem_cons_succ, List.setIfInBounds_toArray, List.set_cons_zero, List.set_cons_succ]); exact rfl) : wpAnyH P md ops Q S (fuel + 1) listed a w :=
  wpAnyH_take h1 h2 h3 h4 h5 (.inl ⟨h6, h7⟩) h8 (h9 ▸ h)
theorem tkh (i : Nat) (F : ∀ w, S w → S2 w) (h : wpAnyH P md ops Q S fuel (listed.setIfInBounds i true) a' w) (h1 : ops[i]? = some oi := by exact rfl) (h2 : Region.noSelect ops = true := by kernel_rfl) (h3 : Region.free md ops listed i = true := by kernel_rfl) (h4 : (Region.ready md ops listed).contains i = true := by kernel_rfl)
    (h5 : ∀ c a w, Q (.panic c) (a.put oi.dst v) w → Q (.panic c) a w := by exact fun _ _ _ h => h) (h6 : Region.wanted oi (yielded ops a.tmps) = true := by kernel_rfl) (h7 : ∀ w, S2 w → (execOp a.eval oi).run P w = .ok (.value v) w := by (intro w hSw; (try dsimp only at hSw); go_simp; with_reducible rfl)) (h8 : S w := by assumption)
    (h9 : a.put oi.dst v = a' := by (try simp only [Act.put, List.getElem_toArray, List.getElem_cons_zero, List.getElem_cons_succ, List.setIfInBounds_toArray, List.set_cons_zero, List.set_cons_succ]); exact rfl) : wpAnyH P md ops Q S (fuel + 1) listed a w :=
  wpAnyH_take h1 h2 h3 h4 h5 (.inl ⟨h6, fun w h => h7 w (F w h)⟩) h8 (h9 ▸ h)
theorem tkn (i : Nat) (h : wpAnyH P md ops Q S fuel (listed.setIfInBounds i true) a' w) (h1 : ops[i]? = some oi := by exact rfl) (h2 : Region.noSelect ops = true := by kernel_rfl) (h3 : Region.free md ops listed i = true := by kernel_rfl) (h4 : (Region.ready md ops listed).contains i = true := by kernel_rfl)
    (h5 : ∀ c a w, Q (.panic c) (a.put oi.dst undef) w → Q (.panic c) a w := by exact fun _ _ _ h => h) (h6 : Region.wanted oi (yielded ops a.tmps) = false := by kernel_rfl) (h8 : S w := by assumption)
    (h9 : a.put oi.dst undef = a' := by (try simp only [Act.put, List.getElem_toArray, List.getElem_cons_zero, List.getElem_cons_succ, List.setIfInBounds_toArray, List.set_cons_zero, List.set_cons_succ]); exact rfl) : wpAnyH P md ops Q S (fuel + 1) listed a w :=
  wpAnyH_take h1 h2 h3 h4 h5 (.inr ⟨h6, rfl⟩) h8 (h9 ▸ h)
theorem rdy (i : Nat) (h : ∀ K' : Act → World → Prop, Shut (∀ a w, S w → (S w → wpAnyH P md ops Q S fuel (listed.setIfInBounds i true) a w) → K' a w) → if Region.wanted oi (yielded ops a.tmps) = true then Oper.wp P oi a w K' Q else K' (a.put oi.dst undef) w)
    (hr : Region.ready md ops listed = [i] := by kernel_rfl) (ho : ops[i]? = some oi := by exact rfl) : wpAnyH P md ops Q S (fuel + 1) listed a w := wpAnyH_ready hr (by simp) (AllReadyH.cons ho h AllReadyH.nil)
theorem hon (hK : Shut (∀ a w, S w → (S w → wpAnyH P md ops Q S fuel listed a w) → K' a w)) (g : S w) (h : S w → wpAnyH P md ops Q S fuel listed a' w)
    (e : a = a' := by (try simp only [Act.put, List.getElem_toArray, List.getElem_cons_zero, List.getElem_cons_succ, List.setIfInBounds_toArray, List.set_cons_zero, List.set_cons_succ]); exact rfl) : K' a w := hK.out _ _ g (e ▸ h)
end
section
variable {Q:Exit→Act→World→Prop} {md:Region.Mode}
def Tells (P:Program) (ops:Array Oper) (S:World→Prop) (o:Oper) (v:Value) (a:Act):Prop:=
 Region.wanted o (yielded ops a.tmps)=true∧∀ w,S w→∃ f args,(execOp a.eval o).run P w=.ok (.enter f args) w∧Calls P f args w fun e w'=>e=.returned v∧w=w'
theorem tells_now (hi:ops[i]? = some o) (hy:Tells P ops S o v a) (hS:S w) (h:K (a.put o.dst v) w):wpOp P ops Q i K a w:=by
 obtain ⟨h1,h2⟩:=hy
 obtain ⟨f,args,h3,h4⟩:=h2 w hS
 unfold wpOp
 simp only [hi,h1,if_true,Oper.wp,h3,Oper.upon]
 exact .inl (h4.mono fun e w' ⟨he,hw⟩=>by subst he;subst hw;exact h)
theorem wpOp_swap {d:Option Tmp} (hj:ops[j]? = some oj) (h1:∀ t,d=some t→t∉oj.looksAt ops) (h2:∀ t,d=some t→oj.dst≠some t)
 (hs:∀ cs b,oj.op≠.select cs b) (hQ:∀ c a w,Q (.panic c) (a.put d v) w→Q (.panic c) a w) (h:wpOp P ops Q j K (a.put d v) w):
 wpOp P ops Q j (fun a' w'=>(∃ ds u,a'=Act.put {a with defers:=ds} oj.dst u)∧K (a'.put d v) w') a w:=by
 unfold wpOp at*
 simp only [hj] at*
 rw [wanted_put oj a d v h1] at h
 by_cases hw:Region.wanted oj (yielded ops a.tmps)=true
 · rw [if_pos hw] at h ⊢
   rcases h with h|⟨hk,hl⟩
   · left
     unfold Oper.wp at*
     rw [execOp_put oj hs a d v h1] at h
     revert h
     cases (execOp a.eval oj).run P w with
     | ok n w'=>
      cases n with
      | value u=>intro h;exact ⟨⟨a.defers,u,rfl⟩,by rw [←Act.put_comm a v u h2];exact h⟩
      | skip=>intro h;exact ⟨⟨a.defers,undef,rfl⟩,by rw [←Act.put_comm a v undef h2];exact h⟩
      | defer x=>intro h;exact ⟨⟨x::a.defers,undef,rfl⟩,by rw [←Act.put_comm _ v undef h2,←Act.put_defers];exact h⟩
      | enter f args=>
       intro h
       refine Calls.mono h fun e w'' he=>?_
       cases e with
       | returned u=>exact ⟨⟨a.defers,u,rfl⟩,by rw [←Act.put_comm a v u h2];exact he⟩
       | panicked c=>exact hQ _ _ _ he
       | outgrown=>exact he
      | row row args=>intro h;exact Rows.mono h fun u w'' he=>⟨⟨a.defers,u,rfl⟩,by rw [←Act.put_comm a v u h2];exact he⟩
      | _=>exact fun h=>h
     | halt x w'=>
      cases x with
      | panic u=>intro h;exact hQ _ _ _ h
      | _=>exact fun h=>h
   · right
     exact ⟨by unfold Oper.asks at *;rw [execOp_put oj hs a d v h1] at hk;exact hk,hl⟩
 · rw [if_neg hw] at h ⊢
   exact ⟨⟨a.defers,undef,rfl⟩,by rw [←Act.put_comm a v undef h2];exact h⟩
theorem Tells.still (hs:∀ cs b,o.op≠.select cs b) (h3:∀ d,oj.dst=some d→d∉o.looksAt ops) (hy:Tells P ops S o v a) (ds:List Deferred) (u:Value):Tells P ops S o v (Act.put {a with defers:=ds} oj.dst u):=by
 unfold Tells at*
 rw [execOp_put o hs {a with defers:=ds} oj.dst u h3,wanted_put o {a with defers:=ds} oj.dst u h3]
 exact hy
theorem tells_first (hi:ops[i]? = some oi) (hsel:∀ (j:Nat) (o:Oper) cs b,ops[j]? = some o→o.op≠.select cs b)
 (hQ:∀ c a w,Q (.panic c) (a.put oi.dst v) w→Q (.panic c) a w):∀ (fuel:Nat) (listed:Array Bool) (a:Act) (w:World),
   (∀ j oj,ops[j]? = some oj→j≠i→listed.getD j true=false→(∀ e∈oj.after,Region.binds md e=true→e.on≠i)→oi.apart ops oj=true)→
   i∈Region.ready md ops listed→Tells P ops S oi v a→S w→
   wpAnyH P md ops Q S fuel (listed.setIfInBounds i true) (a.put oi.dst v) w→wpAnyH P md ops Q S (fuel+1) listed a w:=by
 intro fuel
 induction fuel with
 | zero=>
  intro listed a w _ hr hy hS H
  refine ⟨fun h=>absurd hr (by rw [h];simp),fun j hj=>?_⟩
  by_cases e:j=i
  · subst e;exact tells_now hi hy hS ⟨hS,H⟩
  · have:=ready_mono hj e
    rw [H.1] at this
    exact absurd this (by simp)
 | succ fuel ih=>
  intro listed a w hfree hr hy hS H
  refine ⟨fun h=>absurd hr (by rw [h];simp),fun j hj=>?_⟩
  by_cases e:j=i
  · subst e;exact tells_now hi hy hS ⟨hS,H⟩
  · obtain ⟨hun,oj,hoj,hall⟩:=mem_ready.1 hj
    have hno:∀ x∈oj.after,Region.binds md x=true→x.on≠i:=fun x hx hb hxi=>by
     have b1:=hall x hx hb
     have b0:=(mem_ready.1 hr).1
     rw [hxi] at b1
     rcases Nat.lt_or_ge i listed.size with hl|hl
     · simp [hl] at b0 b1;rw [b0] at b1;cases b1
     · simp [Array.getElem?_eq_none hl] at b1
    obtain ⟨p1,p2,p3⟩:=Oper.apart_spec (hfree j oj hoj e hun hno)
    have h2:=wpOp_swap hoj p1 p2 (fun cs b=>hsel j oj cs b hoj) hQ (H.2 j (ready_mono hj e))
    refine wpOp_mono (fun a' w' h3=>?_) h2
    obtain ⟨⟨ds,u,rfl⟩,hS',h4⟩:=h3
    refine ⟨hS',ih (listed.setIfInBounds j true) _ w' (fun k ok hk hki hku hkn=>hfree k ok hk hki ?_ hkn) (ready_mono hr (Ne.symm e)) (hy.still (fun cs b=>hsel i oi cs b hi) p3 ds u) hS' ?_⟩
    · by_cases hjk:j=k
      · subst hjk;exact hun
      · rw [getD_set_ne true hjk] at hku;exact hku
    · rw [Array.setIfInBounds_comm _ _ e];exact h4
theorem dV (hi:ops[i]? = some oi) (hs:Region.noSelect ops=true) (hf:Region.free md ops listed i=true) (hr:(Region.ready md ops listed).contains i=true)
 (hQ:∀ c a w,Q (.panic c) (a.put oi.dst v) w→Q (.panic c) a w) (hy:Tells P ops S oi v a) (hS:S w)
 (h:wpAnyH P md ops Q S fuel (listed.setIfInBounds i true) (a.put oi.dst v) w):wpAnyH P md ops Q S (fuel+1) listed a w:=
 tells_first hi (Region.noSelect_spec hs) hQ fuel listed a w (Region.free_spec hi hf) (by simpa using hr) hy hS h
end
section
variable {Q:Exit→Act→World→Prop}
def Exit.via (F:Nat→Option Code) (P:Program) (Q:Exit→Act→World→Prop):Nat→Exit→Act→World→Prop
 | 0,.goto _,_,_=>False
 | n+1,.goto l,a,w=>∃ rest,F l=some rest∧rest.wp P (Exit.via F P Q n) a w
 | _,e,a,w=>Q e a w
theorem aI {F:Nat→Option Code}:Exit.via F P Q n .ret a w=Q .ret a w:=by cases n<;>rfl
theorem aO {F:Nat→Option Code}:Exit.via F P Q n .normal a w=Q .normal a w:=by cases n<;>rfl
theorem aV {F:Nat→Option Code} {ch:List PanicEntry}:Exit.via F P Q n (.panic ch) a w=Q (.panic ch) a w:=by cases n<;>rfl
theorem bA (n:Nat) {c:Code} (h:∀ F:Nat→Option Code,Hid (F=findLabel c)→c.wp P (Exit.via F P Q n) a w):(Code.scope c).wp P Q a w:=by
 intro b k cs
 have key:∀ n (rest:Code) a w,rest.wp P (Exit.via (findLabel c) P Q n) a w→∃ e a' w',Q e a' w'∧Arrives P (lone (b.at a (.code rest::.inScope c::k)) cs w) b k cs e a' w':=by
  intro n
  induction n with
  | zero=>
   intro rest a w hr
   obtain ⟨e,a₁,w₁,hq,harr⟩:=hr b (.inScope c::k) cs
   cases e with
   | normal=>exact ⟨.normal,a₁,w₁,hq,Steps.trans harr (.one step_inScope)⟩
   | exit id=>exact ⟨.exit id,a₁,w₁,hq,fun k' hk=>harr k' (by simp [exitTo,hk])⟩
   | goto l=>exact hq.elim
   | ret=>exact ⟨_,a₁,w₁,hq,harr⟩
   | panic ch=>exact ⟨_,a₁,w₁,hq,harr⟩
   | outgrown=>exact ⟨_,a₁,w₁,hq,harr⟩
  | succ n ih=>
   intro rest a w hr
   obtain ⟨e,a₁,w₁,hq,harr⟩:=hr b (.inScope c::k) cs
   cases e with
   | normal=>exact ⟨.normal,a₁,w₁,hq,Steps.trans harr (.one step_inScope)⟩
   | exit id=>exact ⟨.exit id,a₁,w₁,hq,fun k' hk=>harr k' (by simp [exitTo,hk])⟩
   | goto l=>
    obtain ⟨rest',hl,hw⟩:=hq
    have hg:gotoIn l (.inScope c::k)=some (.code rest'::.inScope c::k):=by simp [gotoIn,hl]
    obtain ⟨e₂,a₂,w₂,hq₂,harr₂⟩:=ih rest' a₁ w₁ hw
    exact ⟨e₂,a₂,w₂,hq₂,.of_steps (harr _ hg) harr₂⟩
   | ret=>exact ⟨_,a₁,w₁,hq,harr⟩
   | panic ch=>exact ⟨_,a₁,w₁,hq,harr⟩
   | outgrown=>exact ⟨_,a₁,w₁,hq,harr⟩
 obtain ⟨e,a₁,w₁,hq,harr⟩:=key n c a w (h _ (zz rfl))
 exact ⟨e,a₁,w₁,hq,.of_steps (.one step_scope) harr⟩
end
end Go.Proofs.YtgcmiahhkalfmaaGreat
