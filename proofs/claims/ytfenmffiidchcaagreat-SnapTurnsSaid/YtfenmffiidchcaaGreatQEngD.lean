/- Part of the proof (my own). -/
import Derived.Test.YtfenmffiidchcaaGreatQEng9
namespace Go.Proofs.YtfenmffiidchcaaGreat
set_option linter.unusedVariables false
open Go.RowKit
theorem GD{n:Nat}(E:Env){d:Nat}(e:hJ)(h:d<n):valOf (E.put n (some d) e) d=some e.val:=by
 unfold Env.put
 have:Nat.blt d n=true:=Nat.ble_eq_true_of_le h
 simp only[this]
 rw[Hh,if_pos rfl]
theorem vE{E:Env}{x:Operand}{e:hJ}(h:E.gP x=some e):E.has x=true:=by simp[Env.has,h]
section
variable {P:Program} {T:List Bool} {n:Nat}
theorem VB(hT:Calls.nr P T){o:Oper}(hf:gR P o.op=true){E:Env}{w:World}{K:Env->Prop}(h:pD P T n o E w λE' _=>K E'):
  ∃E' v,K E'/\gb o.dst E E'/\(∀d,o.dst=some d->d<n->valOf E' d=some v)/\(mD P o.op=true->∀x∈ez o.op,E.has x=true) /\
   ∀w',(mD P o.op=true->w'=w)->∀ρ:Operand->Value,(∀f,ρ (.func f)= .func (.func f) #[] #[])->(∀x∈ez o.op,E.has x=true->ρ x=E.ev x)->fI P (execOp ρ o) w' (QK w' v):=by
 have j9:∀(E0:Env) (x:Operand),gb none E E0->m9 n E0 o.dst (E0.gP x) K->∃e,E0.gP x=some e/\K (E0.put n o.dst e)/\gb o.dst E (E0.put n o.dst e)/\(∀d,o.dst=some d->d<n->valOf (E0.put n o.dst e) d=some e.val):=by
  intro E0 x h0 h
  unfold m9 at h
  split at h
  ·rename_i e he
   exact⟨e,he,h,h0.wN.trans (gb.put n E0 o.dst e),λd hd hn=>(by rw[hd];exact GD E0 e hn)⟩
  ·exact h.elim
 unfold pD at h
 split at h
 ·rename_i x ff
  obtain⟨e,he,h1,h2,h3⟩:=j9 E x (.refl _ _) h
  refine⟨_,e.val,h1,h2,h3,λdE=>(by rw[ff]at dE;cases dE),λw' _ ρ _ hρ=>.inl ⟨e.val,w',?_,rfl,rfl⟩⟩
  have:=hρ x (by rw[ff];simp[ez]) (vE he)
  rw[vD he]at this
  simp[execOp,ff,this]
 ·rename_i x ff;rw[ff]at hf;cases hf
 ·rename_i c x y ff
  have key:∀(r:Bool) (E0:Env) (z:Operand),E.has c=true->E.ev c= .bool r->gb none E E0->(z=if r then x else y)->m9 n E0 o.dst (E0.gP z) K->∃E' v,K E'/\gb o.dst E E'/\(∀d,o.dst=some d->d<n->valOf E' d=some v)/\(mD P o.op=true->∀x∈ez o.op,E.has x=true) /\
    ∀w',(mD P o.op=true->w'=w)->∀ρ:Operand->Value,(∀f,ρ (.func f)= .func (.func f) #[] #[])->(∀x∈ez o.op,E.has x=true->ρ x=E.ev x)->fI P (execOp ρ o) w' (QK w' v):=by
   intro r E0 z hc hr h0 hz h
   obtain⟨e,he,h1,h2,h3⟩:=j9 E0 z h0 h
   refine⟨_,e.val,h1,h2,h3,λdE=>(by rw[ff]at dE;cases dE),λw' _ ρ _ hρ=>.inl ⟨e.val,w',?_,rfl,rfl⟩⟩
   have As:z∈ez o.op:=by rw[ff,hz];cases r<;>simp[ez]
   have hs:∀t,z= .tmp t->valOf E0 t=valOf E t:=λt _=>h0 t (by simp)
   have e1:=hρ c (by rw[ff];simp[ez]) hc
   have e2:=hρ z As (by rw[<- xG hs];exact vE he)
   rw[<- Ec hs,vD he]at e2
   rw[hr]at e1
   cases r with
   | true=>simp only[if_true]at hz;subst hz;simp[execOp,ff,e1,asBool,e2]
   | false=>simp only[Bool.false_eq_true,if_false]at hz;subst hz;simp[execOp,ff,e1,asBool,e2]
  split at h
  ·rename_i hc;exact key true E x (vE hc) (vD hc) (.refl _ _) rfl h
  ·rename_i hc;exact key false E y (vE hc) (vD hc) (.refl _ _) rfl h
  ·rename_i v hc
   obtain⟨r,rfl,h1,h2⟩:=h
   cases r with
   | true=>exact key true _ x (vE hc) (vD hc) (gb.lq hc rfl) rfl (h1 rfl)
   | false=>exact key false _ y (vE hc) (vD hc) (gb.lq hc rfl) rfl (h2 rfl)
  ·exact h.elim
  ·exact h.elim
 ·split at h
  ·rename_i hh
   obtain⟨v,h1,h2⟩:=Eo o.op hf h
   refine⟨_,v,h1,gb.put n E o.dst _,λd hd hn=>(by rw[hd];exact GD E _ hn),λ_ x hx=>Env.BL hh x hx,λw' hw ρ hF hρ=>?_⟩
   exact Gr hT hF (λx hx=>hρ x hx (Env.BL hh x hx)) (h2 w' hw)
  ·exact h.elim
theorem Cp{ops:List Oper}{o:Oper}{x:Operand}{t:Nat}(hx:x∈ez o.op)(ht:x= .tmp t):t∈looks ops o:=by
 unfold looks
 refine List.mem_append_left _ (List.mem_filterMap.2 ⟨x,hx,?_⟩)
 rw[ht]
theorem PW{ops:List Oper}{o:Oper}{j:Nat}{want:Bool}{s:Nat}(hg:o.guard=some (j,want))(hs:(ops[j]?).bind (·.dst)=some s):s∈looks ops o:=by
 unfold looks
 rw[hg]
 refine List.mem_append_right _ ?_
 simp[hs]
theorem lX.same{ops:List Oper}{o:Oper}{E E':Env}{r:Bool}(h:lX ops o E r)(hs:∀t∈looks ops o,valOf E' t=valOf E t):lX ops o E' r:=by
 unfold lX at h ⊢
 cases hg:o.guard with
 | none=>simp only[hg]at h ⊢;exact h
 | some p=>
  obtain⟨j,want⟩:=p
  simp only[hg]at h ⊢
  obtain⟨s,b,h1,h2,h3⟩:=h
  exact⟨s,b,h1,by rw[hs s (PW hg h1)];exact h2,h3⟩
theorem ZH(hT:Calls.nr P T){ops:List Oper}{w:World}{K:Env->Prop}:∀(js:List Nat) (E:Env),(∀j∈js,∀o,ops[j]?=some o->gR P o.op=true/\∀d,o.dst=some d->d∉looks ops o) ->
  js.Pairwise (λj k=>∀oj ok d,ops[j]?=some oj->ops[k]?=some ok->ok.dst=some d->d∉looks ops oj/\oj.dst≠some d)->vH P T n ops w K js E ->
  ∃E',K E'/\(∀t,(∀j∈js,∀o,ops[j]?=some o->o.dst≠some t)->valOf E' t=valOf E t)/\∀j∈js,∀o,ops[j]?=some o->∃r v,sD P ops n o E' w r v
 | [],E,_,_,h=>⟨E,h,λ_ _=>rfl,λj hj=>by cases hj⟩
 | j::js,E,hf,hp,h=>by
  unfold vH at h
  split at h
  ·rename_i o ho
   obtain⟨WA,Fz⟩:=hf j (by simp) o ho
   obtain⟨pj,p_⟩:=List.pairwise_cons.1 hp
   have first:∃E1 r v,vH P T n ops w K js E1/\gb o.dst E E1/\sD P ops n o E1 w r v:=by
    obtain⟨E0,h0,⟨hw,h⟩|⟨hw,h⟩⟩:=Et h
    ·obtain⟨E1,v,k1,k2,k3,k4,k5⟩:=VB hT WA h
     have hs:gb o.dst E E1:=h0.wN.trans k2
     have vU:∀t∈looks ops o,valOf E1 t=valOf E t:=λt ht=>hs t (λhd=>Fz t hd ht)
     have Fe:∀t∈looks ops o,valOf E1 t=valOf E0 t:=λt ht=>k2 t (λhd=>Fz t hd ht)
     refine⟨E1,true,v,k1,hs,hw.same vU,k3,λ_ dE x hx=>?_,λh=>(by cases h),λ_ w' Ao ρ hF hρ=>?_⟩
     ·rw[xG (λt ht=>Fe t (Cp hx ht))];exact k4 dE x hx
     ·refine k5 w' Ao ρ hF (λx hx hh=>?_)
      have e1:=xG (x:=x) (λt ht=>Fe t (Cp hx ht))
      rw[hρ x hx (by rw[e1];exact hh)]
      exact Ec (λt ht=>Fe t (Cp hx ht))
    ·have hs:gb o.dst E (E0.put n o.dst .u):=h0.wN.trans (gb.put n E0 o.dst _)
     refine⟨_,false,undef,h,hs,hw.same (λt ht=>hs t (λhd=>Fz t hd ht)),λd hd hn=>(by rw[hd];exact GD E0 _ hn),λh=>(by cases h),λ_=>rfl,λh=>(by cases h)⟩
   obtain⟨E1,r,v,k1,k2,k3⟩:=first
   obtain⟨E',q1,q2,q3⟩:=ZH hT js E1 (λk hk=>hf k (by simp[hk])) p_ k1
   refine⟨E',q1,λt ht=>?_,λk hk ok b5=>?_⟩
   ·rw[q2 t (λk hk=>ht k (by simp[hk])),k2 t (ht j (by simp) o ho)]
   ·rcases List.mem_cons.1 hk with rfl|hk
    ·rw[ho]at b5;cases b5
     refine⟨r,v,k3.mono (λt ht=>q2 t (λk hk ok b5 hd=>?_)) (λd hd=>q2 d (λk hk ok b5 p6=>?_)) (λ_=>rfl)⟩
     ·exact (pj k hk _ ok t ho b5 hd).1 ht
     ·exact (pj k hk _ ok d ho b5 p6).2 hd
    ·exact q3 k hk ok b5
  ·exact h.elim
theorem Ze{ops:List Oper}{E:Env}{w:World}{R:Prop}:∀(js:List Nat),(∀j∈js,∀o,ops[j]?=some o->gR P o.op=true)->wB P T ops E w R js ->
  R/\∀j∈js,∀o,ops[j]?=some o->lX ops o E true->∃d e,o.dst=some d/\E.get d=some e/\fj P T o.op o.type E.ev w λv _=>v=e.val
 | [],_,h=>⟨h,λj hj=>by cases hj⟩
 | j::js,hf,h=>by
  have Ox:∀k∈js,∀o,ops[k]?=some o->gR P o.op=true:=λk hk=>hf k (by simp[hk])
  unfold wB at h
  split at h
  ·rename_i o ho
   obtain⟨E0,h0,⟨hw,h⟩|⟨hw,h⟩⟩:=Et h
   ·unfold RU at h
    split at h
    ·rename_i d hd
     split at h
     ·rename_i e he
      have h1:fj P T o.op o.type E.ev w λv _=>v=e.val:=Rw _ h λv _ x=>x.1
      have h2:wB P T ops E w R js:=by
       obtain⟨v,x,_⟩:=Eo o.op (hf j (by simp) o ho) h
       exact x.2
      obtain⟨r1,r2⟩:=Ze js Ox h2
      refine⟨r1,λk hk ok b5 B'=>?_⟩
      rcases List.mem_cons.1 hk with rfl|hk
      ·rw[ho]at b5;cases b5;exact⟨d,e,hd,he,h1⟩
      ·exact r2 k hk ok b5 B'
     ·exact h.elim
    ·exact h.elim
   ·obtain⟨r1,r2⟩:=Ze js Ox h
    refine⟨r1,λk hk ok b5 B'=>?_⟩
    rcases List.mem_cons.1 hk with rfl|hk
    ·rw[ho]at b5;cases b5
     have:=hw.unique B';cases this
    ·exact r2 k hk ok b5 B'
  ·exact h.elim
end
end Go.Proofs.YtfenmffiidchcaaGreat
