/- Part of the proof. -/
import Derived.Test.YtmkllimamejcgaaGreatQEng9
namespace Go.Proofs.YtmkllimamejcgaaGreat
set_option linter.all false
open Go.RowKit
theorem Ka{n:Nat}(E:Env){d:Nat}(e:iz)(h:d<n):valOf (E.put n (some d) e) d=some e.val:=by
 unfold Env.put
 have:Nat.blt d n=true:=Nat.ble_eq_true_of_le h
 simp only[this]
 rw[KG,if_pos rfl]
theorem Av{E:Env}{x:Operand}{e:iz}(h:E.gU x=some e):E.has x=true:=by simp[Env.has,h]
section
variable {P:Program} {T:List Bool} {n:Nat}
theorem bFh(hT:Calls.pk P T){o:Oper}(hf:ic P o.op=true){E:Env}{w:World}{K:Env->Prop}(h:sI P T n o E w λE' _=>K E'):
  ∃E' v,K E'/\fZ o.dst E E'/\(∀d,o.dst=some d->d<n->valOf E' d=some v)/\(ow P o.op=true->∀x∈dX o.op,E.has x=true) /\
   ∀w',(ow P o.op=true->w'=w)->∀ρ:Operand->Value,(∀f,ρ (.func f)= .func (.func f) #[] #[])->(∀x∈dX o.op,E.has x=true->ρ x=E.ev x)->fG P (execOp ρ o) w' (QK w' v):=by
 have ky:∀(E0:Env) (x:Operand),fZ none E E0->pa n E0 o.dst (E0.gU x) K->∃e,E0.gU x=some e/\K (E0.put n o.dst e)/\fZ o.dst E (E0.put n o.dst e)/\(∀d,o.dst=some d->d<n->valOf (E0.put n o.dst e) d=some e.val):=by
  intro E0 x h0 h
  unfold pa at h
  split at h
  ·rename_i e he
   exact⟨e,he,h,h0.BD.trans (fZ.put n E0 o.dst e),λd hd hn=>(by rw[hd];exact Ka E0 e hn)⟩
  ·exact h.elim
 unfold sI at h
 split at h
 ·rename_i x eY
  obtain⟨e,he,h1,h2,h3⟩:=ky E x (.refl _ _) h
  refine⟨_,e.val,h1,h2,h3,λdH=>(by rw[eY]at dH;cases dH),λw' _ ρ _ hρ=>.inl ⟨e.val,w',?_,rfl,rfl⟩⟩
  have:=hρ x (by rw[eY];simp[dX]) (Av he)
  rw[Au he]at this
  simp[execOp,eY,this]
 ·rename_i x eY;rw[eY]at hf;cases hf
 ·rename_i c x y eY
  have key:∀(r:Bool) (E0:Env) (z:Operand),E.has c=true->E.ev c= .bool r->fZ none E E0->(z=if r then x else y)->pa n E0 o.dst (E0.gU z) K->∃E' v,K E'/\fZ o.dst E E'/\(∀d,o.dst=some d->d<n->valOf E' d=some v)/\(ow P o.op=true->∀x∈dX o.op,E.has x=true) /\
    ∀w',(ow P o.op=true->w'=w)->∀ρ:Operand->Value,(∀f,ρ (.func f)= .func (.func f) #[] #[])->(∀x∈dX o.op,E.has x=true->ρ x=E.ev x)->fG P (execOp ρ o) w' (QK w' v):=by
   intro r E0 z hc hr h0 hz h
   obtain⟨e,he,h1,h2,h3⟩:=ky E0 z h0 h
   refine⟨_,e.val,h1,h2,h3,λdH=>(by rw[eY]at dH;cases dH),λw' _ ρ _ hρ=>.inl ⟨e.val,w',?_,rfl,rfl⟩⟩
   have hzm:z∈dX o.op:=by rw[eY,hz];cases r<;>simp[dX]
   have hs:∀t,z= .tmp t->valOf E0 t=valOf E t:=λt _=>h0 t (by simp)
   have e1:=hρ c (by rw[eY];simp[dX]) hc
   have e2:=hρ z hzm (by rw[<- CF hs];exact Av he)
   rw[<- HJ hs,Au he]at e2
   rw[hr]at e1
   cases r with
   | true=>simp only[if_true]at hz;subst hz;simp[execOp,eY,e1,asBool,e2]
   | false=>simp only[Bool.false_eq_true,if_false]at hz;subst hz;simp[execOp,eY,e1,asBool,e2]
  split at h
  ·rename_i hc;exact key true E x (Av hc) (Au hc) (.refl _ _) rfl h
  ·rename_i hc;exact key false E y (Av hc) (Au hc) (.refl _ _) rfl h
  ·rename_i v hc
   obtain⟨r,rfl,h1,h2⟩:=h
   cases r with
   | true=>exact key true _ x (Av hc) (Au hc) (fZ.mF hc rfl) rfl (h1 rfl)
   | false=>exact key false _ y (Av hc) (Au hc) (fZ.mF hc rfl) rfl (h2 rfl)
  ·exact h.elim
  ·exact h.elim
 ·split at h
  ·rename_i hh
   obtain⟨v,h1,h2⟩:=HU o.op hf h
   refine⟨_,v,h1,fZ.put n E o.dst _,λd hd hn=>(by rw[hd];exact Ka E _ hn),λ_ x hx=>Env.EV hh x hx,λw' hw ρ hF hρ=>?_⟩
   exact JS hT hF (λx hx=>hρ x hx (Env.EV hh x hx)) (h2 w' hw)
  ·exact h.elim
theorem FL{ops:List Oper}{o:Oper}{x:Operand}{t:Nat}(hx:x∈dX o.op)(ht:x= .tmp t):t∈looks ops o:=by
 unfold looks
 refine List.mem_append_left _ (List.mem_filterMap.2 ⟨x,hx,?_⟩)
 rw[ht]
theorem Vc{ops:List Oper}{o:Oper}{j:Nat}{want:Bool}{s:Nat}(hg:o.guard=some (j,want))(hs:(ops[j]?).bind (·.dst)=some s):s∈looks ops o:=by
 unfold looks
 rw[hg]
 refine List.mem_append_right _ ?_
 simp[hs]
theorem ny.same{ops:List Oper}{o:Oper}{E E':Env}{r:Bool}(h:ny ops o E r)(hs:∀t∈looks ops o,valOf E' t=valOf E t):ny ops o E' r:=by
 unfold ny at h ⊢
 cases hg:o.guard with
 | none=>simp only[hg]at h ⊢;exact h
 | some p=>
  obtain⟨j,want⟩:=p
  simp only[hg]at h ⊢
  obtain⟨s,b,h1,h2,h3⟩:=h
  exact⟨s,b,h1,by rw[hs s (Vc hg h1)];exact h2,h3⟩
theorem ZG(hT:Calls.pk P T){ops:List Oper}{w:World}{K:Env->Prop}:∀(js:List Nat) (E:Env),(∀j∈js,∀o,ops[j]?=some o->ic P o.op=true/\∀d,o.dst=some d->d∉looks ops o) ->
  js.Pairwise (λj k=>∀oj ok d,ops[j]?=some oj->ops[k]?=some ok->ok.dst=some d->d∉looks ops oj/\oj.dst≠some d)->Ay P T n ops w K js E ->
  ∃E',K E'/\(∀t,(∀j∈js,∀o,ops[j]?=some o->o.dst≠some t)->valOf E' t=valOf E t)/\∀j∈js,∀o,ops[j]?=some o->∃r v,uT P ops n o E' w r v
 | [],E,_,_,h=>⟨E,h,λ_ _=>rfl,λj hj=>by cases hj⟩
 | j::js,E,hf,hp,h=>by
  unfold Ay at h
  split at h
  ·rename_i o ho
   obtain⟨hfo,I6⟩:=hf j (by simp) o ho
   obtain⟨nH,pQ⟩:=List.pairwise_cons.1 hp
   have first:∃E1 r v,Ay P T n ops w K js E1/\fZ o.dst E E1/\uT P ops n o E1 w r v:=by
    obtain⟨E0,h0,⟨hw,h⟩|⟨hw,h⟩⟩:=HW h
    ·obtain⟨E1,v,k1,k2,k3,k4,k5⟩:=bFh hT hfo h
     have hs:fZ o.dst E E1:=h0.BD.trans k2
     have AR:∀t∈looks ops o,valOf E1 t=valOf E t:=λt ht=>hs t (λhd=>I6 t hd ht)
     have IJ:∀t∈looks ops o,valOf E1 t=valOf E0 t:=λt ht=>k2 t (λhd=>I6 t hd ht)
     refine⟨E1,true,v,k1,hs,hw.same AR,k3,λ_ dH x hx=>?_,λh=>(by cases h),λ_ w' xC ρ hF hρ=>?_⟩
     ·rw[CF (λt ht=>IJ t (FL hx ht))];exact k4 dH x hx
     ·refine k5 w' xC ρ hF (λx hx hh=>?_)
      have e1:=CF (x:=x) (λt ht=>IJ t (FL hx ht))
      rw[hρ x hx (by rw[e1];exact hh)]
      exact HJ (λt ht=>IJ t (FL hx ht))
    ·have hs:fZ o.dst E (E0.put n o.dst .u):=h0.BD.trans (fZ.put n E0 o.dst _)
     refine⟨_,false,undef,h,hs,hw.same (λt ht=>hs t (λhd=>I6 t hd ht)),λd hd hn=>(by rw[hd];exact Ka E0 _ hn),λh=>(by cases h),λ_=>rfl,λh=>(by cases h)⟩
   obtain⟨E1,r,v,k1,k2,k3⟩:=first
   obtain⟨E',q1,q2,q3⟩:=ZG hT js E1 (λk hk=>hf k (by simp[hk])) pQ k1
   refine⟨E',q1,λt ht=>?_,λk hk ok cG=>?_⟩
   ·rw[q2 t (λk hk=>ht k (by simp[hk])),k2 t (ht j (by simp) o ho)]
   ·rcases List.mem_cons.1 hk with rfl|hk
    ·rw[ho]at cG;cases cG
     refine⟨r,v,k3.mono (λt ht=>q2 t (λk hk ok cG hd=>?_)) (λd hd=>q2 d (λk hk ok cG mR=>?_)) (λ_=>rfl)⟩
     ·exact (nH k hk _ ok t ho cG hd).1 ht
     ·exact (nH k hk _ ok d ho cG mR).2 hd
    ·exact q3 k hk ok cG
  ·exact h.elim
theorem Zc{ops:List Oper}{E:Env}{w:World}{R:Prop}:∀(js:List Nat),(∀j∈js,∀o,ops[j]?=some o->ic P o.op=true)->Bo P T ops E w R js ->
  R/\∀j∈js,∀o,ops[j]?=some o->ny ops o E true->∃d e,o.dst=some d/\E.get d=some e/\e_ P T o.op o.type E.ev w λv _=>v=e.val
 | [],_,h=>⟨h,λj hj=>by cases hj⟩
 | j::js,hf,h=>by
  have Ty:∀k∈js,∀o,ops[k]?=some o->ic P o.op=true:=λk hk=>hf k (by simp[hk])
  unfold Bo at h
  split at h
  ·rename_i o ho
   obtain⟨E0,h0,⟨hw,h⟩|⟨hw,h⟩⟩:=HW h
   ·unfold Wj at h
    split at h
    ·rename_i d hd
     split at h
     ·rename_i e he
      have h1:e_ P T o.op o.type E.ev w λv _=>v=e.val:=VV _ h λv _ x=>x.1
      have h2:Bo P T ops E w R js:=by
       obtain⟨v,x,_⟩:=HU o.op (hf j (by simp) o ho) h
       exact x.2
      obtain⟨r1,r2⟩:=Zc js Ty h2
      refine⟨r1,λk hk ok cG Fy=>?_⟩
      rcases List.mem_cons.1 hk with rfl|hk
      ·rw[ho]at cG;cases cG;exact⟨d,e,hd,he,h1⟩
      ·exact r2 k hk ok cG Fy
     ·exact h.elim
    ·exact h.elim
   ·obtain⟨r1,r2⟩:=Zc js Ty h
    refine⟨r1,λk hk ok cG Fy=>?_⟩
    rcases List.mem_cons.1 hk with rfl|hk
    ·rw[ho]at cG;cases cG
     have:=hw.unique Fy;cases this
    ·exact r2 k hk ok cG Fy
  ·exact h.elim
end
