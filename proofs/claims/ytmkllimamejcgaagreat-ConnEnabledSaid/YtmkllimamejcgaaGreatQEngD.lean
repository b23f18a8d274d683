/- Part of the proof. -/
import Derived.Test.YtmkllimamejcgaaGreatQEng9
namespace Go.Proofs.YtmkllimamejcgaaGreat
set_option linter.all false
open Go.RowKit
theorem ME{n:Nat}(E:Env){d:Nat}(e:my)(h:d<n):valOf (E.put n (some d) e) d=some e.val:=by
 unfold Env.put
 have:Nat.blt d n=true:=Nat.ble_eq_true_of_le h
 simp only[this]
 rw[M8,if_pos rfl]
theorem Dq{E:Env}{x:Operand}{e:my}(h:E.l7 x=some e):E.has x=true:=by simp[Env.has,h]
section
variable {P:Program} {T:List Bool} {n:Nat}
theorem cIo(hT:Calls.uu P T){o:Oper}(hf:mi P o.op=true){E:Env}{w:World}{K:Env->Prop}(h:wG P T n o E w λE' _=>K E'):
  ∃E' v,K E'/\lh o.dst E E'/\(∀d,o.dst=some d->d<n->valOf E' d=some v)/\(tB P o.op=true->∀x∈jw o.op,E.has x=true) /\
   ∀w',(tB P o.op=true->w'=w)->∀ρ:Operand->Value,(∀f,ρ (.func f)= .func (.func f) #[] #[])->(∀x∈jw o.op,E.has x=true->ρ x=E.ev x)->kH P (execOp ρ o) w' (QK w' v):=by
 have oU:∀(E0:Env) (x:Operand),lh none E E0->ug n E0 o.dst (E0.l7 x) K->∃e,E0.l7 x=some e/\K (E0.put n o.dst e)/\lh o.dst E (E0.put n o.dst e)/\(∀d,o.dst=some d->d<n->valOf (E0.put n o.dst e) d=some e.val):=by
  intro E0 x h0 h
  unfold ug at h
  split at h
  ·rename_i e he
   exact⟨e,he,h,h0.Ev.trans (lh.put n E0 o.dst e),λd hd hn=>(by rw[hd];exact ME E0 e hn)⟩
  ·exact h.elim
 unfold wG at h
 split at h
 ·rename_i x j6
  obtain⟨e,he,h1,h2,h3⟩:=oU E x (.refl _ _) h
  refine⟨_,e.val,h1,h2,h3,λiP=>(by rw[j6]at iP;cases iP),λw' _ ρ _ hρ=>.inl ⟨e.val,w',?_,rfl,rfl⟩⟩
  have:=hρ x (by rw[j6];simp[jw]) (Dq he)
  rw[Dp he]at this
  simp[execOp,j6,this]
 ·rename_i x j6;rw[j6]at hf;cases hf
 ·rename_i c x y j6
  have key:∀(r:Bool) (E0:Env) (z:Operand),E.has c=true->E.ev c= .bool r->lh none E E0->(z=if r then x else y)->ug n E0 o.dst (E0.l7 z) K->∃E' v,K E'/\lh o.dst E E'/\(∀d,o.dst=some d->d<n->valOf E' d=some v)/\(tB P o.op=true->∀x∈jw o.op,E.has x=true) /\
    ∀w',(tB P o.op=true->w'=w)->∀ρ:Operand->Value,(∀f,ρ (.func f)= .func (.func f) #[] #[])->(∀x∈jw o.op,E.has x=true->ρ x=E.ev x)->kH P (execOp ρ o) w' (QK w' v):=by
   intro r E0 z hc hr h0 hz h
   obtain⟨e,he,h1,h2,h3⟩:=oU E0 z h0 h
   refine⟨_,e.val,h1,h2,h3,λiP=>(by rw[j6]at iP;cases iP),λw' _ ρ _ hρ=>.inl ⟨e.val,w',?_,rfl,rfl⟩⟩
   have hzm:z∈jw o.op:=by rw[j6,hz];cases r<;>simp[jw]
   have hs:∀t,z= .tmp t->valOf E0 t=valOf E t:=λt _=>h0 t (by simp)
   have e1:=hρ c (by rw[j6];simp[jw]) hc
   have e2:=hρ z hzm (by rw[<- Fu hs];exact Dq he)
   rw[<- Kh hs,Dp he]at e2
   rw[hr]at e1
   cases r with
   | true=>simp only[if_true]at hz;subst hz;simp[execOp,j6,e1,asBool,e2]
   | false=>simp only[Bool.false_eq_true,if_false]at hz;subst hz;simp[execOp,j6,e1,asBool,e2]
  split at h
  ·rename_i hc;exact key true E x (Dq hc) (Dp hc) (.refl _ _) rfl h
  ·rename_i hc;exact key false E y (Dq hc) (Dp hc) (.refl _ _) rfl h
  ·rename_i v hc
   obtain⟨r,rfl,h1,h2⟩:=h
   cases r with
   | true=>exact key true _ x (Dq hc) (Dp hc) (lh.rW hc rfl) rfl (h1 rfl)
   | false=>exact key false _ y (Dq hc) (Dp hc) (lh.rW hc rfl) rfl (h2 rfl)
  ·exact h.elim
  ·exact h.elim
 ·split at h
  ·rename_i hh
   obtain⟨v,h1,h2⟩:=Ks o.op hf h
   refine⟨_,v,h1,lh.put n E o.dst _,λd hd hn=>(by rw[hd];exact ME E _ hn),λ_ x hx=>Env.HE hh x hx,λw' hw ρ hF hρ=>?_⟩
   exact Ml hT hF (λx hx=>hρ x hx (Env.HE hh x hx)) (h2 w' hw)
  ·exact h.elim
theorem Ix{ops:List Oper}{o:Oper}{x:Operand}{t:Nat}(hx:x∈jw o.op)(ht:x= .tmp t):t∈looks ops o:=by
 unfold looks
 refine List.mem_append_left _ (List.mem_filterMap.2 ⟨x,hx,?_⟩)
 rw[ht]
theorem Xa{ops:List Oper}{o:Oper}{j:Nat}{want:Bool}{s:Nat}(hg:o.guard=some (j,want))(hs:(ops[j]?).bind (·.dst)=some s):s∈looks ops o:=by
 unfold looks
 rw[hg]
 refine List.mem_append_right _ ?_
 simp[hs]
theorem sO.same{ops:List Oper}{o:Oper}{E E':Env}{r:Bool}(h:sO ops o E r)(hs:∀t∈looks ops o,valOf E' t=valOf E t):sO ops o E' r:=by
 unfold sO at h ⊢
 cases hg:o.guard with
 | none=>simp only[hg]at h ⊢;exact h
 | some p=>
  obtain⟨j,want⟩:=p
  simp only[hg]at h ⊢
  obtain⟨s,b,h1,h2,h3⟩:=h
  exact⟨s,b,h1,by rw[hs s (Xa hg h1)];exact h2,h3⟩
theorem ZF(hT:Calls.uu P T){ops:List Oper}{w:World}{K:Env->Prop}:∀(js:List Nat) (E:Env),(∀j∈js,∀o,ops[j]?=some o->mi P o.op=true/\∀d,o.dst=some d->d∉looks ops o) ->
  js.Pairwise (λj k=>∀oj ok d,ops[j]?=some oj->ops[k]?=some ok->ok.dst=some d->d∉looks ops oj/\oj.dst≠some d)->Dt P T n ops w K js E ->
  ∃E',K E'/\(∀t,(∀j∈js,∀o,ops[j]?=some o->o.dst≠some t)->valOf E' t=valOf E t)/\∀j∈js,∀o,ops[j]?=some o->∃r v,AE P ops n o E' w r v
 | [],E,_,_,h=>⟨E,h,λ_ _=>rfl,λj hj=>by cases hj⟩
 | j::js,E,hf,hp,h=>by
  unfold Dt at h
  split at h
  ·rename_i o ho
   obtain⟨hfo,Ls⟩:=hf j (by simp) o ho
   obtain⟨sW,uS⟩:=List.pairwise_cons.1 hp
   have first:∃E1 r v,Dt P T n ops w K js E1/\lh o.dst E E1/\AE P ops n o E1 w r v:=by
    obtain⟨E0,h0,⟨hw,h⟩|⟨hw,h⟩⟩:=Ku h
    ·obtain⟨E1,v,k1,k2,k3,k4,k5⟩:=cIo hT hfo h
     have hs:lh o.dst E E1:=h0.Ev.trans k2
     have DJ:∀t∈looks ops o,valOf E1 t=valOf E t:=λt ht=>hs t (λhd=>Ls t hd ht)
     have La:∀t∈looks ops o,valOf E1 t=valOf E0 t:=λt ht=>k2 t (λhd=>Ls t hd ht)
     refine⟨E1,true,v,k1,hs,hw.same DJ,k3,λ_ iP x hx=>?_,λh=>(by cases h),λ_ w' CF ρ hF hρ=>?_⟩
     ·rw[Fu (λt ht=>La t (Ix hx ht))];exact k4 iP x hx
     ·refine k5 w' CF ρ hF (λx hx hh=>?_)
      have e1:=Fu (x:=x) (λt ht=>La t (Ix hx ht))
      rw[hρ x hx (by rw[e1];exact hh)]
      exact Kh (λt ht=>La t (Ix hx ht))
    ·have hs:lh o.dst E (E0.put n o.dst .u):=h0.Ev.trans (lh.put n E0 o.dst _)
     refine⟨_,false,undef,h,hs,hw.same (λt ht=>hs t (λhd=>Ls t hd ht)),λd hd hn=>(by rw[hd];exact ME E0 _ hn),λh=>(by cases h),λ_=>rfl,λh=>(by cases h)⟩
   obtain⟨E1,r,v,k1,k2,k3⟩:=first
   obtain⟨E',q1,q2,q3⟩:=ZF hT js E1 (λk hk=>hf k (by simp[hk])) uS k1
   refine⟨E',q1,λt ht=>?_,λk hk ok eW=>?_⟩
   ·rw[q2 t (λk hk=>ht k (by simp[hk])),k2 t (ht j (by simp) o ho)]
   ·rcases List.mem_cons.1 hk with rfl|hk
    ·rw[ho]at eW;cases eW
     refine⟨r,v,k3.mono (λt ht=>q2 t (λk hk ok eW hd=>?_)) (λd hd=>q2 d (λk hk ok eW sm=>?_)) (λ_=>rfl)⟩
     ·exact (sW k hk _ ok t ho eW hd).1 ht
     ·exact (sW k hk _ ok d ho eW sm).2 hd
    ·exact q3 k hk ok eW
  ·exact h.elim
theorem Zb{ops:List Oper}{E:Env}{w:World}{R:Prop}:∀(js:List Nat),(∀j∈js,∀o,ops[j]?=some o->mi P o.op=true)->Ee P T ops E w R js ->
  R/\∀j∈js,∀o,ops[j]?=some o->sO ops o E true->∃d e,o.dst=some d/\E.get d=some e/\j8 P T o.op o.type E.ev w λv _=>v=e.val
 | [],_,h=>⟨h,λj hj=>by cases hj⟩
 | j::js,hf,h=>by
  have Vz:∀k∈js,∀o,ops[k]?=some o->mi P o.op=true:=λk hk=>hf k (by simp[hk])
  unfold Ee at h
  split at h
  ·rename_i o ho
   obtain⟨E0,h0,⟨hw,h⟩|⟨hw,h⟩⟩:=Ku h
   ·unfold reP at h
    split at h
    ·rename_i d hd
     split at h
     ·rename_i e he
      have h1:j8 P T o.op o.type E.ev w λv _=>v=e.val:=XX _ h λv _ x=>x.1
      have h2:Ee P T ops E w R js:=by
       obtain⟨v,x,_⟩:=Ks o.op (hf j (by simp) o ho) h
       exact x.2
      obtain⟨r1,r2⟩:=Zb js Vz h2
      refine⟨r1,λk hk ok eW Ij=>?_⟩
      rcases List.mem_cons.1 hk with rfl|hk
      ·rw[ho]at eW;cases eW;exact⟨d,e,hd,he,h1⟩
      ·exact r2 k hk ok eW Ij
     ·exact h.elim
    ·exact h.elim
   ·obtain⟨r1,r2⟩:=Zb js Vz h
    refine⟨r1,λk hk ok eW Ij=>?_⟩
    rcases List.mem_cons.1 hk with rfl|hk
    ·rw[ho]at eW;cases eW
     have:=hw.unique Ij;cases this
    ·exact r2 k hk ok eW Ij
  ·exact h.elim
end
