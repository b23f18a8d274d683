/- Part of the proof (my own). -/
import Derived.Test.YtfenmffiidchcaaGreatQEng9
namespace Go.Proofs.YtfenmffiidchcaaGreat
set_option linter.unusedVariables false
open Go.RowKit
theorem IV{n:Nat}(E:Env){d:Nat}(e:lH)(h:d<n):valOf (E.put n (some d) e) d=some e.val:=by
 unfold Env.put
 have:Nat.blt d n=true:=Nat.ble_eq_true_of_le h
 simp only[this]
 rw[Ju,if_pos rfl]
theorem AF{E:Env}{x:Operand}{e:lH}(h:E.lk x=some e):E.has x=true:=by simp[Env.has,h]
section
variable {P:Program} {T:List Bool} {n:Nat}
theorem air(hT:Calls.sm P T){o:Oper}(hf:lu P o.op=true){E:Env}{w:World}{K:Env->Prop}(h:um P T n o E w λE' _=>K E'):
  ∃E' v,K E'/\kA o.dst E E'/\(∀d,o.dst=some d->d<n->valOf E' d=some v)/\(rl P o.op=true->∀x∈iU o.op,E.has x=true) /\
   ∀w',(rl P o.op=true->w'=w)->∀ρ:Operand->Value,(∀f,ρ (.func f)= .func (.func f) #[] #[])->(∀x∈iU o.op,E.has x=true->ρ x=E.ev x)->kg P (execOp ρ o) w' (QK w' v):=by
 have nK:∀(E0:Env) (x:Operand),kA none E E0->r7 n E0 o.dst (E0.lk x) K->∃e,E0.lk x=some e/\K (E0.put n o.dst e)/\kA o.dst E (E0.put n o.dst e)/\(∀d,o.dst=some d->d<n->valOf (E0.put n o.dst e) d=some e.val):=by
  intro E0 x h0 h
  unfold r7 at h
  split at h
  ·rename_i e he
   exact⟨e,he,h,h0.Bv.trans (kA.put n E0 o.dst e),λd hd hn=>(by rw[hd];exact IV E0 e hn)⟩
  ·exact h.elim
 unfold um at h
 split at h
 ·rename_i x i_
  obtain⟨e,he,h1,h2,h3⟩:=nK E x (.refl _ _) h
  refine⟨_,e.val,h1,h2,h3,λiA=>(by rw[i_]at iA;cases iA),λw' _ ρ _ hρ=>.inl ⟨e.val,w',?_,rfl,rfl⟩⟩
  have:=hρ x (by rw[i_];simp[iU]) (AF he)
  rw[AE he]at this
  simp[execOp,i_,this]
 ·rename_i x i_;rw[i_]at hf;cases hf
 ·rename_i c x y i_
  have key:∀(r:Bool) (E0:Env) (z:Operand),E.has c=true->E.ev c= .bool r->kA none E E0->(z=if r then x else y)->r7 n E0 o.dst (E0.lk z) K->∃E' v,K E'/\kA o.dst E E'/\(∀d,o.dst=some d->d<n->valOf E' d=some v)/\(rl P o.op=true->∀x∈iU o.op,E.has x=true) /\
    ∀w',(rl P o.op=true->w'=w)->∀ρ:Operand->Value,(∀f,ρ (.func f)= .func (.func f) #[] #[])->(∀x∈iU o.op,E.has x=true->ρ x=E.ev x)->kg P (execOp ρ o) w' (QK w' v):=by
   intro r E0 z hc hr h0 hz h
   obtain⟨e,he,h1,h2,h3⟩:=nK E0 z h0 h
   refine⟨_,e.val,h1,h2,h3,λiA=>(by rw[i_]at iA;cases iA),λw' _ ρ _ hρ=>.inl ⟨e.val,w',?_,rfl,rfl⟩⟩
   have C1:z∈iU o.op:=by rw[i_,hz];cases r<;>simp[iU]
   have hs:∀t,z= .tmp t->valOf E0 t=valOf E t:=λt _=>h0 t (by simp)
   have e1:=hρ c (by rw[i_];simp[iU]) hc
   have e2:=hρ z C1 (by rw[<- Ci hs];exact AF he)
   rw[<- GK hs,AE he]at e2
   rw[hr]at e1
   cases r with
   | true=>simp only[if_true]at hz;subst hz;simp[execOp,i_,e1,asBool,e2]
   | false=>simp only[Bool.false_eq_true,if_false]at hz;subst hz;simp[execOp,i_,e1,asBool,e2]
  split at h
  ·rename_i hc;exact key true E x (AF hc) (AE hc) (.refl _ _) rfl h
  ·rename_i hc;exact key false E y (AF hc) (AE hc) (.refl _ _) rfl h
  ·rename_i v hc
   obtain⟨r,rfl,h1,h2⟩:=h
   cases r with
   | true=>exact key true _ x (AF hc) (AE hc) (kA.o8 hc rfl) rfl (h1 rfl)
   | false=>exact key false _ y (AF hc) (AE hc) (kA.o8 hc rfl) rfl (h2 rfl)
  ·exact h.elim
  ·exact h.elim
 ·split at h
  ·rename_i hh
   obtain⟨v,h1,h2⟩:=GX o.op hf h
   refine⟨_,v,h1,kA.put n E o.dst _,λd hd hn=>(by rw[hd];exact IV E _ hn),λ_ x hx=>Env.El hh x hx,λw' hw ρ hF hρ=>?_⟩
   exact IH hT hF (λx hx=>hρ x hx (Env.El hh x hx)) (h2 w' hw)
  ·exact h.elim
theorem E9{ops:List Oper}{o:Oper}{x:Operand}{t:Nat}(hx:x∈iU o.op)(ht:x= .tmp t):t∈looks ops o:=by
 unfold looks
 refine List.mem_append_left _ (List.mem_filterMap.2 ⟨x,hx,?_⟩)
 rw[ht]
theorem Tl{ops:List Oper}{o:Oper}{j:Nat}{want:Bool}{s:Nat}(hg:o.guard=some (j,want))(hs:(ops[j]?).bind (·.dst)=some s):s∈looks ops o:=by
 unfold looks
 rw[hg]
 refine List.mem_append_right _ ?_
 simp[hs]
theorem pJ.same{ops:List Oper}{o:Oper}{E E':Env}{r:Bool}(h:pJ ops o E r)(hs:∀t∈looks ops o,valOf E' t=valOf E t):pJ ops o E' r:=by
 unfold pJ at h ⊢
 cases hg:o.guard with
 | none=>simp only[hg]at h ⊢;exact h
 | some p=>
  obtain⟨j,want⟩:=p
  simp only[hg]at h ⊢
  obtain⟨s,b,h1,h2,h3⟩:=h
  exact⟨s,b,h1,by rw[hs s (Tl hg h1)];exact h2,h3⟩
theorem ZM(hT:Calls.sm P T){ops:List Oper}{w:World}{K:Env->Prop}:∀(js:List Nat) (E:Env),(∀j∈js,∀o,ops[j]?=some o->lu P o.op=true/\∀d,o.dst=some d->d∉looks ops o) ->
  js.Pairwise (λj k=>∀oj ok d,ops[j]?=some oj->ops[k]?=some ok->ok.dst=some d->d∉looks ops oj/\oj.dst≠some d)->AI P T n ops w K js E ->
  ∃E',K E'/\(∀t,(∀j∈js,∀o,ops[j]?=some o->o.dst≠some t)->valOf E' t=valOf E t)/\∀j∈js,∀o,ops[j]?=some o->∃r v,wc P ops n o E' w r v
 | [],E,_,_,h=>⟨E,h,λ_ _=>rfl,λj hj=>by cases hj⟩
 | j::js,E,hf,hp,h=>by
  unfold AI at h
  split at h
  ·rename_i o ho
   obtain⟨hfo,HK⟩:=hf j (by simp) o ho
   obtain⟨tX,uT⟩:=List.pairwise_cons.1 hp
   have first:∃E1 r v,AI P T n ops w K js E1/\kA o.dst E E1/\wc P ops n o E1 w r v:=by
    obtain⟨E0,h0,⟨hw,h⟩|⟨hw,h⟩⟩:=G1 h
    ·obtain⟨E1,v,k1,k2,k3,k4,k5⟩:=air hT hfo h
     have hs:kA o.dst E E1:=h0.Bv.trans k2
     have AW:∀t∈looks ops o,valOf E1 t=valOf E t:=λt ht=>hs t (λhd=>HK t hd ht)
     have Hu:∀t∈looks ops o,valOf E1 t=valOf E0 t:=λt ht=>k2 t (λhd=>HK t hd ht)
     refine⟨E1,true,v,k1,hs,hw.same AW,k3,λ_ iA x hx=>?_,λh=>(by cases h),λ_ w' CW ρ hF hρ=>?_⟩
     ·rw[Ci (λt ht=>Hu t (E9 hx ht))];exact k4 iA x hx
     ·refine k5 w' CW ρ hF (λx hx hh=>?_)
      have e1:=Ci (x:=x) (λt ht=>Hu t (E9 hx ht))
      rw[hρ x hx (by rw[e1];exact hh)]
      exact GK (λt ht=>Hu t (E9 hx ht))
    ·have hs:kA o.dst E (E0.put n o.dst .u):=h0.Bv.trans (kA.put n E0 o.dst _)
     refine⟨_,false,undef,h,hs,hw.same (λt ht=>hs t (λhd=>HK t hd ht)),λd hd hn=>(by rw[hd];exact IV E0 _ hn),λh=>(by cases h),λ_=>rfl,λh=>(by cases h)⟩
   obtain⟨E1,r,v,k1,k2,k3⟩:=first
   obtain⟨E',q1,q2,q3⟩:=ZM hT js E1 (λk hk=>hf k (by simp[hk])) uT k1
   refine⟨E',q1,λt ht=>?_,λk hk ok cR=>?_⟩
   ·rw[q2 t (λk hk=>ht k (by simp[hk])),k2 t (ht j (by simp) o ho)]
   ·rcases List.mem_cons.1 hk with rfl|hk
    ·rw[ho]at cR;cases cR
     refine⟨r,v,k3.mono (λt ht=>q2 t (λk hk ok cR hd=>?_)) (λd hd=>q2 d (λk hk ok cR wF=>?_)) (λ_=>rfl)⟩
     ·exact (tX k hk _ ok t ho cR hd).1 ht
     ·exact (tX k hk _ ok d ho cR wF).2 hd
    ·exact q3 k hk ok cR
  ·exact h.elim
theorem Zl{ops:List Oper}{E:Env}{w:World}{R:Prop}:∀(js:List Nat),(∀j∈js,∀o,ops[j]?=some o->lu P o.op=true)->Bk P T ops E w R js ->
  R/\∀j∈js,∀o,ops[j]?=some o->pJ ops o E true->∃d e,o.dst=some d/\E.get d=some e/\jY P T o.op o.type E.ev w λv _=>v=e.val
 | [],_,h=>⟨h,λj hj=>by cases hj⟩
 | j::js,hf,h=>by
  have R0:∀k∈js,∀o,ops[k]?=some o->lu P o.op=true:=λk hk=>hf k (by simp[hk])
  unfold Bk at h
  split at h
  ·rename_i o ho
   obtain⟨E0,h0,⟨hw,h⟩|⟨hw,h⟩⟩:=G1 h
   ·unfold Uj at h
    split at h
    ·rename_i d hd
     split at h
     ·rename_i e he
      have h1:jY P T o.op o.type E.ev w λv _=>v=e.val:=TW _ h λv _ x=>x.1
      have h2:Bk P T ops E w R js:=by
       obtain⟨v,x,_⟩:=GX o.op (hf j (by simp) o ho) h
       exact x.2
      obtain⟨r1,r2⟩:=Zl js R0 h2
      refine⟨r1,λk hk ok cR ES=>?_⟩
      rcases List.mem_cons.1 hk with rfl|hk
      ·rw[ho]at cR;cases cR;exact⟨d,e,hd,he,h1⟩
      ·exact r2 k hk ok cR ES
     ·exact h.elim
    ·exact h.elim
   ·obtain⟨r1,r2⟩:=Zl js R0 h
    refine⟨r1,λk hk ok cR ES=>?_⟩
    rcases List.mem_cons.1 hk with rfl|hk
    ·rw[ho]at cR;cases cR
     have:=hw.unique ES;cases this
    ·exact r2 k hk ok cR ES
  ·exact h.elim
end
end Go.Proofs.YtfenmffiidchcaaGreat
