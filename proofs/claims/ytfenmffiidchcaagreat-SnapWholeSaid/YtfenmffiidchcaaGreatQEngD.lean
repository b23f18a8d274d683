/- Part of the proof (my own). -/
import Derived.Test.YtfenmffiidchcaaGreatQEng9
namespace Go.Proofs.YtfenmffiidchcaaGreat
set_option linter.unusedVariables false
open Go.RowKit
theorem Iw{n:Nat}(E:Env){d:Nat}(e:ll)(h:d<n):valOf (E.put n (some d) e) d=some e.val:=by
 unfold Env.put
 have:Nat.blt d n=true:=Nat.ble_eq_true_of_le h
 simp only[this]
 rw[Ja,if_pos rfl]
theorem Am{E:Env}{x:Operand}{e:ll}(h:E.kS x=some e):E.has x=true:=by simp[Env.has,h]
section
variable {P:Program} {T:List Bool} {n:Nat}
theorem Xl(hT:Calls.rM P T){o:Oper}(hf:kU P o.op=true){E:Env}{w:World}{K:Env->Prop}(h:tO P T n o E w λE' _=>K E'):
  ∃E' v,K E'/\kh o.dst E E'/\(∀d,o.dst=some d->d<n->valOf E' d=some v)/\(pR P o.op=true->∀x∈iE o.op,E.has x=true) /\
   ∀w',(pR P o.op=true->w'=w)->∀ρ:Operand->Value,(∀f,ρ (.func f)= .func (.func f) #[] #[])->(∀x∈iE o.op,E.has x=true->ρ x=E.ev x)->jZ P (execOp ρ o) w' (QK w' v):=by
 have nz:∀(E0:Env) (x:Operand),kh none E E0->rB n E0 o.dst (E0.kS x) K->∃e,E0.kS x=some e/\K (E0.put n o.dst e)/\kh o.dst E (E0.put n o.dst e)/\(∀d,o.dst=some d->d<n->valOf (E0.put n o.dst e) d=some e.val):=by
  intro E0 x h0 h
  unfold rB at h
  split at h
  ·rename_i e he
   exact⟨e,he,h,h0.Bi.trans (kh.put n E0 o.dst e),λd hd hn=>(by rw[hd];exact Iw E0 e hn)⟩
  ·exact h.elim
 unfold tO at h
 split at h
 ·rename_i x iX
  obtain⟨e,he,h1,h2,h3⟩:=nz E x (.refl _ _) h
  refine⟨_,e.val,h1,h2,h3,λgw=>(by rw[iX]at gw;cases gw),λw' _ ρ _ hρ=>.inl ⟨e.val,w',?_,rfl,rfl⟩⟩
  have:=hρ x (by rw[iX];simp[iE]) (Am he)
  rw[Al he]at this
  simp[execOp,iX,this]
 ·rename_i x iX;rw[iX]at hf;cases hf
 ·rename_i c x y iX
  have key:∀(r:Bool) (E0:Env) (z:Operand),E.has c=true->E.ev c= .bool r->kh none E E0->(z=if r then x else y)->rB n E0 o.dst (E0.kS z) K->∃E' v,K E'/\kh o.dst E E'/\(∀d,o.dst=some d->d<n->valOf E' d=some v)/\(pR P o.op=true->∀x∈iE o.op,E.has x=true) /\
    ∀w',(pR P o.op=true->w'=w)->∀ρ:Operand->Value,(∀f,ρ (.func f)= .func (.func f) #[] #[])->(∀x∈iE o.op,E.has x=true->ρ x=E.ev x)->jZ P (execOp ρ o) w' (QK w' v):=by
   intro r E0 z hc hr h0 hz h
   obtain⟨e,he,h1,h2,h3⟩:=nz E0 z h0 h
   refine⟨_,e.val,h1,h2,h3,λgw=>(by rw[iX]at gw;cases gw),λw' _ ρ _ hρ=>.inl ⟨e.val,w',?_,rfl,rfl⟩⟩
   have CH:z∈iE o.op:=by rw[iX,hz];cases r<;>simp[iE]
   have hs:∀t,z= .tmp t->valOf E0 t=valOf E t:=λt _=>h0 t (by simp)
   have e1:=hρ c (by rw[iX];simp[iE]) hc
   have e2:=hρ z CH (by rw[<- B0 hs];exact Am he)
   rw[<- Gd hs,Al he]at e2
   rw[hr]at e1
   cases r with
   | true=>simp only[if_true]at hz;subst hz;simp[execOp,iX,e1,asBool,e2]
   | false=>simp only[Bool.false_eq_true,if_false]at hz;subst hz;simp[execOp,iX,e1,asBool,e2]
  split at h
  ·rename_i hc;exact key true E x (Am hc) (Al hc) (.refl _ _) rfl h
  ·rename_i hc;exact key false E y (Am hc) (Al hc) (.refl _ _) rfl h
  ·rename_i v hc
   obtain⟨r,rfl,h1,h2⟩:=h
   cases r with
   | true=>exact key true _ x (Am hc) (Al hc) (kh.oH hc rfl) rfl (h1 rfl)
   | false=>exact key false _ y (Am hc) (Al hc) (kh.oH hc rfl) rfl (h2 rfl)
  ·exact h.elim
  ·exact h.elim
 ·split at h
  ·rename_i hh
   obtain⟨v,h1,h2⟩:=Gt o.op hf h
   refine⟨_,v,h1,kh.put n E o.dst _,λd hd hn=>(by rw[hd];exact Iw E _ hn),λ_ x hx=>Env.DM hh x hx,λw' hw ρ hF hρ=>?_⟩
   exact Ik hT hF (λx hx=>hρ x hx (Env.DM hh x hx)) (h2 w' hw)
  ·exact h.elim
theorem Et{ops:List Oper}{o:Oper}{x:Operand}{t:Nat}(hx:x∈iE o.op)(ht:x= .tmp t):t∈looks ops o:=by
 unfold looks
 refine List.mem_append_left _ (List.mem_filterMap.2 ⟨x,hx,?_⟩)
 rw[ht]
theorem Sw{ops:List Oper}{o:Oper}{j:Nat}{want:Bool}{s:Nat}(hg:o.guard=some (j,want))(hs:(ops[j]?).bind (·.dst)=some s):s∈looks ops o:=by
 unfold looks
 rw[hg]
 refine List.mem_append_right _ ?_
 simp[hs]
theorem pg.same{ops:List Oper}{o:Oper}{E E':Env}{r:Bool}(h:pg ops o E r)(hs:∀t∈looks ops o,valOf E' t=valOf E t):pg ops o E' r:=by
 unfold pg at h ⊢
 cases hg:o.guard with
 | none=>simp only[hg]at h ⊢;exact h
 | some p=>
  obtain⟨j,want⟩:=p
  simp only[hg]at h ⊢
  obtain⟨s,b,h1,h2,h3⟩:=h
  exact⟨s,b,h1,by rw[hs s (Sw hg h1)];exact h2,h3⟩
theorem ZG(hT:Calls.rM P T){ops:List Oper}{w:World}{K:Env->Prop}:∀(js:List Nat) (E:Env),(∀j∈js,∀o,ops[j]?=some o->kU P o.op=true/\∀d,o.dst=some d->d∉looks ops o) ->
  js.Pairwise (λj k=>∀oj ok d,ops[j]?=some oj->ops[k]?=some ok->ok.dst=some d->d∉looks ops oj/\oj.dst≠some d)->Ap P T n ops w K js E ->
  ∃E',K E'/\(∀t,(∀j∈js,∀o,ops[j]?=some o->o.dst≠some t)->valOf E' t=valOf E t)/\∀j∈js,∀o,ops[j]?=some o->∃r v,vF P ops n o E' w r v
 | [],E,_,_,h=>⟨E,h,λ_ _=>rfl,λj hj=>by cases hj⟩
 | j::js,E,hf,hp,h=>by
  unfold Ap at h
  split at h
  ·rename_i o ho
   obtain⟨hfo,Hq⟩:=hf j (by simp) o ho
   obtain⟨tD,ux⟩:=List.pairwise_cons.1 hp
   have first:∃E1 r v,Ap P T n ops w K js E1/\kh o.dst E E1/\vF P ops n o E1 w r v:=by
    obtain⟨E0,h0,⟨hw,h⟩|⟨hw,h⟩⟩:=Gy h
    ·obtain⟨E1,v,k1,k2,k3,k4,k5⟩:=Xl hT hfo h
     have hs:kh o.dst E E1:=h0.Bi.trans k2
     have AH:∀t∈looks ops o,valOf E1 t=valOf E t:=λt ht=>hs t (λhd=>Hq t hd ht)
     have G_:∀t∈looks ops o,valOf E1 t=valOf E0 t:=λt ht=>k2 t (λhd=>Hq t hd ht)
     refine⟨E1,true,v,k1,hs,hw.same AH,k3,λ_ gw x hx=>?_,λh=>(by cases h),λ_ w' CD ρ hF hρ=>?_⟩
     ·rw[B0 (λt ht=>G_ t (Et hx ht))];exact k4 gw x hx
     ·refine k5 w' CD ρ hF (λx hx hh=>?_)
      have e1:=B0 (x:=x) (λt ht=>G_ t (Et hx ht))
      rw[hρ x hx (by rw[e1];exact hh)]
      exact Gd (λt ht=>G_ t (Et hx ht))
    ·have hs:kh o.dst E (E0.put n o.dst .u):=h0.Bi.trans (kh.put n E0 o.dst _)
     refine⟨_,false,undef,h,hs,hw.same (λt ht=>hs t (λhd=>Hq t hd ht)),λd hd hn=>(by rw[hd];exact Iw E0 _ hn),λh=>(by cases h),λ_=>rfl,λh=>(by cases h)⟩
   obtain⟨E1,r,v,k1,k2,k3⟩:=first
   obtain⟨E',q1,q2,q3⟩:=ZG hT js E1 (λk hk=>hf k (by simp[hk])) ux k1
   refine⟨E',q1,λt ht=>?_,λk hk ok b5=>?_⟩
   ·rw[q2 t (λk hk=>ht k (by simp[hk])),k2 t (ht j (by simp) o ho)]
   ·rcases List.mem_cons.1 hk with rfl|hk
    ·rw[ho]at b5;cases b5
     refine⟨r,v,k3.mono (λt ht=>q2 t (λk hk ok b5 hd=>?_)) (λd hd=>q2 d (λk hk ok b5 uo=>?_)) (λ_=>rfl)⟩
     ·exact (tD k hk _ ok t ho b5 hd).1 ht
     ·exact (tD k hk _ ok d ho b5 uo).2 hd
    ·exact q3 k hk ok b5
  ·exact h.elim
theorem Zf{ops:List Oper}{E:Env}{w:World}{R:Prop}:∀(js:List Nat),(∀j∈js,∀o,ops[j]?=some o->kU P o.op=true)->A9 P T ops E w R js ->
  R/\∀j∈js,∀o,ops[j]?=some o->pg ops o E true->∃d e,o.dst=some d/\E.get d=some e/\jF P T o.op o.type E.ev w λv _=>v=e.val
 | [],_,h=>⟨h,λj hj=>by cases hj⟩
 | j::js,hf,h=>by
  have Q_:∀k∈js,∀o,ops[k]?=some o->kU P o.op=true:=λk hk=>hf k (by simp[hk])
  unfold A9 at h
  split at h
  ·rename_i o ho
   obtain⟨E0,h0,⟨hw,h⟩|⟨hw,h⟩⟩:=Gy h
   ·unfold Ts at h
    split at h
    ·rename_i d hd
     split at h
     ·rename_i e he
      have h1:jF P T o.op o.type E.ev w λv _=>v=e.val:=S8 _ h λv _ x=>x.1
      have h2:A9 P T ops E w R js:=by
       obtain⟨v,x,_⟩:=Gt o.op (hf j (by simp) o ho) h
       exact x.2
      obtain⟨r1,r2⟩:=Zf js Q_ h2
      refine⟨r1,λk hk ok b5 Ed=>?_⟩
      rcases List.mem_cons.1 hk with rfl|hk
      ·rw[ho]at b5;cases b5;exact⟨d,e,hd,he,h1⟩
      ·exact r2 k hk ok b5 Ed
     ·exact h.elim
    ·exact h.elim
   ·obtain⟨r1,r2⟩:=Zf js Q_ h
    refine⟨r1,λk hk ok b5 Ed=>?_⟩
    rcases List.mem_cons.1 hk with rfl|hk
    ·rw[ho]at b5;cases b5
     have:=hw.unique Ed;cases this
    ·exact r2 k hk ok b5 Ed
  ·exact h.elim
end
end Go.Proofs.YtfenmffiidchcaaGreat
