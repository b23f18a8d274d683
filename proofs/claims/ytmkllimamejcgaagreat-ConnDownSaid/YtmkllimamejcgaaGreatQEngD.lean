/- Part. -/
import Derived.Test.YtmkllimamejcgaaGreatQEng9
namespace Go.Proofs.YtmkllimamejcgaaGreat
set_option linter.all false
open Go.RowKit
def yyg:=@List.pairwise_cons
def Kp{n:Nat}(E:Env){d:Nat}(e:iC)(h:d<n):valOf (E.put n (some d) e) d=some e.val:=by
 unfold Env.put;have:Nat.blt d n=true:=Nat.ble_eq_true_of_le h;simp only[this];rw[K0,zzd rfl]
def AM{E:Env}{x:Operand}{e:iC}(h:E.hY x=some e):E.has x=true:=by simp[Env.has,h]
section
variable {P:Program} {T:List Bool} {n:Nat}
def bIp(hT:Calls.pB P T){o:Oper}(hf:iq P o.op=true){E:Env}{w:Ζ}{K:Env->Prop}(h:sR P T n o E w λE' _=>K E'):
  ∃E' v,K E'/\gf o.dst E E'/\(∀d,o.dst=some d->d<n->valOf E' d=some v)/\(oE P o.op=true->∀x∈dZ o.op,E.has x=true) /\
   ∀w',(oE P o.op=true->w'=w)->∀ρ:Operand->Ε,(∀f,ρ (.func f)= .func (.func f) #[] #[])->(∀x∈dZ o.op,E.has x=true->ρ x=E.ev x)->fJ P (execOp ρ o) w' (QK w' v):=by
 have kC:∀(E0:Env) (x:Operand),gf none E E0->pj n E0 o.dst (E0.hY x) K->∃e,E0.hY x=some e/\K (E0.put n o.dst e)/\gf o.dst E (E0.put n o.dst e)/\(∀d,o.dst=some d->d<n->valOf (E0.put n o.dst e) d=some e.val):=by
  intro E0 x h0 h;unfold pj at h;split at h
  ·rename_i e he;exact⟨e,he,h,h0.BV.trans (gf.put n E0 o.dst e),λd hd hn=>(by rw[hd];exact Kp E0 e hn)⟩
  exact h.elim
 unfold sR at h;split at h
 ·rename_i x fh;obtain⟨e,he,h1,h2,h3⟩:=kC E x (.refl _ _) h;refine⟨_,e.val,h1,h2,h3,λdJ=>(by rw[fh]at dJ;cases dJ),λw' _ ρ _ hρ=>.inl ⟨e.val,w',?_,rfl,rfl⟩⟩;have:=hρ x (by rw[fh];simp[dZ]) (AM he);rw[AK he]at this
  simp[execOp,fh,this]
 ·rename_i x fh;rw[fh]at hf;cases hf
 ·rename_i c x y fh;have key:∀(r:Bool) (E0:Env) (z:Operand),E.has c=true->E.ev c= .bool r->gf none E E0->(z=if r then x else y)->pj n E0 o.dst (E0.hY z) K->∃E' v,K E'/\gf o.dst E E'/\(∀d,o.dst=some d->d<n->valOf E' d=some v)/\(oE P o.op=true->∀x∈dZ o.op,E.has x=true) /\
    ∀w',(oE P o.op=true->w'=w)->∀ρ:Operand->Ε,(∀f,ρ (.func f)= .func (.func f) #[] #[])->(∀x∈dZ o.op,E.has x=true->ρ x=E.ev x)->fJ P (execOp ρ o) w' (QK w' v):=by
   intro r E0 z hc hr h0 hz h;obtain⟨e,he,h1,h2,h3⟩:=kC E0 z h0 h;refine⟨_,e.val,h1,h2,h3,λdJ=>(by rw[fh]at dJ;cases dJ),λw' _ ρ _ hρ=>.inl ⟨e.val,w',?_,rfl,rfl⟩⟩;have hzm:z∈dZ o.op:=by rw[fh,hz];cases r<;>simp[dZ]
   have hs:∀t,z= .tmp t->valOf E0 t=valOf E t:=λt _=>h0 t (by simp);have e1:=hρ c (by rw[fh];simp[dZ]) hc;have e2:=hρ z hzm (by rw[<- CU hs];exact AM he);rw[<- H0 hs,AK he]at e2
   rw[hr]at e1
   cases r with
   | true=>simp only[wwj]at hz;subst hz;simp[execOp,fh,e1,asBool,e2]
   | false=>simp only[xxe,wwb]at hz;subst hz;simp[execOp,fh,e1,asBool,e2]
  split at h
  ·rename_i hc;exact key true E x (AM hc) (AK hc) (.refl _ _) rfl h
  ·rename_i hc;exact key false E y (AM hc) (AK hc) (.refl _ _) rfl h
  ·rename_i v hc;obtain⟨r,rfl,h1,h2⟩:=h;cases r with
   | true=>exact key true _ x (AM hc) (AK hc) (gf.mO hc rfl) rfl (h1 rfl)
   | false=>exact key false _ y (AM hc) (AK hc) (gf.mO hc rfl) rfl (h2 rfl)
  ·exact h.elim
  exact h.elim
 split at h
 ·rename_i hh;obtain⟨v,h1,h2⟩:=Il o.op hf h;refine⟨_,v,h1,gf.put n E o.dst _,λd hd hn=>(by rw[hd];exact Kp E _ hn),λ_ x hx=>Env.Fe hh x hx,λw' hw ρ hF hρ=>?_⟩;exact J7 hT hF (λx hx=>hρ x hx (Env.Fe hh x hx)) (h2 w' hw)
 exact h.elim
def F4{ops:List Oper}{o:Oper}{x:Operand}{t:Nat}(hx:x∈dZ o.op)(ht:x= .tmp t):t∈looks ops o:=by
 unfold looks;refine yyo _ (List.mem_filterMap.2 ⟨x,hx,?_⟩);rw[ht]
def Vk{ops:List Oper}{o:Oper}{j:Nat}{want:Bool}{s:Nat}(hg:o.guard=some (j,want))(hs:(ops[j]?).bind (·.dst)=some s):s∈looks ops o:=by
 unfold looks;rw[hg];refine xxl _ ?_;simp[hs]
def nF.same{ops:List Oper}{o:Oper}{E E':Env}{r:Bool}(h:nF ops o E r)(hs:∀t∈looks ops o,valOf E' t=valOf E t):nF ops o E' r:=by
 unfold nF at h ⊢;cases hg:o.guard with
 | none=>simp only[hg]at h ⊢;exact h
 | some p=>
  obtain⟨j,want⟩:=p;simp only[hg]at h ⊢;obtain⟨s,b,h1,h2,h3⟩:=h;exact⟨s,b,h1,by rw[hs s (Vk hg h1)];exact h2,h3⟩
def ZF(hT:Calls.pB P T){ops:List Oper}{w:Ζ}{K:Env->Prop}:∀(js:Α) (E:Env),(∀j∈js,∀o,ops[j]?=some o->iq P o.op=true/\∀d,o.dst=some d->d∉looks ops o) ->
  js.Pairwise (λj k=>∀oj ok d,ops[j]?=some oj->ops[k]?=some ok->ok.dst=some d->d∉looks ops oj/\oj.dst≠some d)->AQ P T n ops w K js E ->
  ∃E',K E'/\(∀t,(∀j∈js,∀o,ops[j]?=some o->o.dst≠some t)->valOf E' t=valOf E t)/\∀j∈js,∀o,ops[j]?=some o->∃r v,u7 P ops n o E' w r v
 | [],E,_,_,h=>⟨E,h,λ_ _=>rfl,λj hj=>by cases hj⟩
 | j::js,E,hf,hp,h=>by
  unfold AQ at h;split at h
  ·rename_i o ho;obtain⟨hfo,Jj⟩:=hf j (by simp) o ho;obtain⟨nP,pW⟩:=yyg.1 hp;have first:∃E1 r v,AQ P T n ops w K js E1/\gf o.dst E E1/\u7 P ops n o E1 w r v:=by
    obtain⟨E0,h0,⟨hw,h⟩|⟨hw,h⟩⟩:=Io h
    ·obtain⟨E1,v,k1,k2,k3,k4,k5⟩:=bIp hT hfo h;have hs:gf o.dst E E1:=h0.BV.trans k2;have A7:∀t∈looks ops o,valOf E1 t=valOf E t:=λt ht=>hs t (λhd=>Jj t hd ht);have I4:∀t∈looks ops o,valOf E1 t=valOf E0 t:=λt ht=>k2 t (λhd=>Jj t hd ht);refine⟨E1,true,v,k1,hs,hw.same A7,k3,λ_ dJ x hx=>?_,λh=>(by cases h),λ_ w' xP ρ hF hρ=>?_⟩
     ·rw[CU (λt ht=>I4 t (F4 hx ht))];exact k4 dJ x hx
     refine k5 w' xP ρ hF (λx hx hh=>?_);have e1:=CU (x:=x) (λt ht=>I4 t (F4 hx ht));rw[hρ x hx (by rw[e1];exact hh)];exact H0 (λt ht=>I4 t (F4 hx ht))
    have hs:gf o.dst E (E0.put n o.dst .u):=h0.BV.trans (gf.put n E0 o.dst _);refine⟨_,false,undef,h,hs,hw.same (λt ht=>hs t (λhd=>Jj t hd ht)),λd hd hn=>(by rw[hd];exact Kp E0 _ hn),λh=>(by cases h),λ_=>rfl,λh=>(by cases h)⟩
   obtain⟨E1,r,v,k1,k2,k3⟩:=first
   obtain⟨E',q1,q2,q3⟩:=ZF hT js E1 (λk hk=>hf k (by simp[hk])) pW k1;refine⟨E',q1,λt ht=>?_,λk hk ok cH=>?_⟩
   ·rw[q2 t (λk hk=>ht k (by simp[hk])),k2 t (ht j (by simp) o ho)]
   rcases zz0.1 hk with rfl|hk
   ·rw[ho]at cH;cases cH
    refine⟨r,v,k3.mono (λt ht=>q2 t (λk hk ok cH hd=>?_)) (λd hd=>q2 d (λk hk ok cH mG=>?_)) (λ_=>rfl)⟩
    ·exact (nP k hk _ ok t ho cH hd).1 ht
    exact (nP k hk _ ok d ho cH mG).2 hd
   exact q3 k hk ok cH
  exact h.elim
def Zb{ops:List Oper}{E:Env}{w:Ζ}{R:Prop}:∀(js:Α),(∀j∈js,∀o,ops[j]?=some o->iq P o.op=true)->BH P T ops E w R js ->
  R/\∀j∈js,∀o,ops[j]?=some o->nF ops o E true->∃d e,o.dst=some d/\E.get d=some e/\fk P T o.op o.type E.ev w λv _=>v=e.val
 | [],_,h=>⟨h,λj hj=>by cases hj⟩
 | j::js,hf,h=>by
  have TM:∀k∈js,∀o,ops[k]?=some o->iq P o.op=true:=λk hk=>hf k (by simp[hk]);unfold BH at h;split at h
  ·rename_i o ho;obtain⟨E0,h0,⟨hw,h⟩|⟨hw,h⟩⟩:=Io h
   ·unfold Wu at h;split at h
    ·rename_i d hd;split at h
     ·rename_i e he;have h1:fk P T o.op o.type E.ev w λv _=>v=e.val:=V4 _ h λv _ x=>x.1;have h2:BH P T ops E w R js:=by
       obtain⟨v,x,_⟩:=Il o.op (hf j (by simp) o ho) h;exact x.2
      obtain⟨r1,r2⟩:=Zb js TM h2;refine⟨r1,λk hk ok cH FN=>?_⟩;rcases zz0.1 hk with rfl|hk
      ·rw[ho]at cH;cases cH;exact⟨d,e,hd,he,h1⟩
      exact r2 k hk ok cH FN
     exact h.elim
    exact h.elim
   obtain⟨r1,r2⟩:=Zb js TM h;refine⟨r1,λk hk ok cH FN=>?_⟩;rcases zz0.1 hk with rfl|hk
   ·rw[ho]at cH;cases cH
    have:=hw.unique FN;cases this
   exact r2 k hk ok cH FN
  exact h.elim
end
