/- Part. -/
import Derived.Test.YthohmpdacdmclaaGreatDoorQEng9
namespace Go.Proofs.YthohmpdacdmclaaGreatDoor
set_option linter.all false
open Go.RowKit
def yyi:=@List.pairwise_cons
def J_{n:Nat}(E:Env){d:Nat}(e:gN)(h:d<n):valOf (E.put n (some d) e) d=some e.val:=by
 unfold Env.put;have:Nat.blt d n=true:=Nat.ble_eq_true_of_le h;simp only[this];rw[KC,zzc rfl]
def Ad{E:Env}{x:Operand}{e:gN}(h:E.gd x=some e):E.has x=true:=by simp[Env.has,h]
section
variable {P:Program} {T:List Bool} {n:Nat}
def bfr(hT:Calls.oM P T){o:Oper}(hf:gz P o.op=true){E:Env}{w:Ζ}{K:Env->Prop}(h:sq P T n o E w λE' _=>K E'):
  ∃E' v,K E'/\fe o.dst E E'/\(∀d,o.dst=some d->d<n->valOf E' d=some v)/\(nM P o.op=true->∀x∈de o.op,E.has x=true) /\
   ∀w',(nM P o.op=true->w'=w)->∀ρ:Operand->Ε,(∀f,ρ (.func f)= .func (.func f) #[] #[])->(∀x∈de o.op,E.has x=true->ρ x=E.ev x)->eP P (execOp ρ o) w' (QK w' v):=by
 have jG:∀(E0:Env) (x:Operand),fe none E E0->oF n E0 o.dst (E0.gd x) K->∃e,E0.gd x=some e/\K (E0.put n o.dst e)/\fe o.dst E (E0.put n o.dst e)/\(∀d,o.dst=some d->d<n->valOf (E0.put n o.dst e) d=some e.val):=by
  intro E0 x h0 h;unfold oF at h;split at h
  ·rename_i e he;exact⟨e,he,h,h0.Bj.trans (fe.put n E0 o.dst e),λd hd hn=>(by rw[hd];exact J_ E0 e hn)⟩
  exact h.elim
 unfold sq at h;split at h
 ·rename_i x dY;obtain⟨e,he,h1,h2,h3⟩:=jG E x (.refl _ _) h;refine⟨_,e.val,h1,h2,h3,λcJ=>(by rw[dY]at cJ;cases cJ),λw' _ ρ _ hρ=>.inl ⟨e.val,w',?_,rfl,rfl⟩⟩;have:=hρ x (by rw[dY];simp[de]) (Ad he);rw[Ac he]at this
  simp[execOp,dY,this]
 ·rename_i x dY;rw[dY]at hf;cases hf
 ·rename_i c x y dY;have key:∀(r:Bool) (E0:Env) (z:Operand),E.has c=true->E.ev c= .bool r->fe none E E0->(z=if r then x else y)->oF n E0 o.dst (E0.gd z) K->∃E' v,K E'/\fe o.dst E E'/\(∀d,o.dst=some d->d<n->valOf E' d=some v)/\(nM P o.op=true->∀x∈de o.op,E.has x=true) /\
    ∀w',(nM P o.op=true->w'=w)->∀ρ:Operand->Ε,(∀f,ρ (.func f)= .func (.func f) #[] #[])->(∀x∈de o.op,E.has x=true->ρ x=E.ev x)->eP P (execOp ρ o) w' (QK w' v):=by
   intro r E0 z hc hr h0 hz h;obtain⟨e,he,h1,h2,h3⟩:=jG E0 z h0 h;refine⟨_,e.val,h1,h2,h3,λcJ=>(by rw[dY]at cJ;cases cJ),λw' _ ρ _ hρ=>.inl ⟨e.val,w',?_,rfl,rfl⟩⟩;have hzm:z∈de o.op:=by rw[dY,hz];cases r<;>simp[de]
   have hs:∀t,z= .tmp t->valOf E0 t=valOf E t:=λt _=>h0 t (by simp);have e1:=hρ c (by rw[dY];simp[de]) hc;have e2:=hρ z hzm (by rw[<- Cl hs];exact Ad he);rw[<- HI hs,Ac he]at e2
   rw[hr]at e1
   cases r with
   | true=>simp only[ww0]at hz;subst hz;simp[execOp,dY,e1,asBool,e2]
   | false=>simp only[xxx,wwt]at hz;subst hz;simp[execOp,dY,e1,asBool,e2]
  split at h
  ·rename_i hc;exact key true E x (Ad hc) (Ac hc) (.refl _ _) rfl h
  ·rename_i hc;exact key false E y (Ad hc) (Ac hc) (.refl _ _) rfl h
  ·rename_i v hc;obtain⟨r,rfl,h1,h2⟩:=h;cases r with
   | true=>exact key true _ x (Ad hc) (Ac hc) (fe.l4 hc rfl) rfl (h1 rfl)
   | false=>exact key false _ y (Ad hc) (Ac hc) (fe.l4 hc rfl) rfl (h2 rfl)
  ·exact h.elim
  exact h.elim
 split at h
 ·rename_i hh;obtain⟨v,h1,h2⟩:=HX o.op hf h;refine⟨_,v,h1,fe.put n E o.dst _,λd hd hn=>(by rw[hd];exact J_ E _ hn),λ_ x hx=>Env.EE hh x hx,λw' hw ρ hF hρ=>?_⟩;exact JS hT hF (λx hx=>hρ x hx (Env.EE hh x hx)) (h2 w' hw)
 exact h.elim
def FC{ops:List Oper}{o:Oper}{x:Operand}{t:Nat}(hx:x∈de o.op)(ht:x= .tmp t):t∈looks ops o:=by
 unfold looks;refine yyr _ (List.mem_filterMap.2 ⟨x,hx,?_⟩);rw[ht]
def Vh{ops:List Oper}{o:Oper}{j:Nat}{want:Bool}{s:Nat}(hg:o.guard=some (j,want))(hs:(ops[j]?).bind (·.dst)=some s):s∈looks ops o:=by
 unfold looks;rw[hg];refine xxl _ ?_;simp[hs]
def mL.same{ops:List Oper}{o:Oper}{E E':Env}{r:Bool}(h:mL ops o E r)(hs:∀t∈looks ops o,valOf E' t=valOf E t):mL ops o E' r:=by
 unfold mL at h ⊢;cases hg:o.guard with
 | none=>simp only[hg]at h ⊢;exact h
 | some p=>
  obtain⟨j,want⟩:=p;simp only[hg]at h ⊢;obtain⟨s,b,h1,h2,h3⟩:=h;exact⟨s,b,h1,by rw[hs s (Vh hg h1)];exact h2,h3⟩
def ZH(hT:Calls.oM P T){ops:List Oper}{w:Ζ}{K:Env->Prop}:∀(js:Α) (E:Env),(∀j∈js,∀o,ops[j]?=some o->gz P o.op=true/\∀d,o.dst=some d->d∉looks ops o) ->
  js.Pairwise (λj k=>∀oj ok d,ops[j]?=some oj->ops[k]?=some ok->ok.dst=some d->d∉looks ops oj/\oj.dst≠some d)->Ai P T n ops w K js E ->
  ∃E',K E'/\(∀t,(∀j∈js,∀o,ops[j]?=some o->o.dst≠some t)->valOf E' t=valOf E t)/\∀j∈js,∀o,ops[j]?=some o->∃r v,uJ P ops n o E' w r v
 | [],E,_,_,h=>⟨E,h,λ_ _=>rfl,λj hj=>by cases hj⟩
 | j::js,E,hf,hp,h=>by
  unfold Ai at h;split at h
  ·rename_i o ho;obtain⟨hfo,I0⟩:=hf j (by simp) o ho;obtain⟨mV,pc⟩:=yyi.1 hp;have first:∃E1 r v,Ai P T n ops w K js E1/\fe o.dst E E1/\uJ P ops n o E1 w r v:=by
    obtain⟨E0,h0,⟨hw,h⟩|⟨hw,h⟩⟩:=HZ h
    ·obtain⟨E1,v,k1,k2,k3,k4,k5⟩:=bfr hT hfo h;have hs:fe o.dst E E1:=h0.Bj.trans k2;have Ay:∀t∈looks ops o,valOf E1 t=valOf E t:=λt ht=>hs t (λhd=>I0 t hd ht);have IF:∀t∈looks ops o,valOf E1 t=valOf E0 t:=λt ht=>k2 t (λhd=>I0 t hd ht);refine⟨E1,true,v,k1,hs,hw.same Ay,k3,λ_ cJ x hx=>?_,λh=>(by cases h),λ_ w' xd ρ hF hρ=>?_⟩
     ·rw[Cl (λt ht=>IF t (FC hx ht))];exact k4 cJ x hx
     refine k5 w' xd ρ hF (λx hx hh=>?_);have e1:=Cl (x:=x) (λt ht=>IF t (FC hx ht));rw[hρ x hx (by rw[e1];exact hh)];exact HI (λt ht=>IF t (FC hx ht))
    have hs:fe o.dst E (E0.put n o.dst .u):=h0.Bj.trans (fe.put n E0 o.dst _);refine⟨_,false,undef,h,hs,hw.same (λt ht=>hs t (λhd=>I0 t hd ht)),λd hd hn=>(by rw[hd];exact J_ E0 _ hn),λh=>(by cases h),λ_=>rfl,λh=>(by cases h)⟩
   obtain⟨E1,r,v,k1,k2,k3⟩:=first
   obtain⟨E',q1,q2,q3⟩:=ZH hT js E1 (λk hk=>hf k (by simp[hk])) pc k1;refine⟨E',q1,λt ht=>?_,λk hk ok bC=>?_⟩
   ·rw[q2 t (λk hk=>ht k (by simp[hk])),k2 t (ht j (by simp) o ho)]
   rcases yya.1 hk with rfl|hk
   ·rw[ho]at bC;cases bC
    refine⟨r,v,k3.mono (λt ht=>q2 t (λk hk ok bC hd=>?_)) (λd hd=>q2 d (λk hk ok bC ml=>?_)) (λ_=>rfl)⟩
    ·exact (mV k hk _ ok t ho bC hd).1 ht
    exact (mV k hk _ ok d ho bC ml).2 hd
   exact q3 k hk ok bC
  exact h.elim
def Zc{ops:List Oper}{E:Env}{w:Ζ}{R:Prop}:∀(js:Α),(∀j∈js,∀o,ops[j]?=some o->gz P o.op=true)->A5 P T ops E w R js ->
  R/\∀j∈js,∀o,ops[j]?=some o->mL ops o E true->∃d e,o.dst=some d/\E.get d=some e/\dZ P T o.op o.type E.ev w λv _=>v=e.val
 | [],_,h=>⟨h,λj hj=>by cases hj⟩
 | j::js,hf,h=>by
  have TF:∀k∈js,∀o,ops[k]?=some o->gz P o.op=true:=λk hk=>hf k (by simp[hk]);unfold A5 at h;split at h
  ·rename_i o ho;obtain⟨E0,h0,⟨hw,h⟩|⟨hw,h⟩⟩:=HZ h
   ·unfold Wv at h;split at h
    ·rename_i d hd;split at h
     ·rename_i e he;have h1:dZ P T o.op o.type E.ev w λv _=>v=e.val:=V4 _ h λv _ x=>x.1;have h2:A5 P T ops E w R js:=by
       obtain⟨v,x,_⟩:=HX o.op (hf j (by simp) o ho) h;exact x.2
      obtain⟨r1,r2⟩:=Zc js TF h2;refine⟨r1,λk hk ok bC Fi=>?_⟩;rcases yya.1 hk with rfl|hk
      ·rw[ho]at bC;cases bC;exact⟨d,e,hd,he,h1⟩
      exact r2 k hk ok bC Fi
     exact h.elim
    exact h.elim
   obtain⟨r1,r2⟩:=Zc js TF h;refine⟨r1,λk hk ok bC Fi=>?_⟩;rcases yya.1 hk with rfl|hk
   ·rw[ho]at bC;cases bC
    have:=hw.unique Fi;cases this
   exact r2 k hk ok bC Fi
  exact h.elim
end
