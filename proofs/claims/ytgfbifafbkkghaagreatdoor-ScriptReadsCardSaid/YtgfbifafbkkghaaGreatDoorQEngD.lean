/- Part. -/
import Derived.Test.YtgfbifafbkkghaaGreatDoorQEng9
namespace Go.Proofs.YtgfbifafbkkghaaGreatDoor
set_option linter.all false
open Go.RowKit
def yyc:=@List.pairwise_cons
def D4{n:Nat}(E:Env){d:Nat}(e:fu)(h:d<n):valOf (E.put n (some d) e) d=some e.val:=by
 unfold Env.put;have:Nat.blt d n=true:=Nat.ble_eq_true_of_le h;simp only[this];rw[Ev,zzd rfl]
def sU{E:Env}{x:Operand}{e:fu}(h:E.fa x=some e):E.has x=true:=by simp[Env.has,h]
section
variable {P:Program} {T:List Bool} {n:Nat}
def S4(hT:Calls.lx P T){o:Oper}(hf:fe P o.op=true){E:Env}{w:Ζ}{K:Env->Prop}(h:ny P T n o E w λE' _=>K E'):
  ∃E' v,K E'/\dN o.dst E E'/\(∀d,o.dst=some d->d<n->valOf E' d=some v)/\(ky P o.op=true->∀x∈ca o.op,E.has x=true) /\
   ∀w',(ky P o.op=true->w'=w)->∀ρ:Operand->Ε,(∀f,ρ (.func f)= .func (.func f) #[] #[])->(∀x∈ca o.op,E.has x=true->ρ x=E.ev x)->dt P (execOp ρ o) w' (QK w' v):=by
 have oT:∀(E0:Env) (x:Operand),dN none E E0->lh n E0 o.dst (E0.fa x) K->∃e,E0.fa x=some e/\K (E0.put n o.dst e)/\dN o.dst E (E0.put n o.dst e)/\(∀d,o.dst=some d->d<n->valOf (E0.put n o.dst e) d=some e.val):=by
  intro E0 x h0 h;unfold lh at h;split at h
  ·rename_i e he;exact⟨e,he,h,h0.ud.trans (dN.put n E0 o.dst e),λd hd hn=>(by rw[hd];exact D4 E0 e hn)⟩
  exact h.elim
 unfold ny at h;split at h
 ·rename_i x fA;obtain⟨e,he,h1,h2,h3⟩:=oT E x (.refl _ _) h;refine⟨_,e.val,h1,h2,h3,λbU=>(by rw[fA]at bU;cases bU),λw' _ ρ _ hρ=>.inl ⟨e.val,w',?_,rfl,rfl⟩⟩;have:=hρ x (by rw[fA];simp[ca]) (sU he);rw[sS he]at this
  simp[execOp,fA,this]
 ·rename_i x fA;rw[fA]at hf;cases hf
 ·rename_i c x y fA;have key:∀(r:Bool) (E0:Env) (z:Operand),E.has c=true->E.ev c= .bool r->dN none E E0->(z=if r then x else y)->lh n E0 o.dst (E0.fa z) K->∃E' v,K E'/\dN o.dst E E'/\(∀d,o.dst=some d->d<n->valOf E' d=some v)/\(ky P o.op=true->∀x∈ca o.op,E.has x=true) /\
    ∀w',(ky P o.op=true->w'=w)->∀ρ:Operand->Ε,(∀f,ρ (.func f)= .func (.func f) #[] #[])->(∀x∈ca o.op,E.has x=true->ρ x=E.ev x)->dt P (execOp ρ o) w' (QK w' v):=by
   intro r E0 z hc hr h0 hz h;obtain⟨e,he,h1,h2,h3⟩:=oT E0 z h0 h;refine⟨_,e.val,h1,h2,h3,λbU=>(by rw[fA]at bU;cases bU),λw' _ ρ _ hρ=>.inl ⟨e.val,w',?_,rfl,rfl⟩⟩;have U1:z∈ca o.op:=by rw[fA,hz];cases r<;>simp[ca]
   have hs:∀t,z= .tmp t->valOf E0 t=valOf E t:=λt _=>h0 t (by simp);have e1:=hρ c (by rw[fA];simp[ca]) hc;have e2:=hρ z U1 (by rw[<- vj hs];exact sU he);rw[<- Cd hs,sS he]at e2
   rw[hr]at e1
   cases r with
   | true=>simp only[vvj]at hz;subst hz;simp[execOp,fA,e1,asBool,e2]
   | false=>simp only[Bool.false_eq_true,wwq]at hz;subst hz;simp[execOp,fA,e1,asBool,e2]
  split at h
  ·rename_i hc;exact key true E x (sU hc) (sS hc) (.refl _ _) rfl h
  ·rename_i hc;exact key false E y (sU hc) (sS hc) (.refl _ _) rfl h
  ·rename_i v hc;obtain⟨r,rfl,h1,h2⟩:=h;cases r with
   | true=>exact key true _ x (sU hc) (sS hc) (dN.jD hc rfl) rfl (h1 rfl)
   | false=>exact key false _ y (sU hc) (sS hc) (dN.jD hc rfl) rfl (h2 rfl)
  ·exact h.elim
  exact h.elim
 split at h
 ·rename_i hh;obtain⟨v,h1,h2⟩:=Ct o.op hf h;refine⟨_,v,h1,dN.put n E o.dst _,λd hd hn=>(by rw[hd];exact D4 E _ hn),λ_ x hx=>Env.xN hh x hx,λw' hw ρ hF hρ=>?_⟩;exact DR hT hF (λx hx=>hρ x hx (Env.xN hh x hx)) (h2 w' hw)
 exact h.elim
def Ar{ops:List Oper}{o:Oper}{x:Operand}{t:Nat}(hx:x∈ca o.op)(ht:x= .tmp t):t∈looks ops o:=by
 unfold looks;refine List.mem_append_left _ (List.mem_filterMap.2 ⟨x,hx,?_⟩);rw[ht]
def Mp{ops:List Oper}{o:Oper}{j:Nat}{want:Bool}{s:Nat}(hg:o.guard=some (j,want))(hs:(ops[j]?).bind (·.dst)=some s):s∈looks ops o:=by
 unfold looks;rw[hg];refine yyz _ ?_;simp[hs]
def jW.same{ops:List Oper}{o:Oper}{E E':Env}{r:Bool}(h:jW ops o E r)(hs:∀t∈looks ops o,valOf E' t=valOf E t):jW ops o E' r:=by
 unfold jW at h ⊢;cases hg:o.guard with
 | none=>simp only[hg]at h ⊢;exact h
 | some p=>
  obtain⟨j,want⟩:=p;simp only[hg]at h ⊢;obtain⟨s,b,h1,h2,h3⟩:=h;exact⟨s,b,h1,by rw[hs s (Mp hg h1)];exact h2,h3⟩
def Zt(hT:Calls.lx P T){ops:List Oper}{w:Ζ}{K:Env->Prop}:∀(js:Α) (E:Env),(∀j∈js,∀o,ops[j]?=some o->fe P o.op=true/\∀d,o.dst=some d->d∉looks ops o) ->
  js.Pairwise (λj k=>∀oj ok d,ops[j]?=some oj->ops[k]?=some ok->ok.dst=some d->d∉looks ops oj/\oj.dst≠some d)->sZ P T n ops w K js E ->
  ∃E',K E'/\(∀t,(∀j∈js,∀o,ops[j]?=some o->o.dst≠some t)->valOf E' t=valOf E t)/\∀j∈js,∀o,ops[j]?=some o->∃r v,pd P ops n o E' w r v
 | [],E,_,_,h=>⟨E,h,λ_ _=>rfl,λj hj=>by cases hj⟩
 | j::js,E,hf,hp,h=>by
  unfold sZ at h;split at h
  ·rename_i o ho;obtain⟨T4,Db⟩:=hf j (by simp) o ho;obtain⟨pG,tn⟩:=yyc.1 hp;have first:∃E1 r v,sZ P T n ops w K js E1/\dN o.dst E E1/\pd P ops n o E1 w r v:=by
    obtain⟨E0,h0,⟨hw,h⟩|⟨hw,h⟩⟩:=Cv h
    ·obtain⟨E1,v,k1,k2,k3,k4,k5⟩:=S4 hT T4 h;have hs:dN o.dst E E1:=h0.ud.trans k2;have tg:∀t∈looks ops o,valOf E1 t=valOf E t:=λt ht=>hs t (λhd=>Db t hd ht);have C4:∀t∈looks ops o,valOf E1 t=valOf E0 t:=λt ht=>k2 t (λhd=>Db t hd ht);refine⟨E1,true,v,k1,hs,hw.same tg,k3,λ_ bU x hx=>?_,λh=>(by cases h),λ_ w' vM ρ hF hρ=>?_⟩
     ·rw[vj (λt ht=>C4 t (Ar hx ht))];exact k4 bU x hx
     refine k5 w' vM ρ hF (λx hx hh=>?_);have e1:=vj (x:=x) (λt ht=>C4 t (Ar hx ht));rw[hρ x hx (by rw[e1];exact hh)];exact Cd (λt ht=>C4 t (Ar hx ht))
    have hs:dN o.dst E (E0.put n o.dst .u):=h0.ud.trans (dN.put n E0 o.dst _);refine⟨_,false,undef,h,hs,hw.same (λt ht=>hs t (λhd=>Db t hd ht)),λd hd hn=>(by rw[hd];exact D4 E0 _ hn),λh=>(by cases h),λ_=>rfl,λh=>(by cases h)⟩
   obtain⟨E1,r,v,k1,k2,k3⟩:=first
   obtain⟨E',q1,q2,q3⟩:=Zt hT js E1 (λk hk=>hf k (by simp[hk])) tn k1;refine⟨E',q1,λt ht=>?_,λk hk ok br=>?_⟩
   ·rw[q2 t (λk hk=>ht k (by simp[hk])),k2 t (ht j (by simp) o ho)]
   rcases zzv.1 hk with rfl|hk
   ·rw[ho]at br;cases br
    refine⟨r,v,k3.mono (λt ht=>q2 t (λk hk ok br hd=>?_)) (λd hd=>q2 d (λk hk ok br nc=>?_)) (λ_=>rfl)⟩
    ·exact (pG k hk _ ok t ho br hd).1 ht
    exact (pG k hk _ ok d ho br nc).2 hd
   exact q3 k hk ok br
  exact h.elim
def y4{ops:List Oper}{E:Env}{w:Ζ}{R:Prop}:∀(js:Α),(∀j∈js,∀o,ops[j]?=some o->fe P o.op=true)->tQ P T ops E w R js ->
  R/\∀j∈js,∀o,ops[j]?=some o->jW ops o E true->∃d e,o.dst=some d/\E.get d=some e/\cQ P T o.op o.type E.ev w λv _=>v=e.val
 | [],_,h=>⟨h,λj hj=>by cases hj⟩
 | j::js,hf,h=>by
  have KX:∀k∈js,∀o,ops[k]?=some o->fe P o.op=true:=λk hk=>hf k (by simp[hk]);unfold tQ at h;split at h
  ·rename_i o ho;obtain⟨E0,h0,⟨hw,h⟩|⟨hw,h⟩⟩:=Cv h
   ·unfold NJ at h;split at h
    ·rename_i d hd;split at h
     ·rename_i e he;have h1:cQ P T o.op o.type E.ev w λv _=>v=e.val:=Nn _ h λv _ x=>x.1;have h2:tQ P T ops E w R js:=by
       obtain⟨v,x,_⟩:=Ct o.op (hf j (by simp) o ho) h;exact x.2
      obtain⟨r1,r2⟩:=y4 js KX h2;refine⟨r1,λk hk ok br Ag=>?_⟩;rcases zzv.1 hk with rfl|hk
      ·rw[ho]at br;cases br;exact⟨d,e,hd,he,h1⟩
      exact r2 k hk ok br Ag
     exact h.elim
    exact h.elim
   obtain⟨r1,r2⟩:=y4 js KX h;refine⟨r1,λk hk ok br Ag=>?_⟩;rcases zzv.1 hk with rfl|hk
   ·rw[ho]at br;cases br
    have:=hw.unique Ag;cases this
   exact r2 k hk ok br Ag
  exact h.elim
end
