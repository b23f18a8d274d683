/- Part. -/
import Derived.Test.YtlngdcpffiklgaaGreatQEng9
namespace Go.Proofs.YtlngdcpffiklgaaGreat
set_option linter.all false
open Go.RowKit
def yyg:=@List.pairwise_cons
def KN{n:Nat}(E:Env){d:Nat}(e:iJ)(h:d<n):valOf (E.put n (some d) e) d=some e.val:=by
 unfold Env.put;have:Nat.blt d n=true:=Nat.ble_eq_true_of_le h;simp only[this];rw[Lj,zzd rfl]
def AX{E:Env}{x:Operand}{e:iJ}(h:E.ia x=some e):E.has x=true:=by simp[Env.has,h]
section
variable {P:Program} {T:List Bool} {n:Nat}
def bR7(hT:Calls.pI P T){o:Oper}(hf:iw P o.op=true){E:Env}{w:Ζ}{K:Env->Prop}(h:sY P T n o E w λE' _=>K E'):
  ∃E' v,K E'/\gh o.dst E E'/\(∀d,o.dst=some d->d<n->valOf E' d=some v)/\(oP P o.op=true->∀x∈ez o.op,E.has x=true) /\
   ∀w',(oP P o.op=true->w'=w)->∀ρ:Operand->Ε,(∀f,ρ (.func f)= .func (.func f) #[] #[])->(∀x∈ez o.op,E.has x=true->ρ x=E.ev x)->fP P (execOp ρ o) w' (QK w' v):=by
 have kF:∀(E0:Env) (x:Operand),gh none E E0->pA n E0 o.dst (E0.ia x) K->∃e,E0.ia x=some e/\K (E0.put n o.dst e)/\gh o.dst E (E0.put n o.dst e)/\(∀d,o.dst=some d->d<n->valOf (E0.put n o.dst e) d=some e.val):=by
  intro E0 x h0 h;unfold pA at h;split at h
  ·rename_i e he;exact⟨e,he,h,h0.B2.trans (gh.put n E0 o.dst e),λd hd hn=>(by rw[hd];exact KN E0 e hn)⟩
  exact h.elim
 unfold sY at h;split at h
 ·rename_i x fj;obtain⟨e,he,h1,h2,h3⟩:=kF E x (.refl _ _) h;refine⟨_,e.val,h1,h2,h3,λdQ=>(by rw[fj]at dQ;cases dQ),λw' _ ρ _ hρ=>.inl ⟨e.val,w',?_,rfl,rfl⟩⟩;have:=hρ x (by rw[fj];simp[ez]) (AX he);rw[AW he]at this
  simp[execOp,fj,this]
 ·rename_i x fj;rw[fj]at hf;cases hf
 ·rename_i c x y fj;have key:∀(r:Bool) (E0:Env) (z:Operand),E.has c=true->E.ev c= .bool r->gh none E E0->(z=if r then x else y)->pA n E0 o.dst (E0.ia z) K->∃E' v,K E'/\gh o.dst E E'/\(∀d,o.dst=some d->d<n->valOf E' d=some v)/\(oP P o.op=true->∀x∈ez o.op,E.has x=true) /\
    ∀w',(oP P o.op=true->w'=w)->∀ρ:Operand->Ε,(∀f,ρ (.func f)= .func (.func f) #[] #[])->(∀x∈ez o.op,E.has x=true->ρ x=E.ev x)->fP P (execOp ρ o) w' (QK w' v):=by
   intro r E0 z hc hr h0 hz h;obtain⟨e,he,h1,h2,h3⟩:=kF E0 z h0 h;refine⟨_,e.val,h1,h2,h3,λdQ=>(by rw[fj]at dQ;cases dQ),λw' _ ρ _ hρ=>.inl ⟨e.val,w',?_,rfl,rfl⟩⟩;have hzm:z∈ez o.op:=by rw[fj,hz];cases r<;>simp[ez]
   have hs:∀t,z= .tmp t->valOf E0 t=valOf E t:=λt _=>h0 t (by simp);have e1:=hρ c (by rw[fj];simp[ez]) hc;have e2:=hρ z hzm (by rw[<- C7 hs];exact AX he);rw[<- Iv hs,AW he]at e2
   rw[hr]at e1
   cases r with
   | true=>simp only[wwm]at hz;subst hz;simp[execOp,fj,e1,asBool,e2]
   | false=>simp only[xxf,wwd]at hz;subst hz;simp[execOp,fj,e1,asBool,e2]
  split at h
  ·rename_i hc;exact key true E x (AX hc) (AW hc) (.refl _ _) rfl h
  ·rename_i hc;exact key false E y (AX hc) (AW hc) (.refl _ _) rfl h
  ·rename_i v hc;obtain⟨r,rfl,h1,h2⟩:=h;cases r with
   | true=>exact key true _ x (AX hc) (AW hc) (gh.m_ hc rfl) rfl (h1 rfl)
   | false=>exact key false _ y (AX hc) (AW hc) (gh.m_ hc rfl) rfl (h2 rfl)
  ·exact h.elim
  exact h.elim
 split at h
 ·rename_i hh;obtain⟨v,h1,h2⟩:=IG o.op hf h;refine⟨_,v,h1,gh.put n E o.dst _,λd hd hn=>(by rw[hd];exact KN E _ hn),λ_ x hx=>Env.Fw hh x hx,λw' hw ρ hF hρ=>?_⟩;exact Ks hT hF (λx hx=>hρ x hx (Env.Fw hh x hx)) (h2 w' hw)
 exact h.elim
def Gg{ops:List Oper}{o:Oper}{x:Operand}{t:Nat}(hx:x∈ez o.op)(ht:x= .tmp t):t∈looks ops o:=by
 unfold looks;refine yyo _ (List.mem_filterMap.2 ⟨x,hx,?_⟩);rw[ht]
def VZ{ops:List Oper}{o:Oper}{j:Nat}{want:Bool}{s:Nat}(hg:o.guard=some (j,want))(hs:(ops[j]?).bind (·.dst)=some s):s∈looks ops o:=by
 unfold looks;rw[hg];refine xxm _ ?_;simp[hs]
def nT.same{ops:List Oper}{o:Oper}{E E':Env}{r:Bool}(h:nT ops o E r)(hs:∀t∈looks ops o,valOf E' t=valOf E t):nT ops o E' r:=by
 unfold nT at h ⊢;cases hg:o.guard with
 | none=>simp only[hg]at h ⊢;exact h
 | some p=>
  obtain⟨j,want⟩:=p;simp only[hg]at h ⊢;obtain⟨s,b,h1,h2,h3⟩:=h;exact⟨s,b,h1,by rw[hs s (VZ hg h1)];exact h2,h3⟩
def ZN(hT:Calls.pI P T){ops:List Oper}{w:Ζ}{K:Env->Prop}:∀(js:Α) (E:Env),(∀j∈js,∀o,ops[j]?=some o->iw P o.op=true/\∀d,o.dst=some d->d∉looks ops o) ->
  js.Pairwise (λj k=>∀oj ok d,ops[j]?=some oj->ops[k]?=some ok->ok.dst=some d->d∉looks ops oj/\oj.dst≠some d)->A0 P T n ops w K js E ->
  ∃E',K E'/\(∀t,(∀j∈js,∀o,ops[j]?=some o->o.dst≠some t)->valOf E' t=valOf E t)/\∀j∈js,∀o,ops[j]?=some o->∃r v,vn P ops n o E' w r v
 | [],E,_,_,h=>⟨E,h,λ_ _=>rfl,λj hj=>by cases hj⟩
 | j::js,E,hf,hp,h=>by
  unfold A0 at h;split at h
  ·rename_i o ho;obtain⟨hfo,JG⟩:=hf j (by simp) o ho;obtain⟨nZ,p'⟩:=yyg.1 hp;have first:∃E1 r v,A0 P T n ops w K js E1/\gh o.dst E E1/\vn P ops n o E1 w r v:=by
    obtain⟨E0,h0,⟨hw,h⟩|⟨hw,h⟩⟩:=II h
    ·obtain⟨E1,v,k1,k2,k3,k4,k5⟩:=bR7 hT hfo h;have hs:gh o.dst E E1:=h0.B2.trans k2;have Bg:∀t∈looks ops o,valOf E1 t=valOf E t:=λt ht=>hs t (λhd=>JG t hd ht);have Jn:∀t∈looks ops o,valOf E1 t=valOf E0 t:=λt ht=>k2 t (λhd=>JG t hd ht);refine⟨E1,true,v,k1,hs,hw.same Bg,k3,λ_ dQ x hx=>?_,λh=>(by cases h),λ_ w' xZ ρ hF hρ=>?_⟩
     ·rw[C7 (λt ht=>Jn t (Gg hx ht))];exact k4 dQ x hx
     refine k5 w' xZ ρ hF (λx hx hh=>?_);have e1:=C7 (x:=x) (λt ht=>Jn t (Gg hx ht));rw[hρ x hx (by rw[e1];exact hh)];exact Iv (λt ht=>Jn t (Gg hx ht))
    have hs:gh o.dst E (E0.put n o.dst .u):=h0.B2.trans (gh.put n E0 o.dst _);refine⟨_,false,undef,h,hs,hw.same (λt ht=>hs t (λhd=>JG t hd ht)),λd hd hn=>(by rw[hd];exact KN E0 _ hn),λh=>(by cases h),λ_=>rfl,λh=>(by cases h)⟩
   obtain⟨E1,r,v,k1,k2,k3⟩:=first
   obtain⟨E',q1,q2,q3⟩:=ZN hT js E1 (λk hk=>hf k (by simp[hk])) p' k1;refine⟨E',q1,λt ht=>?_,λk hk ok cL=>?_⟩
   ·rw[q2 t (λk hk=>ht k (by simp[hk])),k2 t (ht j (by simp) o ho)]
   rcases zz1.1 hk with rfl|hk
   ·rw[ho]at cL;cases cL
    refine⟨r,v,k3.mono (λt ht=>q2 t (λk hk ok cL hd=>?_)) (λd hd=>q2 d (λk hk ok cL ny=>?_)) (λ_=>rfl)⟩
    ·exact (nZ k hk _ ok t ho cL hd).1 ht
    exact (nZ k hk _ ok d ho cL ny).2 hd
   exact q3 k hk ok cL
  exact h.elim
def Zh{ops:List Oper}{E:Env}{w:Ζ}{R:Prop}:∀(js:Α),(∀j∈js,∀o,ops[j]?=some o->iw P o.op=true)->BO P T ops E w R js ->
  R/\∀j∈js,∀o,ops[j]?=some o->nT ops o E true->∃d e,o.dst=some d/\E.get d=some e/\fm P T o.op o.type E.ev w λv _=>v=e.val
 | [],_,h=>⟨h,λj hj=>by cases hj⟩
 | j::js,hf,h=>by
  have Ui:∀k∈js,∀o,ops[k]?=some o->iw P o.op=true:=λk hk=>hf k (by simp[hk]);unfold BO at h;split at h
  ·rename_i o ho;obtain⟨E0,h0,⟨hw,h⟩|⟨hw,h⟩⟩:=II h
   ·unfold Xa at h;split at h
    ·rename_i d hd;split at h
     ·rename_i e he;have h1:fm P T o.op o.type E.ev w λv _=>v=e.val:=WG _ h λv _ x=>x.1;have h2:BO P T ops E w R js:=by
       obtain⟨v,x,_⟩:=IG o.op (hf j (by simp) o ho) h;exact x.2
      obtain⟨r1,r2⟩:=Zh js Ui h2;refine⟨r1,λk hk ok cL F3=>?_⟩;rcases zz1.1 hk with rfl|hk
      ·rw[ho]at cL;cases cL;exact⟨d,e,hd,he,h1⟩
      exact r2 k hk ok cL F3
     exact h.elim
    exact h.elim
   obtain⟨r1,r2⟩:=Zh js Ui h;refine⟨r1,λk hk ok cL F3=>?_⟩;rcases zz1.1 hk with rfl|hk
   ·rw[ho]at cL;cases cL
    have:=hw.unique F3;cases this
   exact r2 k hk ok cL F3
  exact h.elim
end
