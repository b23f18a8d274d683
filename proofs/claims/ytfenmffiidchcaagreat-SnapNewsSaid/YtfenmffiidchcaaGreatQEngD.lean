/- Part of the proof (my own). -/
import Derived.Test.YtfenmffiidchcaaGreatQEng9
namespace Go.Proofs.YtfenmffiidchcaaGreat
set_option linter.unusedVariables false
open Go.RowKit
theorem put_val{n:Nat}(E:Env){d:Nat}(e:Ent)(h:d<n):valOf (E.put n (some d) e) d=some e.val:=by
 unfold Env.put
 have:Nat.blt d n=true:=Nat.ble_eq_true_of_le h
 simp only[this]
 rw[valOf_cons,if_pos rfl]
theorem ent_has{E:Env}{x:Operand}{e:Ent}(h:E.ent x=some e):E.has x=true:=by simp[Env.has,h]
section
variable {P:Program} {T:List Bool} {n:Nat}
theorem flt_step(hT:Calls.Tab P T){o:Oper}(hf:isFlt P o.op=true){E:Env}{w:World}{K:Env→Prop}(h:stepP P T n o E w λE' _=>K E'):
  ∃E' v,K E'∧SameD o.dst E E'∧(∀d,o.dst=some d→d<n→valOf E' d=some v)∧(isRd P o.op=true→∀x∈opnds o.op,E.has x=true) ∧
   ∀w',(isRd P o.op=true→w'=w)→∀ρ:Operand→Value,(∀f,ρ (.func f)= .func (.func f) #[] #[])→(∀x∈opnds o.op,E.has x=true→ρ x=E.ev x)→Does P (execOp ρ o) w' (QK w' v):=by
 have hput:∀(E0:Env) (x:Operand),SameD none E E0→putO n E0 o.dst (E0.ent x) K→∃e,E0.ent x=some e∧K (E0.put n o.dst e)∧SameD o.dst E (E0.put n o.dst e)∧(∀d,o.dst=some d→d<n→valOf (E0.put n o.dst e) d=some e.val):=by
  intro E0 x h0 h
  unfold putO at h
  split at h
  ·rename_i e he
   exact⟨e,he,h,h0.weak.trans (SameD.put n E0 o.dst e),λd hd hn=>(by rw[hd];exact put_val E0 e hn)⟩
  ·exact h.elim
 unfold stepP at h
 split at h
 ·rename_i x hop
  obtain⟨e,he,h1,h2,h3⟩:=hput E x (.refl _ _) h
  refine⟨_,e.val,h1,h2,h3,λhrd=>(by rw[hop]at hrd;cases hrd),λw' _ ρ _ hρ=>.inl ⟨e.val,w',?_,rfl,rfl⟩⟩
  have:=hρ x (by rw[hop];simp[opnds]) (ent_has he)
  rw[ent_ev he]at this
  simp[execOp,hop,this]
 ·rename_i x hop;rw[hop]at hf;cases hf
 ·rename_i c x y hop
  have key:∀(r:Bool) (E0:Env) (z:Operand),E.has c=true→E.ev c= .bool r→SameD none E E0→(z=if r then x else y)→putO n E0 o.dst (E0.ent z) K→∃E' v,K E'∧SameD o.dst E E'∧(∀d,o.dst=some d→d<n→valOf E' d=some v)∧(isRd P o.op=true→∀x∈opnds o.op,E.has x=true) ∧
    ∀w',(isRd P o.op=true→w'=w)→∀ρ:Operand→Value,(∀f,ρ (.func f)= .func (.func f) #[] #[])→(∀x∈opnds o.op,E.has x=true→ρ x=E.ev x)→Does P (execOp ρ o) w' (QK w' v):=by
   intro r E0 z hc hr h0 hz h
   obtain⟨e,he,h1,h2,h3⟩:=hput E0 z h0 h
   refine⟨_,e.val,h1,h2,h3,λhrd=>(by rw[hop]at hrd;cases hrd),λw' _ ρ _ hρ=>.inl ⟨e.val,w',?_,rfl,rfl⟩⟩
   have hzm:z∈opnds o.op:=by rw[hop,hz];cases r<;>simp[opnds]
   have hs:∀t,z= .tmp t→valOf E0 t=valOf E t:=λt _=>h0 t (by simp)
   have e1:=hρ c (by rw[hop];simp[opnds]) hc
   have e2:=hρ z hzm (by rw[← has_same hs];exact ent_has he)
   rw[← ev_same hs,ent_ev he]at e2
   rw[hr]at e1
   cases r with
   | true=>simp only[if_true]at hz;subst hz;simp[execOp,hop,e1,asBool,e2]
   | false=>simp only[Bool.false_eq_true,if_false]at hz;subst hz;simp[execOp,hop,e1,asBool,e2]
  split at h
  ·rename_i hc;exact key true E x (ent_has hc) (ent_ev hc) (.refl _ _) rfl h
  ·rename_i hc;exact key false E y (ent_has hc) (ent_ev hc) (.refl _ _) rfl h
  ·rename_i v hc
   obtain⟨r,rfl,h1,h2⟩:=h
   cases r with
   | true=>exact key true _ x (ent_has hc) (ent_ev hc) (SameD.setTmp hc rfl) rfl (h1 rfl)
   | false=>exact key false _ y (ent_has hc) (ent_ev hc) (SameD.setTmp hc rfl) rfl (h2 rfl)
  ·exact h.elim
  ·exact h.elim
 ·split at h
  ·rename_i hh
   obtain⟨v,h1,h2⟩:=flt_opH o.op hf h
   refine⟨_,v,h1,SameD.put n E o.dst _,λd hd hn=>(by rw[hd];exact put_val E _ hn),λ_ x hx=>Env.hasAll_mem hh x hx,λw' hw ρ hF hρ=>?_⟩
   exact opH_does hT hF (λx hx=>hρ x hx (Env.hasAll_mem hh x hx)) (h2 w' hw)
  ·exact h.elim
theorem looks_opnd{ops:List Oper}{o:Oper}{x:Operand}{t:Nat}(hx:x∈opnds o.op)(ht:x= .tmp t):t∈looks ops o:=by
 unfold looks
 refine List.mem_append_left _ (List.mem_filterMap.2 ⟨x,hx,?_⟩)
 rw[ht]
theorem looks_guard{ops:List Oper}{o:Oper}{j:Nat}{want:Bool}{s:Nat}(hg:o.guard=some (j,want))(hs:(ops[j]?).bind (·.dst)=some s):s∈looks ops o:=by
 unfold looks
 rw[hg]
 refine List.mem_append_right _ ?_
 simp[hs]
theorem Wants.same{ops:List Oper}{o:Oper}{E E':Env}{r:Bool}(h:Wants ops o E r)(hs:∀t∈looks ops o,valOf E' t=valOf E t):Wants ops o E' r:=by
 unfold Wants at h ⊢
 cases hg:o.guard with
 | none=>simp only[hg]at h ⊢;exact h
 | some p=>
  obtain⟨j,want⟩:=p
  simp only[hg]at h ⊢
  obtain⟨s,b,h1,h2,h3⟩:=h
  exact⟨s,b,h1,by rw[hs s (looks_guard hg h1)];exact h2,h3⟩
theorem Zx(hT:Calls.Tab P T){ops:List Oper}{w:World}{K:Env→Prop}:∀(js:List Nat) (E:Env),(∀j∈js,∀o,ops[j]?=some o→isFlt P o.op=true∧∀d,o.dst=some d→d∉looks ops o) →
  js.Pairwise (λj k=>∀oj ok d,ops[j]?=some oj→ops[k]?=some ok→ok.dst=some d→d∉looks ops oj∧oj.dst≠some d)→fltAll P T n ops w K js E →
  ∃E',K E'∧(∀t,(∀j∈js,∀o,ops[j]?=some o→o.dst≠some t)→valOf E' t=valOf E t)∧∀j∈js,∀o,ops[j]?=some o→∃r v,Pend P ops n o E' w r v
 | [],E,_,_,h=>⟨E,h,λ_ _=>rfl,λj hj=>by cases hj⟩
 | j::js,E,hf,hp,h=>by
  unfold fltAll at h
  split at h
  ·rename_i o ho
   obtain⟨hfo,hself⟩:=hf j (by simp) o ho
   obtain⟨hp1,hp2⟩:=List.pairwise_cons.1 hp
   have first:∃E1 r v,fltAll P T n ops w K js E1∧SameD o.dst E E1∧Pend P ops n o E1 w r v:=by
    obtain⟨E0,h0,⟨hw,h⟩|⟨hw,h⟩⟩:=guardP_wants h
    ·obtain⟨E1,v,k1,k2,k3,k4,k5⟩:=flt_step hT hfo h
     have hs:SameD o.dst E E1:=h0.weak.trans k2
     have hlook:∀t∈looks ops o,valOf E1 t=valOf E t:=λt ht=>hs t (λhd=>hself t hd ht)
     have hlook0:∀t∈looks ops o,valOf E1 t=valOf E0 t:=λt ht=>k2 t (λhd=>hself t hd ht)
     refine⟨E1,true,v,k1,hs,hw.same hlook,k3,λ_ hrd x hx=>?_,λh=>(by cases h),λ_ w' hw' ρ hF hρ=>?_⟩
     ·rw[has_same (λt ht=>hlook0 t (looks_opnd hx ht))];exact k4 hrd x hx
     ·refine k5 w' hw' ρ hF (λx hx hh=>?_)
      have e1:=has_same (x:=x) (λt ht=>hlook0 t (looks_opnd hx ht))
      rw[hρ x hx (by rw[e1];exact hh)]
      exact ev_same (λt ht=>hlook0 t (looks_opnd hx ht))
    ·have hs:SameD o.dst E (E0.put n o.dst .u):=h0.weak.trans (SameD.put n E0 o.dst _)
     refine⟨_,false,undef,h,hs,hw.same (λt ht=>hs t (λhd=>hself t hd ht)),λd hd hn=>(by rw[hd];exact put_val E0 _ hn),λh=>(by cases h),λ_=>rfl,λh=>(by cases h)⟩
   obtain⟨E1,r,v,k1,k2,k3⟩:=first
   obtain⟨E',q1,q2,q3⟩:=Zx hT js E1 (λk hk=>hf k (by simp[hk])) hp2 k1
   refine⟨E',q1,λt ht=>?_,λk hk ok hok=>?_⟩
   ·rw[q2 t (λk hk=>ht k (by simp[hk])),k2 t (ht j (by simp) o ho)]
   ·rcases List.mem_cons.1 hk with rfl|hk
    ·rw[ho]at hok;cases hok
     refine⟨r,v,k3.mono (λt ht=>q2 t (λk hk ok hok hd=>?_)) (λd hd=>q2 d (λk hk ok hok hd'=>?_)) (λ_=>rfl)⟩
     ·exact (hp1 k hk _ ok t ho hok hd).1 ht
     ·exact (hp1 k hk _ ok d ho hok hd').2 hd
    ·exact q3 k hk ok hok
  ·exact h.elim
theorem Za{ops:List Oper}{E:Env}{w:World}{R:Prop}:∀(js:List Nat),(∀j∈js,∀o,ops[j]?=some o→isFlt P o.op=true)→reAll P T ops E w R js →
  R∧∀j∈js,∀o,ops[j]?=some o→Wants ops o E true→∃d e,o.dst=some d∧E.get d=some e∧opH P T o.op o.type E.ev w λv _=>v=e.val
 | [],_,h=>⟨h,λj hj=>by cases hj⟩
 | j::js,hf,h=>by
  have hf':∀k∈js,∀o,ops[k]?=some o→isFlt P o.op=true:=λk hk=>hf k (by simp[hk])
  unfold reAll at h
  split at h
  ·rename_i o ho
   obtain⟨E0,h0,⟨hw,h⟩|⟨hw,h⟩⟩:=guardP_wants h
   ·unfold reP at h
    split at h
    ·rename_i d hd
     split at h
     ·rename_i e he
      have h1:opH P T o.op o.type E.ev w λv _=>v=e.val:=opH_mono _ h λv _ x=>x.1
      have h2:reAll P T ops E w R js:=by
       obtain⟨v,x,_⟩:=flt_opH o.op (hf j (by simp) o ho) h
       exact x.2
      obtain⟨r1,r2⟩:=Za js hf' h2
      refine⟨r1,λk hk ok hok hwk=>?_⟩
      rcases List.mem_cons.1 hk with rfl|hk
      ·rw[ho]at hok;cases hok;exact⟨d,e,hd,he,h1⟩
      ·exact r2 k hk ok hok hwk
     ·exact h.elim
    ·exact h.elim
   ·obtain⟨r1,r2⟩:=Za js hf' h
    refine⟨r1,λk hk ok hok hwk=>?_⟩
    rcases List.mem_cons.1 hk with rfl|hk
    ·rw[ho]at hok;cases hok
     have:=hw.unique hwk;cases this
    ·exact r2 k hk ok hok hwk
  ·exact h.elim
end
end Go.Proofs.YtfenmffiidchcaaGreat
