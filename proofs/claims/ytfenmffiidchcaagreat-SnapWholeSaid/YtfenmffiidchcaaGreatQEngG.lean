/- Part of the proof (my own). -/
import Derived.Test.YtfenmffiidchcaaGreatQEngD
import Derived.StillTail
namespace Go.Proofs.YtfenmffiidchcaaGreat
set_option linter.unusedVariables false
open Go.RowKit
theorem IZ{a b:Nat}:wA a b=true↔∀k,a.testBit k=true->b.testBit k=true:=by
 unfold wA
 rw[beq_iff]
 constructor
 ·intro h k hk
  have:(Nat.land a b).testBit k=true:=by rw[h];exact hk
  have e:(a &&& b).testBit k=true:=this
  rw[Nat.testBit_and]at e
  simp only[Bool.and_eq_true]at e
  exact e.2
 ·intro h
  show a &&& b=a
  apply Nat.eq_of_testBit_eq
  intro k
  rw[Nat.testBit_and]
  cases hk:a.testBit k with
  | true=>simp[h k hk]
  | false=>rfl
theorem SE{l:List Nat}{k:Nat}:(xN l).testBit k=true↔k∈l:=by
 induction l with
 | nil=>simp[xN]
 | cons j r ih=>
  simp only[xN,Nat.testBit_or,Bool.or_eq_true,ih,List.mem_cons,Nat.testBit_two_pow,decide_eq_true_eq]
  constructor
  ·rintro (h|h)
   ·exact .inl h.symm
   ·exact .inr h
  ·rintro (h|h)
   ·exact .inl h.symm
   ·exact .inr h
theorem w_(f:Nat->Bool):∀l:List Nat,ra f l=l.filter f
 | []=>rfl
 | j::r=>by
  simp only[ra,w_ f r,List.filter_cons]
  cases f j<;>simp
theorem Vc{f:Nat->Bool}{l:List Nat}:Bx f l=true↔∃c∈l,f c=true:=by
 induction l with
 | nil=>simp[Bx]
 | cons j r ih=>
  simp only[Bx]
  cases h:f j<;>simp[h,ih]
theorem Eh{f:Oper->Bool}:∀{l:List Oper} {s k:Nat},k∈idxs f l s↔∃o,s<=k/\l[k-s]?=some o/\f o=true
 | [],s,k=>by simp[idxs]
 | o::r,s,k=>by
  have ih:=@Eh f r (s+1) k
  have step:(∃o',s<=k/\(o::r)[k-s]?=some o'/\f o'=true)↔(k=s/\f o=true)\/∃o',s+1<=k/\r[k-(s+1)]?=some o'/\f o'=true:=by
   constructor
   ·rintro ⟨o',h1,h2,h3⟩
    by_cases hk:k=s
    ·subst hk;simp at h2;subst h2;exact .inl ⟨rfl,h3⟩
    ·refine .inr ⟨o',by omega,?_,h3⟩
     rw[show k-s=(k-(s+1))+1 by omega]at h2
     simpa using h2
   ·rintro (⟨rfl,h⟩|⟨o',h1,h2,h3⟩)
    ·exact⟨o,Nat.le_refl _,by simp,h⟩
    ·refine⟨o',by omega,?_,h3⟩
     rw[show k-s=(k-(s+1))+1 by omega]
     simpa using h2
  rw[step]
  simp only[idxs]
  cases h:f o with
  | true=>simp[ih]
  | false=>simp[ih]
theorem HJ{f:Oper->Bool}:∀{l:List Oper} {s:Nat},(idxs f l s).Pairwise (· < ·)
 | [],s=>by simp[idxs]
 | o::r,s=>by
  simp only[idxs]
  split
  ·refine List.pairwise_cons.2 ⟨λk hk=>?_,HJ⟩
   obtain⟨_,h,_⟩:=Eh.1 hk
   omega
  ·exact HJ
theorem FE{acc:List Nat}{j:Nat}:∀{es:List Edge},(s7 acc es).testBit j=true↔∃e∈es,Region.binds .any e=true/\(j=e.on\/(acc.getD e.on 0).testBit j=true)
 | []=>by simp[s7]
 | e::r=>by
  simp only[s7]
  cases h:Region.binds .any e with
  | true=>
   simp only[Nat.testBit_or,Bool.or_eq_true,FE (es:=r),Nat.testBit_two_pow,decide_eq_true_eq,List.mem_cons]
   constructor
   ·rintro ((⟨e',h1,h2⟩|h1)|h1)
    ·exact⟨e',.inr h1,h2⟩
    ·exact⟨e,.inl rfl,h,.inl h1.symm⟩
    ·exact⟨e,.inl rfl,h,.inr h1⟩
   ·rintro ⟨e',rfl|h1,h2,h3⟩
    ·rcases h3 with h3|h3
     ·exact .inl (.inr h3.symm)
     ·exact .inr h3
    ·exact .inl (.inl ⟨e',h1,h2,h3⟩)
  | false=>
   simp only[FE (es:=r),List.mem_cons]
   constructor
   ·rintro ⟨e',h1,h2⟩;exact⟨e',.inr h1,h2⟩
   ·rintro ⟨e',rfl|h1,h2,h3⟩
    ·rw[h]at h2;cases h2
    ·exact⟨e',h1,h2,h3⟩
theorem FF:∀(l:List Oper) (acc:List Nat),∃x,pE l acc=acc++x/\x.length=l.length
 | [],acc=>⟨[],by simp[pE],rfl⟩
 | o::r,acc=>by
  obtain⟨x,h1,h2⟩:=FF r (acc++[s7 acc o.after.toList])
  exact⟨s7 acc o.after.toList::x,by rw[pE,h1];simp,by simp[h2]⟩
theorem NV:∀(l:List Oper) (acc:List Nat) (i:Nat) (o:Oper),l[i]?=some o->(pE l acc).getD (acc.length+i) 0=s7 ((pE l acc).take (acc.length+i)) o.after.toList
 | [],acc,i,o,h=>by simp at h
 | o'::r,acc,i,o,h=>by
  cases i with
  | zero=>
   simp at h;subst h
   obtain⟨x,h1,h2⟩:=FF r (acc++[s7 acc o'.after.toList])
   rw[pE,h1]
   simp
  | succ i=>
   have:=NV r (acc++[s7 acc o'.after.toList]) i o (by simpa using h)
   simp only[List.length_append,List.length_cons,List.length_nil]at this
   rw[show acc.length+(0+1)+i=acc.length+(i+1) by omega]at this
   rw[pE];exact this
section
variable {P:Program} {T:List Bool} {n:Nat} {ops:Array Oper}
structure RF(P:Program)(n:Nat)(l:List Oper):Prop where
 low:∀(i:Nat) (o:Oper) (d:Nat),l[i]?=some o->o.dst=some d->d<n
 back:∀(i:Nat) (o:Oper) (e:Edge),l[i]?=some o->e∈o.after.toList->Region.binds .any e=true->e.on<i
 self:∀(i:Nat) (o:Oper) (d:Nat),l[i]?=some o->kU P o.op=true->o.dst=some d->d∉looks l o
 one:∀(i j:Nat) (oi oj:Oper) (d:Nat),l[i]?=some oi->l[j]?=some oj->i≠j->oj.dst=some d->kU P oj.op=true->oi.dst≠some d
 dep:∀(i j:Nat) (oi oj:Oper) (d:Nat),l[i]?=some oi->l[j]?=some oj->i≠j->oj.dst=some d->d∈looks l oi->((pE l []).getD i 0).testBit j=true\/(kU P oj.op=false/\((pE l []).getD j 0).testBit i=true)
theorem bFf{l:List Oper}(h:EK P n l true=true):RF P n l:=by
 simp only[EK,j2,List.all_eq_true,List.mem_range]at h
 have key:∀i oi,l[i]?=some oi->_:=λi oi hi=>by
  have:=h i (List.getElem?_eq_some_iff.1 hi).1
  rw[hi]at this
  exact this
 refine⟨λi o d hi hd=>?_,λi o e hi he hb=>?_,λi o d hi hf hd=>?_,λi j oi oj d hi hj iW hd hf=>?_,λi j oi oj d hi hj iW hd hl=>?_⟩
 ·have:=key i o hi
  simp only[Bool.and_eq_true,List.all_eq_true]at this
  have:=this.1.1.1 d (by simp[hd])
  simpa using this
 ·have:=key i o hi
  simp only[Bool.and_eq_true,List.all_eq_true]at this
  have:=this.1.1.2 e he
  simpa [hb] using this
 ·have:=key i o hi
  simp only[Bool.and_eq_true]at this
  have:=this.1.2
  simp[hf,hd]at this
  exact this
 ·have:=key i oi hi
  simp only[Bool.and_eq_true,List.all_eq_true,List.mem_range]at this
  have:=this.2 j (List.getElem?_eq_some_iff.1 hj).1
  rw[hj]at this
  simp only[hd]at this
  simp only[Bool.or_eq_true,beq_iff_eq,iW,false_or,Bool.and_eq_true,hf,Bool.not_true,Bool.false_eq_true,bne_iff_ne,ne_eq]at this
  exact this.1
 ·have:=key i oi hi
  simp only[Bool.and_eq_true,List.all_eq_true,List.mem_range]at this
  have:=this.2 j (List.getElem?_eq_some_iff.1 hj).1
  rw[hj]at this
  simp only[hd]at this
  have hc:(looks l oi).contains d=true:=by simpa using hl
  simp only[Bool.or_eq_true,beq_iff_eq,iW,false_or,Bool.and_eq_true,hc,Bool.not_true,Bool.false_eq_true,Bool.not_eq_true']at this
  exact this.2
def Bt(l:List Oper)(i j:Nat):Prop:=((pE l []).getD i 0).testBit j=true
theorem Bt.iff{l:List Oper}(rf:RF P n l){i j:Nat}{o:Oper}(hi:l[i]?=some o):Bt l i j↔∃e∈o.after.toList,Region.binds .any e=true/\(j=e.on\/Bt l e.on j):=by
 unfold Bt
 have h1:=NV l [] i o hi
 simp only[List.length_nil,Nat.zero_add]at h1
 rw[h1,FE]
 have hg:∀e∈o.after.toList,Region.binds .any e=true->((pE l []).take i).getD e.on 0=(pE l []).getD e.on 0:=λe he hb=>by
  have:=rf.back i o e hi he hb
  simp[this]
 constructor
 ·rintro ⟨e,h1,h2,h3⟩;exact⟨e,h1,h2,h3.imp id (λh=>by rw[<- hg e h1 h2];exact h)⟩
 ·rintro ⟨e,h1,h2,h3⟩;exact⟨e,h1,h2,h3.imp id (λh=>by rw[hg e h1 h2];exact h)⟩
theorem Bt.op{l:List Oper}{i j:Nat}(h:Bt l i j):∃o,l[i]?=some o:=by
 unfold Bt at h
 obtain⟨x,h1,h2⟩:=FF l []
 by_cases hi:i<l.length
 ·exact⟨l[i],List.getElem?_eq_getElem hi⟩
 ·have:(pE l []).getD i 0=0:=by
   rw[List.getD_eq_getElem?_getD,List.getElem?_eq_none (by rw[h1];simp;omega)];rfl
  rw[this]at h;simp at h
theorem Bt.lt{l:List Oper}(rf:RF P n l):∀(i:Nat) {j:Nat},Bt l i j->j<i:=by
 intro i
 induction i using Nat.strongRecOn with
 | _ i ih=>
  intro j h
  obtain⟨o,ho⟩:=h.op
  obtain⟨e,h1,h2,h3⟩:=(Bt.iff rf ho).1 h
  have hb:=rf.back i o e ho h1 h2
  rcases h3 with rfl|h3
  ·exact hb
  ·have:=ih e.on hb h3;omega
theorem Bt.trans{l:List Oper}(rf:RF P n l):∀(i:Nat) {j k:Nat},Bt l i j->Bt l j k->Bt l i k:=by
 intro i
 induction i using Nat.strongRecOn with
 | _ i ih=>
  intro j k h hk
  obtain⟨o,ho⟩:=h.op
  obtain⟨e,h1,h2,h3⟩:=(Bt.iff rf ho).1 h
  have hb:=rf.back i o e ho h1 h2
  refine (Bt.iff rf ho).2 ⟨e,h1,h2,.inr ?_⟩
  rcases h3 with rfl|h3
  ·exact hk
  ·exact ih e.on hb h3 hk
end
open Go.RowKit
section
variable {P:Program} {T:List Bool} {n:Nat} {l:List Oper}
def Xs(P:Program)(l:List Oper)(listed:Array Bool):List Nat:=
 ((List.range l.length).filter λj=>!listed.getD j false && (match l[j]? with|some o=>kU P o.op|none=>false)).filterMap λj=>(l[j]?).bind (·.dst)
theorem wL{listed:Array Bool}{t:Nat}:t∈Xs P l listed↔∃j o,l[j]?=some o/\listed.getD j false=false/\kU P o.op=true/\o.dst=some t:=by
 unfold Xs
 simp only[List.mem_filterMap,List.mem_filter,List.mem_range,Bool.and_eq_true,Bool.not_eq_true']
 constructor
 ·rintro ⟨j,⟨h1,h2,h3⟩,h4⟩
  have hj:l[j]?=some l[j]:=List.getElem?_eq_getElem h1
  rw[hj]at h3 h4
  exact⟨j,_,hj,h2,h3,h4⟩
 ·rintro ⟨j,o,h1,h2,h3,h4⟩
  exact⟨j,⟨(List.getElem?_eq_some_iff.1 h1).1,h2,by rw[h1];exact h3⟩,by rw[h1];exact h4⟩
theorem jR.same{X X':List Nat}{E E':Env}{a:Act}(h:jR X n E a)(hX:∀t,t∉X'->t∉X)(hs:∀t,t∉X'->valOf E' t=valOf E t):jR X' n E' a:=by
 refine⟨h.size,h.defers,λt e ht he=>?_⟩
 have h1:=hs t ht
 unfold valOf at h1
 rw[he]at h1
 cases h2:E.get t with
 | none=>rw[h2]at h1;cases h1
 | some e'=>
  rw[h2]at h1
  simp at h1
  rw[h.get t e' (hX t ht) h2,h1]
theorem Jf{ops:Array Oper}{o:Oper}{X:List Nat}{E:Env}{a:Act}{r:Bool}(h:pg ops.toList o E r)(hA:jR X n E a)(hX:∀t∈looks ops.toList o,t∉X):Region.wanted o (yielded ops a.tmps)=r:=by
 unfold pg at h
 cases hg:o.guard with
 | none=>simp only[hg]at h;simp[Region.wanted,hg,h]
 | some p=>
  obtain⟨j,want⟩:=p
  simp only[hg]at h
  obtain⟨s,b,h1,h2,h3⟩:=h
  have hs:=hX s (Sw hg h1)
  unfold valOf at h2
  cases he:E.get s with
  | none=>rw[he]at h2;cases h2
  | some e=>
   rw[he]at h2
   simp at h2
   have:=hA.get s e hs he
   rw[h2]at this
   simp only[Region.wanted,hg,yielded]
   rw[show ((ops[j]?).bind (·.dst))=some s by simpa using h1]
   simp only[Option.bind_some,this]
   rw[h3]
   cases b<;>cases want<;>first|rfl|(rename_i b;cases b<;>rfl)
def Next(P:Program)(T:List Bool)(n:Nat)(l:List Oper)(K:Env->World->Prop)(k done en:Nat)(E:Env)(w:World):Prop:=
 match wA (j2 P l).cm done with
 | true=>K E w
 | false=>Dh (λc=>match l[c]? with
   | some o=>uZ l o.guard E (λE2=>tO P T n o E2 w λE3 w3=>(j2 P l).go P T n K k (done ||| 2 ^ c) en E3 w3)
     (λE2=>(j2 P l).go P T n K k (done ||| 2 ^ c) en (E2.put n o.dst .u) w)
   | none=>False)
  (ra (λc=>!Nat.testBit done c && (j2 P l).enabled done c) (j2 P l).kM)
theorem NL{F:Nat->Prop}:∀{r:List Nat},Dh F r->∀c∈r,F c
 | [],_,c,hc=>by cases hc
 | [x],h,c,hc=>by simp at hc;subst hc;exact h
 | x::y::r,h,c,hc=>by
  rcases List.mem_cons.1 hc with rfl|hc
  ·exact h.1
  ·exact NL h.2 c hc
theorem FO{c:Nat}:c∈(j2 P l).kM↔∃o,l[c]?=some o/\kU P o.op=false:=by
 have:=@Eh (λo=>!kU P o.op) l 0 c
 simpa [j2] using this
theorem BO{c:Nat}:c∈(j2 P l).uf↔∃o,l[c]?=some o/\kU P o.op=true:=by
 have:=@Eh (λo=>kU P o.op) l 0 c
 simpa [j2] using this
theorem Dq{c:Nat}:(j2 P l).cm.testBit c=true↔c∈(j2 P l).kM:=SE
theorem wX{done j:Nat}:(j2 P l).enabled done j=true↔∀c,Bt l j c->c∈(j2 P l).kM->done.testBit c=true:=by
 unfold RS.enabled
 rw[IZ]
 constructor
 ·intro h c hb hc
  refine h c ?_
  show (((j2 P l).B.getD j 0) &&& (j2 P l).cm).testBit c=true
  rw[Nat.testBit_and,Bool.and_eq_true]
  exact⟨hb,Dq.2 hc⟩
 ·intro h c hc
  have xg:(((j2 P l).B.getD j 0) &&& (j2 P l).cm).testBit c=true:=hc
  rw[Nat.testBit_and,Bool.and_eq_true]at xg
  exact h c xg.1 (Dq.1 xg.2)
theorem aW1{done j:Nat}:(j2 P l).CP done j=true↔∃c∈(j2 P l).kM,done.testBit c=true/\Bt l c j:=by
 unfold RS.CP
 rw[Vc]
 constructor
 ·rintro ⟨c,h1,h2⟩
  split at h2
  ·rename_i hd;exact⟨c,h1,hd,h2⟩
  ·cases h2
 ·rintro ⟨c,h1,h2,h3⟩
  exact⟨c,h1,by rw[h2];exact h3⟩
structure DI(P:Program)(T:List Bool)(n:Nat)(l:List Oper)(K:Env->World->Prop)(a0:Act)(listed:Array Bool)(a:Act)(w:World)(done:Nat)(E:Env):Prop where
 size:listed.size=l.length
 closed:∀i j,listed.getD i false=true->Bt l i j->listed.getD j false=true
 chain:∀c,c∈(j2 P l).kM->(listed.getD c false=true↔done.testBit c=true)
 agree:jR (Xs P l listed) n E a
 oA:lZ (tc l) a0 a
 Iq:∀j o,l[j]?=some o->kU P o.op=true->listed.getD j false=false->(j2 P l).enabled done j=true->∃r v,vF P l n o E w r v
 next:∃k en,(∀j o,l[j]?=some o->kU P o.op=true->(en.testBit j=true↔(j2 P l).enabled done j=true))/\Next P T n l K k done en E w
theorem Pm(hT:Calls.rM P T)(rf:RF P n l){K:Env->World->Prop}{a0:Act}{listed:Array Bool}{a:Act}{w:World}{k done en:Nat}{was:Nat->Prop}{E:Env}(size:listed.size=l.length)
  (closed:∀i j,listed.getD i false=true->Bt l i j->listed.getD j false=true) (chain:∀c,c∈(j2 P l).kM->(listed.getD c false=true↔done.testBit c=true))
  (agree:jR (Xs P l listed) n E a) (oA:lZ (tc l) a0 a) (sub:∀j,was j->(j2 P l).enabled done j=true) (down:∀j k,was j->Bt l j k->was k)
  (oX:∀j o,l[j]?=some o->kU P o.op=true->(en.testBit j=true↔was j))
  (awh:∀j o,l[j]?=some o->kU P o.op=true->listed.getD j false=true->was j)
  (a_h:∀j o,l[j]?=some o->kU P o.op=true->listed.getD j false=false->was j->∃r v w0,vF P l n o E w0 r v)
  (h:(j2 P l).go P T n K k done en E w):∃E',DI P T n l K a0 listed a w done E':=by
 cases k with
 | zero=>exact h.elim
 | succ k=>
  unfold RS.go at h
  have hR:(j2 P l).ops=l:=rfl
  rw[hR]at h
  obtain⟨h1,h2⟩:=Zf _ (λj hj o ho=>by
   rw[w_]at hj
   obtain⟨o',h1,h2⟩:=BO.1 (List.mem_filter.1 hj).1
   rw[ho]at h1;cases h1;exact h2) h
  have sH:∀j,j∈ra (λj=>!Nat.testBit en j && (j2 P l).enabled done j) (j2 P l).uf↔∃o,l[j]?=some o/\kU P o.op=true/\en.testBit j=false/\(j2 P l).enabled done j=true:=by
   intro j
   rw[w_,List.mem_filter,BO]
   simp only[Bool.and_eq_true,Bool.not_eq_true']
   constructor
   ·rintro ⟨⟨o,a,b⟩,c,d⟩;exact⟨o,a,b,c,d⟩
   ·rintro ⟨o,a,b,c,d⟩;exact⟨⟨o,a,b⟩,c,d⟩
  obtain⟨E',k1,k2,k3⟩:=ZG (n:=n) hT _ E (λj hj o ho=>by
   obtain⟨o',q1,q2,_⟩:=(sH j).1 hj
   rw[ho]at q1;cases q1
   exact⟨q2,λd hd=>rf.self j o d ho q2 hd⟩) (by
    rw[w_]
    refine List.Pairwise.imp_of_mem ?_ (List.Pairwise.filter _ (HJ (f:=λo=>kU P o.op) (l:=l) (s:=0)))
    intro j k hj hk ix oj ok d RB b5 hd
    have Ro:kU P ok.op=true:=by
     have Ch:=(List.mem_filter.1 hk).1
     obtain⟨o',q1,q2⟩:=BO.1 Ch
     rw[b5]at q1;cases q1;exact q2
    refine⟨λoZ=>?_,rf.one j k oj ok d RB b5 (by omega) hd Ro⟩
    rcases rf.dep j k oj ok d RB b5 (by omega) hd oZ with q|⟨q,_⟩
    ·have:=Bt.lt rf j (show Bt l j k from q);omega
    ·rw[Ro]at q;cases q) h1
  have Hj:∀j o,l[j]?=some o->kU P o.op=true->j∈ra (λj=>!Nat.testBit en j && (j2 P l).enabled done j) (j2 P l).uf->listed.getD j false=false:=λj o ho hf hj=>by
   obtain⟨o',q1,q2,q3,q4⟩:=(sH j).1 hj
   cases hl:listed.getD j false with
   | false=>rfl
   | true=>rw[(oX j o ho hf).2 (awh j o ho hf hl)]at q3;cases q3
  refine⟨E',size,closed,chain,agree.same (λt ht=>ht) (λt ht=>k2 t (λj hj o ho hd=>ht ?_)),oA,λj o ho hf hl he=>?_,k,_,?_,k1⟩
  ·obtain⟨o',q1,q2,q3,q4⟩:=(sH j).1 hj
   rw[ho]at q1;cases q1
   exact wL.2 ⟨j,o,ho,Hj j o ho q2 hj,q2,hd⟩
  ·
   by_cases hold:was j
   ·obtain⟨r,v,w0,hp⟩:=a_h j o ho hf hl hold
    have base:∃v,vF P l n o E w r v:=by
     cases r with
     | false=>exact⟨v,hp.C6,hp.val,λh=>(by cases h),hp.skip,λh=>(by cases h)⟩
     | true=>
      by_cases gw:pR P o.op=true
      ·have xu:j∈ra (λj=>Nat.testBit en j && !(j2 P l).CP done j && (match l[j]? with|some o=>pR P o.op|none=>false)) (j2 P l).uf:=by
        rw[w_,List.mem_filter]
        refine⟨BO.2 ⟨o,ho,hf⟩,?_⟩
        simp only[Bool.and_eq_true,Bool.not_eq_true',ho]
        refine⟨⟨(oX j o ho hf).2 hold,?_⟩,gw⟩
        cases hn:(j2 P l).CP done j with
        | false=>rfl
        | true=>
         obtain⟨c,c1,c2,c3⟩:=aW1.1 hn
         rw[closed c j ((chain c c1).2 c2) c3]at hl;cases hl
       obtain⟨d,e,d1,d2,d3⟩:=h2 j xu o ho hp.C6
       obtain⟨u,u1,u2⟩:=Gt o.op hf d3
       subst u1
       refine⟨e.val,hp.C6,λd' uo _=>?_,hp.all,λh=>(by cases h),λ_ w' CD ρ hF hρ=>?_⟩
       ·rw[d1]at uo;cases uo;simp[valOf,d2]
       ·exact Ik hT hF (λx hx=>hρ x hx (hp.all rfl gw x hx)) (u2 w' CD)
      ·exact⟨v,hp.mono (λ_ _=>rfl) (λ_ _=>rfl) (λh=>absurd h gw)⟩
    obtain⟨v,hp⟩:=base
    have NU:∀k ok,k∈ra (λj=>!Nat.testBit en j && (j2 P l).enabled done j) (j2 P l).uf->l[k]?=some ok->k≠j/\∀d,ok.dst=some d->d∉looks l o:=λk ok hk b5=>by
     obtain⟨o',q1,q2,q3,q4⟩:=(sH k).1 hk
     rw[b5]at q1;cases q1
     have Cj:k≠j:=λe=>by subst e;rw[(oX k o ho hf).2 hold]at q3;cases q3
     refine⟨Cj,λd hd oZ=>?_⟩
     rcases rf.dep j k o ok d ho b5 (Ne.symm Cj) hd oZ with q|⟨q,_⟩
     ·rw[(oX k ok b5 q2).2 (down j k hold q)]at q3;cases q3
     ·rw[q2]at q;cases q
    refine⟨r,v,hp.mono (λt ht=>k2 t (λk hk ok b5 hd=>?_)) (λd hd=>k2 d (λk hk ok b5 uo=>?_)) (λ_=>rfl)⟩
    ·exact (NU k ok hk b5).2 t hd ht
    ·obtain⟨o',q1,q2,_⟩:=(sH k).1 hk
     rw[b5]at q1;cases q1
     exact rf.one j k o ok d ho b5 (Ne.symm (NU k ok hk b5).1) uo q2 hd
   ·exact k3 j ((sH j).2 ⟨o,ho,hf,by
     cases hb:en.testBit j with
     | false=>rfl
     | true=>exact absurd ((oX j o ho hf).1 hb) hold,he⟩) o ho
  ·intro j o ho hf
   rw[Nat.testBit_or,Bool.or_eq_true,SE,w_,List.mem_filter,BO]
   constructor
   ·rintro (q|⟨_,q⟩)
    ·exact sub j ((oX j o ho hf).1 q)
    ·exact q
   ·intro q;exact .inr ⟨⟨o,ho,hf⟩,q⟩
end
open Go.RowKit
section
variable {P:Program} {T:List Bool} {n:Nat} {ops:Array Oper}
def left(listed:Array Bool)(m:Nat):Nat:=((List.range m).filter λj=>!listed.getD j false).length
theorem aRs{listed:Array Bool}{i:Nat}(hu:listed.getD i false=false)(hs:i<listed.size):∀m,left listed m=left (listed.setIfInBounds i true) m+(if i<m then 1 else 0):=by
 intro m
 induction m with
 | zero=>simp[left]
 | succ m ih=>
  unfold left at ih ⊢
  rw[List.range_succ,List.filter_append,List.filter_append,List.length_append,List.length_append,ih]
  by_cases AJ:m=i
  ·subst AJ
   have e1:(listed.setIfInBounds m true).getD m false=true:=by simp[hs]
   rw[List.filter_cons,List.filter_cons,hu,e1]
   simp
  ·rw[List.filter_cons,List.filter_cons,getD_set_ne false (λe=>AJ e.symm),List.filter_nil,List.filter_nil]
   by_cases sF:i<m
   ·have h2:i<m+1:=by omega
    simp only[sF,h2,if_true];omega
   ·have h2:¬i<m+1:=by omega
    simp only[sF,h2,if_false];omega
theorem aRt{listed:Array Bool}{m:Nat}(h:left listed m=0){j:Nat}(hj:j<m):listed.getD j false=true:=by
 have h0:=List.eq_nil_of_length_eq_zero h
 cases hb:listed.getD j false with
 | true=>rfl
 | false=>
  have:j∈(List.range m).filter λi=>!listed.getD i false:=List.mem_filter.2 ⟨List.mem_range.2 hj,by rw[hb];rfl⟩
  rw[h0]at this;cases this
theorem aRr{listed:Array Bool}{m k:Nat}(h:left listed m=k+1):∃j,j<m/\listed.getD j false=false:=by
 unfold left at h
 cases hl:(List.range m).filter λj=>!listed.getD j false with
 | nil=>rw[hl]at h;simp at h
 | cons j r=>
  have:j∈(List.range m).filter λj=>!listed.getD j false:=by rw[hl];simp
  obtain⟨h1,h2⟩:=List.mem_filter.1 this
  exact⟨j,List.mem_range.1 h1,by simpa using h2⟩
theorem Ve(hT:Calls.rM P T)(rf:RF P n ops.toList){K:Env->World->Prop}{Q:Exit->Act->World->Prop}{a0:Act}(hn:∀E' a' w',jR [] n E' a'->lZ (tc ops.toList) a0 a'->K E' w'->Q .normal a' w'):
  ∀(f:Nat) (listed:Array Bool) (a:Act) (w:World) (done:Nat) (E:Env),DI P T n ops.toList K a0 listed a w done E->left listed ops.size=f->wpAny P .any ops Q f listed a w:=by
 have xk:∀(i:Nat) (o:Oper),ops.toList[i]?=some o↔ops[i]?=some o:=λi o=>by simp
 intro f
 induction f with
 | zero=>
  intro listed a w done E di hf
  have nU:listed.size=ops.size:=by simpa using di.size
  have iz:∀j,j<ops.size->listed.getD j false=true:=λj hj=>aRt hf hj
  refine⟨?_,?_⟩
  ·cases hr:Region.ready .any ops listed with
   | nil=>rfl
   | cons i r=>
    have hi:i∈Region.ready .any ops listed:=by rw[hr];simp
    obtain⟨mT,oi,xA,_⟩:=mem_ready.1 hi
    have ix:i<ops.size:=(Array.getElem?_eq_some_iff.1 xA).1
    have:=iz i ix
    rw[getD_both mT]at this;cases this
  ·obtain⟨k,en,_,hx⟩:=di.next
   unfold Next at hx
   have Cx:wA (j2 P ops.toList).cm done=true:=IZ.2 λc hc=>by
    have xg:=Dq.1 hc
    obtain⟨o,ho,_⟩:=FO.1 xg
    have ix:c<ops.size:=by have:=(List.getElem?_eq_some_iff.1 ho).1;simpa using this
    exact (di.chain c xg).1 (iz c ix)
   rw[Cx]at hx
   refine hn E a w (di.agree.same (λt _ ht=>?_) (λ_ _=>rfl)) di.oA hx
   obtain⟨j,o,ho,hl,_⟩:=wL.1 ht
   have ix:j<ops.size:=by have:=(List.getElem?_eq_some_iff.1 ho).1;simpa using this
   rw[iz j ix]at hl;cases hl
 | succ f ih=>
  intro listed a w done E di hf
  have nU:listed.size=ops.size:=by simpa using di.size
  refine⟨λh0=>?_,λi hi=>?_⟩
  ·
   exfalso
   obtain⟨j0,ou,HC⟩:=aRr hf
   have He:∀(m:Nat),m<ops.size->listed.getD m false=false->False:=by
    intro m
    induction m using Nat.strongRecOn with
    | _ m ihm=>
     intro hm hu
     have RC:ops[m]?=some ops[m]:=Array.getElem?_eq_getElem hm
     have:m∈Region.ready .any ops listed:=mem_ready.2 ⟨getD_in (by omega) hu,_,RC,λe he hb=>by
      have ix:=rf.back m _ e ((xk m _).2 RC) (by simpa using he) hb
      cases hx:listed.getD e.on false with
      | true=>rfl
      | false=>exact (ihm e.on ix (by omega) hx).elim⟩
     rw[h0]at this;cases this
   exact He j0 ou HC
  ·obtain⟨mT,o,xA,aif⟩:=mem_ready.1 hi
   have hu:listed.getD i false=false:=getD_both mT
   have ix:i<ops.size:=(Array.getElem?_eq_some_iff.1 xA).1
   have ho:ops.toList[i]?=some o:=(xk i o).2 xA
   have hB:∀j,Bt ops.toList i j->listed.getD j false=true:=λj hj=>by
    obtain⟨e,h1,h2,h3⟩:=(Bt.iff rf ho).1 hj
    have:=aif e (by simpa using h1) h2
    rcases h3 with rfl|h3
    ·exact this
    ·exact di.closed e.on j this h3
   have oX:(j2 P ops.toList).enabled done i=true:=wX.2 λc hb hc=>(di.chain c hc).1 (hB c hb)
   have Rs:left (listed.setIfInBounds i true) ops.size=f:=by
    have:=aRs hu (by omega) ops.size
    rw[if_pos ix]at this;omega
   have G1:(listed.setIfInBounds i true).getD i false=true:=by
    have:i<listed.size:=by omega
    simp[this]
   have Rx:∀j,listed.getD j false=true->(listed.setIfInBounds i true).getD j false=true:=λj hj=>by
    by_cases e:i=j
    ·subst e;exact G1
    ·rw[getD_set_ne false e];exact hj
   have mu:∀j,(listed.setIfInBounds i true).getD j false=false->listed.getD j false=false/\j≠i:=λj hj=>by
    by_cases e:i=j
    ·subst e;rw[G1]at hj;cases hj
    ·rw[getD_set_ne false e]at hj;exact⟨hj,Ne.symm e⟩
   have P4:∀x y,(listed.setIfInBounds i true).getD x false=true->Bt ops.toList x y->(listed.setIfInBounds i true).getD y false=true:=λx y hx hb=>by
    by_cases e:i=x
    ·subst e;exact Rx y (hB y hb)
    ·rw[getD_set_ne false e]at hx;exact Rx y (di.closed x y hx hb)
   have AH:∀t∈looks ops.toList o,t∉Xs P ops.toList listed:=λt ht hx=>by
    obtain⟨j,oj,hj,hl,rm,hd⟩:=wL.1 hx
    by_cases e:i=j
    ·subst e;rw[ho]at hj;cases hj;exact rf.self i o t ho rm hd ht
    ·rcases rf.dep i j o oj t ho hj e hd ht with q|⟨q,_⟩
     ·rw[hB j q]at hl;cases hl
     ·rw[rm]at q;cases q
   have tC:∀x∈iE o.op,wH (Xs P ops.toList listed) x:=λx hx t ht=>AH t (Et hx ht)
   have P9:∀t,o.dst=some t->t∈tc ops.toList:=λt ht=>List.mem_filterMap.2 ⟨o,List.mem_of_getElem? ho,ht⟩
   have X1:∀t,t∉Xs P ops.toList (listed.setIfInBounds i true)->o.dst≠some t->t∉Xs P ops.toList listed:=λt h1 h2 h3=>by
    obtain⟨j,oj,hj,hl,rm,hd⟩:=wL.1 h3
    by_cases e:i=j
    ·subst e;rw[ho]at hj;cases hj;exact h2 hd
    ·exact h1 (wL.2 ⟨j,oj,hj,by rw[getD_set_ne false e];exact hl,rm,hd⟩)
   by_cases pw:kU P o.op=true
   ·
    obtain⟨r,v,hp⟩:=di.Iq i o ho pw hu oX
    have hw:=Jf hp.C6 di.agree AH
    have ry:wpAny P .any ops Q f (listed.setIfInBounds i true) (a.put o.dst v) w:=by
     refine ih _ _ w done E ⟨by simpa using di.size,P4,λc hc=>?_,?_,di.oA.trans (lZ.put a o.dst v _ P9),λj oj hj rm hl he=>?_,di.next⟩ Rs
     ·have u6:c≠i:=λe=>by
       obtain⟨oc,h1,h2⟩:=FO.1 hc
       subst e;rw[ho]at h1;cases h1;rw[pw]at h2;cases h2
      rw[getD_set_ne false (Ne.symm u6)]
      exact di.chain c hc
     ·refine⟨by cases o.dst<;>simp[Act.put,di.agree.size],by cases o.dst<;>exact di.agree.defers,λt e ht he=>?_⟩
      by_cases hd:o.dst=some t
      ·have Ru:=rf.low i o t ho hd
       have:=hp.val t hd Ru
       unfold valOf at this
       rw[he]at this
       simp at this
       rw[this,hd]
       simp[Act.put,di.agree.size,Ru]
      ·have:=di.agree.get t e (X1 t ht hd) he
       cases hdd:o.dst with
       | none=>exact this
       | some d=>
        have iW:d≠t:=λe=>hd (by rw[hdd,e])
        simp[Act.put,Array.getElem?_setIfInBounds_ne iW,this]
     ·exact di.Iq j oj hj rm (mu j hl).1 he
    unfold wpOp
    rw[xA]
    show if Region.wanted o (yielded ops a.tmps)=true then _ else _
    rw[hw]
    cases r with
    | true=>
     rw[if_pos rfl]
     refine .inl (jZ.upon (hp.run rfl w (λ_=>rfl) a.eval (λ_=>rfl) (λx hx hh=>di.agree.ev (tC x hx) hh)) ?_)
     rintro u w' ⟨rfl,rfl⟩
     exact ry
    | false=>
     rw[if_neg Bool.false_ne_true]
     rw[<- hp.skip rfl]
     exact ry
   ·
    have ait:kU P o.op=false:=by simpa using pw
    have D0:i∈(j2 P ops.toList).kM:=FO.2 ⟨o,ho,ait⟩
    have B2:done.testBit i=false:=by
     cases hb:done.testBit i with
     | false=>rfl
     | true=>rw[(di.chain i D0).2 hb]at hu;cases hu
    obtain⟨k,en,aim,hx⟩:=di.next
    unfold Next at hx
    have Cx:wA (j2 P ops.toList).cm done=false:=by
     cases hb:wA (j2 P ops.toList).cm done with
     | false=>rfl
     | true=>rw[IZ.1 hb i (Dq.2 D0)]at B2;cases B2
    rw[Cx]at hx
    have hx:=NL hx i (by
     rw[w_,List.mem_filter]
     exact⟨D0,by rw[B2,oX];rfl⟩)
    rw[ho]at hx
    have enter:∀(E3:Env) (v:Value) (w3:World),kh o.dst E E3->jR (Xs P ops.toList listed) n E3 (a.put o.dst v)->(j2 P ops.toList).go P T n K k (done ||| 2 ^ i) en E3 w3 ->
      wpAny P .any ops Q f (listed.setIfInBounds i true) (a.put o.dst v) w3:=by
     intro E3 v w3 hs hA hg
     have X0:∀t,t∉Xs P ops.toList (listed.setIfInBounds i true)->t∉Xs P ops.toList listed:=λt h1 h3=>by
      obtain⟨j,oj,hj,hl,rm,hd⟩:=wL.1 h3
      have k9:i≠j:=λe=>by subst e;rw[ho]at hj;cases hj;exact pw rm
      exact h1 (wL.2 ⟨j,oj,hj,by rw[getD_set_ne false k9];exact hl,rm,hd⟩)
     have Y':∀c,c∈(j2 P ops.toList).kM->((listed.setIfInBounds i true).getD c false=true↔(done ||| 2 ^ i).testBit c=true):=λc hc=>by
      rw[Nat.testBit_or,Bool.or_eq_true,Nat.testBit_two_pow,decide_eq_true_eq]
      by_cases e:i=c
      ·subst e;exact⟨λ_=>.inr rfl,λ_=>G1⟩
      ·rw[getD_set_ne false e,di.chain c hc]
       exact⟨.inl,λh=>h.elim id (λh=>absurd h e)⟩
     obtain⟨E',WC⟩:=Pm (n:=n) hT rf (K:=K) (a0:=a0) (was:=λj=>(j2 P ops.toList).enabled done j=true) (by simpa using di.size) P4 Y' (hA.same X0 (λ_ _=>rfl)) (di.oA.trans (lZ.put a o.dst v _ P9))
      (λj hj=>wX.2 λc hb hc=>by rw[Nat.testBit_or,wX.1 hj c hb hc];rfl)
      (λj k hj hb=>wX.2 λc hc hm=>wX.1 hj c (Bt.trans rf j hb hc) hm) aim
      (λj oj hj rm hl=>wX.2 λc hb hc=>by
       have k9:i≠j:=λe=>by subst e;rw[ho]at hj;cases hj;exact pw rm
       rw[getD_set_ne false k9]at hl
       exact (di.chain c hc).1 (di.closed j c hl hb))
      (λj oj hj rm hl he=>by
       obtain⟨hl,k9⟩:=mu j hl
       obtain⟨r,v,hp⟩:=di.Iq j oj hj rm hl he
       have Rl:j≠i:=k9
       refine⟨r,v,w,hp.mono (λt ht=>hs t (λhd=>?_)) (λd hd=>hs d (λuo=>?_)) (λ_=>rfl)⟩
       ·rcases rf.dep j i oj o t hj ho Rl hd ht with q|⟨_,q⟩
        ·rw[wX.1 he i q D0]at B2;cases B2
        ·rw[hB j q]at hl;cases hl
       ·exact rf.one i j o oj d ho hj (Ne.symm Rl) hd rm uo)
      hg
     exact ih _ _ w3 _ E' WC Rs
    obtain⟨E2,h0,⟨CE,h⟩|⟨CE,h⟩⟩:=Gy hx
    ·have hw:=Jf CE di.agree AH
     unfold wpOp
     rw[xA]
     show if Region.wanted o (yielded ops a.tmps)=true then _ else _
     rw[hw,if_pos rfl]
     refine .inl (Ua hT (bRt h) (di.agree.same (λt ht=>ht) (λt _=>h0 t (by simp))) tC ?_)
     rintro E3 v w3 hA ⟨hs,hg⟩
     exact enter E3 v w3 (h0.Bi.trans hs) hA hg
    ·have hw:=Jf CE di.agree AH
     unfold wpOp
     rw[xA]
     show if Region.wanted o (yielded ops a.tmps)=true then _ else _
     rw[hw,if_neg Bool.false_ne_true]
     exact enter _ undef w (h0.Bi.trans (kh.put n E2 o.dst _)) ((di.agree.same (λt ht=>ht) (λt _=>h0 t (by simp))).put o.dst .u) h
theorem WE(hT:Calls.rM P T)(hm:P.follows .mixedOrders=true){id:Nat}{K:Env->World->Prop}{Q:Exit->Act->World->Prop}{a:Act}{E:Env}{w:World}
  (b5:EK P n ops.toList true=true) (hA:jR [] n E a) (h:F3 P T n ops.toList K E w.drew) (hn:∀E' a' w',jR [] n E' a'->lZ (tc ops.toList) a a'->K E' w'->Q .normal a' w') :
  (Code.region id ops true).wp P Q a w:=by
 have rf:=bFf b5
 refine wp_region_any hm ?_
 have hr:∀j,(Array.replicate ops.size false).getD j false=false:=λj=>getD_replicate_false _ _
 unfold F3 at h
 obtain⟨E',di⟩:=Pm (n:=n) hT rf (K:=K) (a0:=a) (listed:=Array.replicate ops.size false) (a:=a) (was:=λ_=>False) (by simp) (λi j hi=>by rw[hr]at hi;cases hi) (λc _=>by rw[hr];simp)
  (hA.same (λt _=>by simp) (λ_ _=>rfl)) (.refl _ a) (λ_ h=>h.elim) (λ_ _ h=>h.elim) (λj o ho hf=>by simp) (λj o ho hf hl=>by rw[hr]at hl;cases hl) (λj o ho hf hl he=>he.elim) h
 refine Ve hT rf hn ops.size _ a w.drew 0 E' di ?_
 unfold left
 rw[List.filter_eq_self.2 (λi _=>by rw[hr];rfl)]
 simp
end
end Go.Proofs.YtfenmffiidchcaaGreat
