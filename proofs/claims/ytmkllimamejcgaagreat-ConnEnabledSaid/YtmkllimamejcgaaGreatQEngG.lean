/- Part of the proof. -/
import Derived.Test.YtmkllimamejcgaaGreatQEngD
import Derived.StillTail
namespace Go.Proofs.YtmkllimamejcgaaGreat
set_option linter.all false
open Go.RowKit
theorem MW{a b:Nat}:Bm a b=true↔∀k,a.testBit k=true->b.testBit k=true:=by
 unfold Bm
 rw[beq_iff]
 constructor
 ·intro h k hk
  have:(Nat.land a b).testBit k=true:=by rw[h];exact hk
  have e:(a &&& b).testBit k=true:=this
  rw[Nat.testBit_and]at e
  simp only[Bool.and_eq_true]at e
  exact e.2
 ·intro h
  show a &&& b=a
  apply Nat.eq_of_testBit_eq
  intro k
  rw[Nat.testBit_and]
  cases hk:a.testBit k with
  | true=>simp[h k hk]
  | false=>rfl
theorem Xf{l:List Nat}{k:Nat}:(CN l).testBit k=true↔k∈l:=by
 induction l with
 | nil=>simp[CN]
 | cons j r ih=>
  simp only[CN,Nat.testBit_or,Bool.or_eq_true,ih,List.mem_cons,Nat.testBit_two_pow,decide_eq_true_eq]
  constructor
  ·rintro (h|h)
   ·exact .inl h.symm
   ·exact .inr h
  ·rintro (h|h)
   ·exact .inl h.symm
   ·exact .inr h
theorem B0(f:Nat->Bool):∀l:List Nat,tS f l=l.filter f
 | []=>rfl
 | j::r=>by
  simp only[tS,B0 f r,List.filter_cons]
  cases f j<;>simp
theorem a_v{f:Nat->Bool}{l:List Nat}:ET f l=true↔∃c∈l,f c=true:=by
 induction l with
 | nil=>simp[ET]
 | cons j r ih=>
  simp only[ET]
  cases h:f j<;>simp[h,ih]
theorem Io{f:Oper->Bool}:∀{l:List Oper} {s k:Nat},k∈idxs f l s↔∃o,s<=k/\l[k-s]?=some o/\f o=true
 | [],s,k=>by simp[idxs]
 | o::r,s,k=>by
  have ih:=@Io f r (s+1) k
  have step:(∃o',s<=k/\(o::r)[k-s]?=some o'/\f o'=true)↔(k=s/\f o=true)\/∃o',s+1<=k/\r[k-(s+1)]?=some o'/\f o'=true:=by
   constructor
   ·rintro ⟨o',h1,h2,h3⟩
    by_cases hk:k=s
    ·subst hk;simp at h2;subst h2;exact .inl ⟨rfl,h3⟩
    ·refine .inr ⟨o',by omega,?_,h3⟩
     rw[show k-s=(k-(s+1))+1 by omega]at h2
     simpa using h2
   ·rintro (⟨rfl,h⟩|⟨o',h1,h2,h3⟩)
    ·exact⟨o,Nat.le_refl _,by simp,h⟩
    ·refine⟨o',by omega,?_,h3⟩
     rw[show k-s=(k-(s+1))+1 by omega]
     simpa using h2
  rw[step]
  simp only[idxs]
  cases h:f o with
  | true=>simp[ih]
  | false=>simp[ih]
theorem LK{f:Oper->Bool}:∀{l:List Oper} {s:Nat},(idxs f l s).Pairwise (· < ·)
 | [],s=>by simp[idxs]
 | o::r,s=>by
  simp only[idxs]
  split
  ·refine List.pairwise_cons.2 ⟨λk hk=>?_,LK⟩
   obtain⟨_,h,_⟩:=Io.1 hk
   omega
  ·exact LK
theorem JV{acc:List Nat}{j:Nat}:∀{es:List Edge},(vR acc es).testBit j=true↔∃e∈es,Region.binds .any e=true/\(j=e.on\/(acc.getD e.on 0).testBit j=true)
 | []=>by simp[vR]
 | e::r=>by
  simp only[vR]
  cases h:Region.binds .any e with
  | true=>
   simp only[Nat.testBit_or,Bool.or_eq_true,JV (es:=r),Nat.testBit_two_pow,decide_eq_true_eq,List.mem_cons]
   constructor
   ·rintro ((⟨e',h1,h2⟩|h1)|h1)
    ·exact⟨e',.inr h1,h2⟩
    ·exact⟨e,.inl rfl,h,.inl h1.symm⟩
    ·exact⟨e,.inl rfl,h,.inr h1⟩
   ·rintro ⟨e',rfl|h1,h2,h3⟩
    ·rcases h3 with h3|h3
     ·exact .inl (.inr h3.symm)
     ·exact .inr h3
    ·exact .inl (.inl ⟨e',h1,h2,h3⟩)
  | false=>
   simp only[JV (es:=r),List.mem_cons]
   constructor
   ·rintro ⟨e',h1,h2⟩;exact⟨e',.inr h1,h2⟩
   ·rintro ⟨e',rfl|h1,h2,h3⟩
    ·rw[h]at h2;cases h2
    ·exact⟨e',h1,h2,h3⟩
theorem JW:∀(l:List Oper) (acc:List Nat),∃x,tc l acc=acc++x/\x.length=l.length
 | [],acc=>⟨[],by simp[tc],rfl⟩
 | o::r,acc=>by
  obtain⟨x,h1,h2⟩:=JW r (acc++[vR acc o.after.toList])
  exact⟨vR acc o.after.toList::x,by rw[tc,h1];simp,by simp[h2]⟩
theorem Tt:∀(l:List Oper) (acc:List Nat) (i:Nat) (o:Oper),l[i]?=some o->(tc l acc).getD (acc.length+i) 0=vR ((tc l acc).take (acc.length+i)) o.after.toList
 | [],acc,i,o,h=>by simp at h
 | o'::r,acc,i,o,h=>by
  cases i with
  | zero=>
   simp at h;subst h
   obtain⟨x,h1,h2⟩:=JW r (acc++[vR acc o'.after.toList])
   rw[tc,h1]
   simp
  | succ i=>
   have:=Tt r (acc++[vR acc o'.after.toList]) i o (by simpa using h)
   simp only[List.length_append,List.length_cons,List.length_nil]at this
   rw[show acc.length+(0+1)+i=acc.length+(i+1) by omega]at this
   rw[tc];exact this
section
variable {P:Program} {T:List Bool} {n:Nat} {ops:Array Oper}
structure RF(P:Program)(n:Nat)(l:List Oper):Prop where
 low:∀(i:Nat) (o:Oper) (d:Nat),l[i]?=some o->o.dst=some d->d<n
 back:∀(i:Nat) (o:Oper) (e:Edge),l[i]?=some o->e∈o.after.toList->Region.binds .any e=true->e.on<i
 self:∀(i:Nat) (o:Oper) (d:Nat),l[i]?=some o->mi P o.op=true->o.dst=some d->d∉looks l o
 one:∀(i j:Nat) (oi oj:Oper) (d:Nat),l[i]?=some oi->l[j]?=some oj->i≠j->oj.dst=some d->mi P oj.op=true->oi.dst≠some d
 dep:∀(i j:Nat) (oi oj:Oper) (d:Nat),l[i]?=some oi->l[j]?=some oj->i≠j->oj.dst=some d->d∈looks l oi->((tc l []).getD i 0).testBit j=true\/(mi P oj.op=false/\((tc l []).getD j 0).testBit i=true)
theorem fRt{l:List Oper}(h:IX P n l true=true):RF P n l:=by
 simp only[IX,kO,List.all_eq_true,List.mem_range]at h
 have key:∀i oi,l[i]?=some oi->_:=λi oi hi=>by
  have:=h i (List.getElem?_eq_some_iff.1 hi).1
  rw[hi]at this
  exact this
 refine⟨λi o d hi hd=>?_,λi o e hi he hb=>?_,λi o d hi hf hd=>?_,λi j oi oj d hi hj iX hd hf=>?_,λi j oi oj d hi hj iX hd hl=>?_⟩
 ·have:=key i o hi
  simp only[Bool.and_eq_true,List.all_eq_true]at this
  have:=this.1.1.1 d (by simp[hd])
  simpa using this
 ·have:=key i o hi
  simp only[Bool.and_eq_true,List.all_eq_true]at this
  have:=this.1.1.2 e he
  simpa [hb] using this
 ·have:=key i o hi
  simp only[Bool.and_eq_true]at this
  have:=this.1.2
  simp[hf,hd]at this
  exact this
 ·have:=key i oi hi
  simp only[Bool.and_eq_true,List.all_eq_true,List.mem_range]at this
  have:=this.2 j (List.getElem?_eq_some_iff.1 hj).1
  rw[hj]at this
  simp only[hd]at this
  simp only[Bool.or_eq_true,beq_iff_eq,iX,false_or,Bool.and_eq_true,hf,Bool.not_true,Bool.false_eq_true,bne_iff_ne,ne_eq]at this
  exact this.1
 ·have:=key i oi hi
  simp only[Bool.and_eq_true,List.all_eq_true,List.mem_range]at this
  have:=this.2 j (List.getElem?_eq_some_iff.1 hj).1
  rw[hj]at this
  simp only[hd]at this
  have hc:(looks l oi).contains d=true:=by simpa using hl
  simp only[Bool.or_eq_true,beq_iff_eq,iX,false_or,Bool.and_eq_true,hc,Bool.not_true,Bool.false_eq_true,Bool.not_eq_true']at this
  exact this.2
def Bt(l:List Oper)(i j:Nat):Prop:=((tc l []).getD i 0).testBit j=true
theorem Bt.iff{l:List Oper}(rf:RF P n l){i j:Nat}{o:Oper}(hi:l[i]?=some o):Bt l i j↔∃e∈o.after.toList,Region.binds .any e=true/\(j=e.on\/Bt l e.on j):=by
 unfold Bt
 have h1:=Tt l [] i o hi
 simp only[List.length_nil,Nat.zero_add]at h1
 rw[h1,JV]
 have hg:∀e∈o.after.toList,Region.binds .any e=true->((tc l []).take i).getD e.on 0=(tc l []).getD e.on 0:=λe he hb=>by
  have:=rf.back i o e hi he hb
  simp[this]
 constructor
 ·rintro ⟨e,h1,h2,h3⟩;exact⟨e,h1,h2,h3.imp id (λh=>by rw[<- hg e h1 h2];exact h)⟩
 ·rintro ⟨e,h1,h2,h3⟩;exact⟨e,h1,h2,h3.imp id (λh=>by rw[hg e h1 h2];exact h)⟩
theorem Bt.op{l:List Oper}{i j:Nat}(h:Bt l i j):∃o,l[i]?=some o:=by
 unfold Bt at h
 obtain⟨x,h1,h2⟩:=JW l []
 by_cases hi:i<l.length
 ·exact⟨l[i],List.getElem?_eq_getElem hi⟩
 ·have:(tc l []).getD i 0=0:=by
   rw[List.getD_eq_getElem?_getD,List.getElem?_eq_none (by rw[h1];simp;omega)];rfl
  rw[this]at h;simp at h
theorem Bt.lt{l:List Oper}(rf:RF P n l):∀(i:Nat) {j:Nat},Bt l i j->j<i:=by
 intro i
 induction i using Nat.strongRecOn with
 | _ i ih=>
  intro j h
  obtain⟨o,ho⟩:=h.op
  obtain⟨e,h1,h2,h3⟩:=(Bt.iff rf ho).1 h
  have hb:=rf.back i o e ho h1 h2
  rcases h3 with rfl|h3
  ·exact hb
  ·have:=ih e.on hb h3;omega
theorem Bt.trans{l:List Oper}(rf:RF P n l):∀(i:Nat) {j k:Nat},Bt l i j->Bt l j k->Bt l i k:=by
 intro i
 induction i using Nat.strongRecOn with
 | _ i ih=>
  intro j k h hk
  obtain⟨o,ho⟩:=h.op
  obtain⟨e,h1,h2,h3⟩:=(Bt.iff rf ho).1 h
  have hb:=rf.back i o e ho h1 h2
  refine (Bt.iff rf ho).2 ⟨e,h1,h2,.inr ?_⟩
  rcases h3 with rfl|h3
  ·exact hk
  ·exact ih e.on hb h3 hk
end
open Go.RowKit
section
variable {P:Program} {T:List Bool} {n:Nat} {l:List Oper}
def Xs(P:Program)(l:List Oper)(listed:Array Bool):List Nat:=
 ((List.range l.length).filter λj=>!listed.getD j false && (match l[j]? with|some o=>mi P o.op|none=>false)).filterMap λj=>(l[j]?).bind (·.dst)
theorem Bz{listed:Array Bool}{t:Nat}:t∈Xs P l listed↔∃j o,l[j]?=some o/\listed.getD j false=false/\mi P o.op=true/\o.dst=some t:=by
 unfold Xs
 simp only[List.mem_filterMap,List.mem_filter,List.mem_range,Bool.and_eq_true,Bool.not_eq_true']
 constructor
 ·rintro ⟨j,⟨h1,h2,h3⟩,h4⟩
  have hj:l[j]?=some l[j]:=List.getElem?_eq_getElem h1
  rw[hj]at h3 h4
  exact⟨j,_,hj,h2,h3,h4⟩
 ·rintro ⟨j,o,h1,h2,h3,h4⟩
  exact⟨j,⟨(List.getElem?_eq_some_iff.1 h1).1,h2,by rw[h1];exact h3⟩,by rw[h1];exact h4⟩
theorem kx.same{X X':List Nat}{E E':Env}{a:Act}(h:kx X n E a)(hX:∀t,t∉X'->t∉X)(hs:∀t,t∉X'->valOf E' t=valOf E t):kx X' n E' a:=by
 refine⟨h.size,h.defers,λt e ht he=>?_⟩
 have h1:=hs t ht
 unfold valOf at h1
 rw[he]at h1
 cases h2:E.get t with
 | none=>rw[h2]at h1;cases h1
 | some e'=>
  rw[h2]at h1
  simp at h1
  rw[h.get t e' (hX t ht) h2,h1]
theorem Nc{ops:Array Oper}{o:Oper}{X:List Nat}{E:Env}{a:Act}{r:Bool}(h:sO ops.toList o E r)(hA:kx X n E a)(hX:∀t∈looks ops.toList o,t∉X):Region.wanted o (yielded ops a.tmps)=r:=by
 unfold sO at h
 cases hg:o.guard with
 | none=>simp only[hg]at h;simp[Region.wanted,hg,h]
 | some p=>
  obtain⟨j,want⟩:=p
  simp only[hg]at h
  obtain⟨s,b,h1,h2,h3⟩:=h
  have hs:=hX s (Xa hg h1)
  unfold valOf at h2
  cases he:E.get s with
  | none=>rw[he]at h2;cases h2
  | some e=>
   rw[he]at h2
   simp at h2
   have:=hA.get s e hs he
   rw[h2]at this
   simp only[Region.wanted,hg,yielded]
   rw[show ((ops[j]?).bind (·.dst))=some s by simpa using h1]
   simp only[Option.bind_some,this]
   rw[h3]
   cases b<;>cases want<;>first|rfl|(rename_i b;cases b<;>rfl)
def Next(P:Program)(T:List Bool)(n:Nat)(l:List Oper)(K:Env->World->Prop)(k done en:Nat)(E:Env)(w:World):Prop:=
 match Bm (kO P l).cm done with
 | true=>K E w
 | false=>G1 (λc=>match l[c]? with
   | some o=>xX l o.guard E (λE2=>wG P T n o E2 w λE3 w3=>(kO P l).go P T n K k (done ||| 2 ^ c) en E3 w3)
     (λE2=>(kO P l).go P T n K k (done ||| 2 ^ c) en (E2.put n o.dst .u) w)
   | none=>False)
  (tS (λc=>!Nat.testBit done c && (kO P l).enabled done c) (kO P l).nK)
theorem Ti{F:Nat->Prop}:∀{r:List Nat},G1 F r->∀c∈r,F c
 | [],_,c,hc=>by cases hc
 | [x],h,c,hc=>by simp at hc;subst hc;exact h
 | x::y::r,h,c,hc=>by
  rcases List.mem_cons.1 hc with rfl|hc
  ·exact h.1
  ·exact Ti h.2 c hc
theorem J2{c:Nat}:c∈(kO P l).nK↔∃o,l[c]?=some o/\mi P o.op=false:=by
 have:=@Io (λo=>!mi P o.op) l 0 c
 simpa [kO] using this
theorem Fh{c:Nat}:c∈(kO P l).w8↔∃o,l[c]?=some o/\mi P o.op=true:=by
 have:=@Io (λo=>mi P o.op) l 0 c
 simpa [kO] using this
theorem G'{c:Nat}:(kO P l).cm.testBit c=true↔c∈(kO P l).nK:=Xf
theorem BQ{done j:Nat}:(kO P l).enabled done j=true↔∀c,Bt l j c->c∈(kO P l).nK->done.testBit c=true:=by
 unfold RS.enabled
 rw[MW]
 constructor
 ·intro h c hb hc
  refine h c ?_
  show (((kO P l).B.getD j 0) &&& (kO P l).cm).testBit c=true
  rw[Nat.testBit_and,Bool.and_eq_true]
  exact⟨hb,G'.2 hc⟩
 ·intro h c hc
  have DA:(((kO P l).B.getD j 0) &&& (kO P l).cm).testBit c=true:=hc
  rw[Nat.testBit_and,Bool.and_eq_true]at DA
  exact h c DA.1 (G'.1 DA.2)
theorem e_t{done j:Nat}:(kO P l).Gh done j=true↔∃c∈(kO P l).nK,done.testBit c=true/\Bt l c j:=by
 unfold RS.Gh
 rw[a_v]
 constructor
 ·rintro ⟨c,h1,h2⟩
  split at h2
  ·rename_i hd;exact⟨c,h1,hd,h2⟩
  ·cases h2
 ·rintro ⟨c,h1,h2,h3⟩
  exact⟨c,h1,by rw[h2];exact h3⟩
structure DI(P:Program)(T:List Bool)(n:Nat)(l:List Oper)(K:Env->World->Prop)(a0:Act)(listed:Array Bool)(a:Act)(w:World)(done:Nat)(E:Env):Prop where
 size:listed.size=l.length
 closed:∀i j,listed.getD i false=true->Bt l i j->listed.getD j false=true
 chain:∀c,c∈(kO P l).nK->(listed.getD c false=true↔done.testBit c=true)
 agree:kx (Xs P l listed) n E a
 keep:nB (vW l) a0 a
 Mv:∀j o,l[j]?=some o->mi P o.op=true->listed.getD j false=false->(kO P l).enabled done j=true->∃r v,AE P l n o E w r v
 next:∃k en,(∀j o,l[j]?=some o->mi P o.op=true->(en.testBit j=true↔(kO P l).enabled done j=true))/\Next P T n l K k done en E w
theorem UW(hT:Calls.uu P T)(rf:RF P n l){K:Env->World->Prop}{a0:Act}{listed:Array Bool}{a:Act}{w:World}{k done en:Nat}{was:Nat->Prop}{E:Env}(size:listed.size=l.length)
  (closed:∀i j,listed.getD i false=true->Bt l i j->listed.getD j false=true) (chain:∀c,c∈(kO P l).nK->(listed.getD c false=true↔done.testBit c=true))
  (agree:kx (Xs P l listed) n E a) (keep:nB (vW l) a0 a) (sub:∀j,was j->(kO P l).enabled done j=true) (down:∀j k,was j->Bt l j k->was k)
  (pz:∀j o,l[j]?=some o->mi P o.op=true->(en.testBit j=true↔was j))
  (dI5:∀j o,l[j]?=some o->mi P o.op=true->listed.getD j false=true->was j)
  (fF0:∀j o,l[j]?=some o->mi P o.op=true->listed.getD j false=false->was j->∃r v w0,AE P l n o E w0 r v)
  (h:(kO P l).go P T n K k done en E w):∃E',DI P T n l K a0 listed a w done E':=by
 cases k with
 | zero=>exact h.elim
 | succ k=>
  unfold RS.go at h
  have hR:(kO P l).ops=l:=rfl
  rw[hR]at h
  obtain⟨h1,h2⟩:=Zb _ (λj hj o ho=>by
   rw[B0]at hj
   obtain⟨o',h1,h2⟩:=Fh.1 (List.mem_filter.1 hj).1
   rw[ho]at h1;cases h1;exact h2) h
  have xm:∀j,j∈tS (λj=>!Nat.testBit en j && (kO P l).enabled done j) (kO P l).w8↔∃o,l[j]?=some o/\mi P o.op=true/\en.testBit j=false/\(kO P l).enabled done j=true:=by
   intro j
   rw[B0,List.mem_filter,Fh]
   simp only[Bool.and_eq_true,Bool.not_eq_true']
   constructor
   ·rintro ⟨⟨o,a,b⟩,c,d⟩;exact⟨o,a,b,c,d⟩
   ·rintro ⟨o,a,b,c,d⟩;exact⟨⟨o,a,b⟩,c,d⟩
  obtain⟨E',k1,k2,k3⟩:=ZF (n:=n) hT _ E (λj hj o ho=>by
   obtain⟨o',q1,q2,_⟩:=(xm j).1 hj
   rw[ho]at q1;cases q1
   exact⟨q2,λd hd=>rf.self j o d ho q2 hd⟩) (by
    rw[B0]
    refine List.Pairwise.imp_of_mem ?_ (List.Pairwise.filter _ (LK (f:=λo=>mi P o.op) (l:=l) (s:=0)))
    intro j k hj hk iw oj ok d VV eW hd
    have VF:mi P ok.op=true:=by
     have uR:=(List.mem_filter.1 hk).1
     obtain⟨o',q1,q2⟩:=Fh.1 uR
     rw[eW]at q1;cases q1;exact q2
    refine⟨λrm=>?_,rf.one j k oj ok d VV eW (by omega) hd VF⟩
    rcases rf.dep j k oj ok d VV eW (by omega) hd rm with q|⟨q,_⟩
    ·have:=Bt.lt rf j (show Bt l j k from q);omega
    ·rw[VF]at q;cases q) h1
  have DN:∀j o,l[j]?=some o->mi P o.op=true->j∈tS (λj=>!Nat.testBit en j && (kO P l).enabled done j) (kO P l).w8->listed.getD j false=false:=λj o ho hf hj=>by
   obtain⟨o',q1,q2,q3,q4⟩:=(xm j).1 hj
   cases hl:listed.getD j false with
   | false=>rfl
   | true=>rw[(pz j o ho hf).2 (dI5 j o ho hf hl)]at q3;cases q3
  refine⟨E',size,closed,chain,agree.same (λt ht=>ht) (λt ht=>k2 t (λj hj o ho hd=>ht ?_)),keep,λj o ho hf hl he=>?_,k,_,?_,k1⟩
  ·obtain⟨o',q1,q2,q3,q4⟩:=(xm j).1 hj
   rw[ho]at q1;cases q1
   exact Bz.2 ⟨j,o,ho,DN j o ho q2 hj,q2,hd⟩
  ·
   by_cases hold:was j
   ·obtain⟨r,v,w0,hp⟩:=fF0 j o ho hf hl hold
    have base:∃v,AE P l n o E w r v:=by
     cases r with
     | false=>exact⟨v,hp.GI,hp.val,λh=>(by cases h),hp.skip,λh=>(by cases h)⟩
     | true=>
      by_cases iP:tB P o.op=true
      ·have Cn:j∈tS (λj=>Nat.testBit en j && !(kO P l).Gh done j && (match l[j]? with|some o=>tB P o.op|none=>false)) (kO P l).w8:=by
        rw[B0,List.mem_filter]
        refine⟨Fh.2 ⟨o,ho,hf⟩,?_⟩
        simp only[Bool.and_eq_true,Bool.not_eq_true',ho]
        refine⟨⟨(pz j o ho hf).2 hold,?_⟩,iP⟩
        cases hn:(kO P l).Gh done j with
        | false=>rfl
        | true=>
         obtain⟨c,c1,c2,c3⟩:=e_t.1 hn
         rw[closed c j ((chain c c1).2 c2) c3]at hl;cases hl
       obtain⟨d,e,d1,d2,d3⟩:=h2 j Cn o ho hp.GI
       obtain⟨u,u1,u2⟩:=Ks o.op hf d3
       subst u1
       refine⟨e.val,hp.GI,λd' sm _=>?_,hp.all,λh=>(by cases h),λ_ w' CF ρ hF hρ=>?_⟩
       ·rw[d1]at sm;cases sm;simp[valOf,d2]
       ·exact Ml hT hF (λx hx=>hρ x hx (hp.all rfl iP x hx)) (u2 w' CF)
      ·exact⟨v,hp.mono (λ_ _=>rfl) (λ_ _=>rfl) (λh=>absurd h iP)⟩
    obtain⟨v,hp⟩:=base
    have Tq:∀k ok,k∈tS (λj=>!Nat.testBit en j && (kO P l).enabled done j) (kO P l).w8->l[k]?=some ok->k≠j/\∀d,ok.dst=some d->d∉looks l o:=λk ok hk eW=>by
     obtain⟨o',q1,q2,q3,q4⟩:=(xm k).1 hk
     rw[eW]at q1;cases q1
     have K7:k≠j:=λe=>by subst e;rw[(pz k o ho hf).2 hold]at q3;cases q3
     refine⟨K7,λd hd rm=>?_⟩
     rcases rf.dep j k o ok d ho eW (Ne.symm K7) hd rm with q|⟨q,_⟩
     ·rw[(pz k ok eW q2).2 (down j k hold q)]at q3;cases q3
     ·rw[q2]at q;cases q
    refine⟨r,v,hp.mono (λt ht=>k2 t (λk hk ok eW hd=>?_)) (λd hd=>k2 d (λk hk ok eW sm=>?_)) (λ_=>rfl)⟩
    ·exact (Tq k ok hk eW).2 t hd ht
    ·obtain⟨o',q1,q2,_⟩:=(xm k).1 hk
     rw[eW]at q1;cases q1
     exact rf.one j k o ok d ho eW (Ne.symm (Tq k ok hk eW).1) sm q2 hd
   ·exact k3 j ((xm j).2 ⟨o,ho,hf,by
     cases hb:en.testBit j with
     | false=>rfl
     | true=>exact absurd ((pz j o ho hf).1 hb) hold,he⟩) o ho
  ·intro j o ho hf
   rw[Nat.testBit_or,Bool.or_eq_true,Xf,B0,List.mem_filter,Fh]
   constructor
   ·rintro (q|⟨_,q⟩)
    ·exact sub j ((pz j o ho hf).1 q)
    ·exact q
   ·intro q;exact .inr ⟨⟨o,ho,hf⟩,q⟩
end
open Go.RowKit
section
variable {P:Program} {T:List Bool} {n:Nat} {ops:Array Oper}
def left(listed:Array Bool)(m:Nat):Nat:=((List.range m).filter λj=>!listed.getD j false).length
theorem eI4{listed:Array Bool}{i:Nat}(hu:listed.getD i false=false)(hs:i<listed.size):∀m,left listed m=left (listed.setIfInBounds i true) m+(if i<m then 1 else 0):=by
 intro m
 induction m with
 | zero=>simp[left]
 | succ m ih=>
  unfold left at ih ⊢
  rw[List.range_succ,List.filter_append,List.filter_append,List.length_append,List.length_append,ih]
  by_cases sU:m=i
  ·subst sU
   have e1:(listed.setIfInBounds m true).getD m false=true:=by simp[hs]
   rw[List.filter_cons,List.filter_cons,hu,e1]
   simp
  ·rw[List.filter_cons,List.filter_cons,getD_set_ne false (λe=>sU e.symm),List.filter_nil,List.filter_nil]
   by_cases pP:i<m
   ·have h2:i<m+1:=by omega
    simp only[pP,h2,if_true];omega
   ·have h2:¬i<m+1:=by omega
    simp only[pP,h2,if_false];omega
theorem eI5{listed:Array Bool}{m:Nat}(h:left listed m=0){j:Nat}(hj:j<m):listed.getD j false=true:=by
 have h0:=List.eq_nil_of_length_eq_zero h
 cases hb:listed.getD j false with
 | true=>rfl
 | false=>
  have:j∈(List.range m).filter λi=>!listed.getD i false:=List.mem_filter.2 ⟨List.mem_range.2 hj,by rw[hb];rfl⟩
  rw[h0]at this;cases this
theorem eI3{listed:Array Bool}{m k:Nat}(h:left listed m=k+1):∃j,j<m/\listed.getD j false=false:=by
 unfold left at h
 cases hl:(List.range m).filter λj=>!listed.getD j false with
 | nil=>rw[hl]at h;simp at h
 | cons j r=>
  have:j∈(List.range m).filter λj=>!listed.getD j false:=by rw[hl];simp
  obtain⟨h1,h2⟩:=List.mem_filter.1 this
  exact⟨j,List.mem_range.1 h1,by simpa using h2⟩
theorem a_x(hT:Calls.uu P T)(rf:RF P n ops.toList){K:Env->World->Prop}{Q:Exit->Act->World->Prop}{a0:Act}(hn:∀E' a' w',kx [] n E' a'->nB (vW ops.toList) a0 a'->K E' w'->Q .normal a' w'):
  ∀(f:Nat) (listed:Array Bool) (a:Act) (w:World) (done:Nat) (E:Env),DI P T n ops.toList K a0 listed a w done E->left listed ops.size=f->wpAny P .any ops Q f listed a w:=by
 have DF:∀(i:Nat) (o:Oper),ops.toList[i]?=some o↔ops[i]?=some o:=λi o=>by simp
 intro f
 induction f with
 | zero=>
  intro listed a w done E di hf
  have kV:listed.size=ops.size:=by simpa using di.size
  have jJ:∀j,j<ops.size->listed.getD j false=true:=λj hj=>eI5 hf hj
  refine⟨?_,?_⟩
  ·cases hr:Region.ready .any ops listed with
   | nil=>rfl
   | cons i r=>
    have hi:i∈Region.ready .any ops listed:=by rw[hr];simp
    obtain⟨CE,oi,Cr,_⟩:=mem_ready.1 hi
    have iw:i<ops.size:=(Array.getElem?_eq_some_iff.1 Cr).1
    have:=jJ i iw
    rw[getD_both CE]at this;cases this
  ·obtain⟨k,en,_,hx⟩:=di.next
   unfold Next at hx
   have vt:Bm (kO P ops.toList).cm done=true:=MW.2 λc hc=>by
    have DA:=G'.1 hc
    obtain⟨o,ho,_⟩:=J2.1 DA
    have iw:c<ops.size:=by have:=(List.getElem?_eq_some_iff.1 ho).1;simpa using this
    exact (di.chain c DA).1 (jJ c iw)
   rw[vt]at hx
   refine hn E a w (di.agree.same (λt _ ht=>?_) (λ_ _=>rfl)) di.keep hx
   obtain⟨j,o,ho,hl,_⟩:=Bz.1 ht
   have iw:j<ops.size:=by have:=(List.getElem?_eq_some_iff.1 ho).1;simpa using this
   rw[jJ j iw]at hl;cases hl
 | succ f ih=>
  intro listed a w done E di hf
  have kV:listed.size=ops.size:=by simpa using di.size
  refine⟨λh0=>?_,λi hi=>?_⟩
  ·
   exfalso
   obtain⟨j0,xk,Lz⟩:=eI3 hf
   have Co:∀(m:Nat),m<ops.size->listed.getD m false=false->False:=by
    intro m
    induction m using Nat.strongRecOn with
    | _ m ihm=>
     intro hm hu
     have VX:ops[m]?=some ops[m]:=Array.getElem?_eq_getElem hm
     have:m∈Region.ready .any ops listed:=mem_ready.2 ⟨getD_in (by omega) hu,_,VX,λe he hb=>by
      have iw:=rf.back m _ e ((DF m _).2 VX) (by simpa using he) hb
      cases hx:listed.getD e.on false with
      | true=>rfl
      | false=>exact (ihm e.on iw (by omega) hx).elim⟩
     rw[h0]at this;cases this
   exact Co j0 xk Lz
  ·obtain⟨CE,o,Cr,dF7⟩:=mem_ready.1 hi
   have hu:listed.getD i false=false:=getD_both CE
   have iw:i<ops.size:=(Array.getElem?_eq_some_iff.1 Cr).1
   have ho:ops.toList[i]?=some o:=(DF i o).2 Cr
   have hB:∀j,Bt ops.toList i j->listed.getD j false=true:=λj hj=>by
    obtain⟨e,h1,h2,h3⟩:=(Bt.iff rf ho).1 hj
    have:=dF7 e (by simpa using h1) h2
    rcases h3 with rfl|h3
    ·exact this
    ·exact di.closed e.on j this h3
   have pz:(kO P ops.toList).enabled done i=true:=BQ.2 λc hb hc=>(di.chain c hc).1 (hB c hb)
   have VI:left (listed.setIfInBounds i true) ops.size=f:=by
    have:=eI4 hu (by omega) ops.size
    rw[if_pos iw]at this;omega
   have K3:(listed.setIfInBounds i true).getD i false=true:=by
    have:i<listed.size:=by omega
    simp[this]
   have VR:∀j,listed.getD j false=true->(listed.setIfInBounds i true).getD j false=true:=λj hj=>by
    by_cases e:i=j
    ·subst e;exact K3
    ·rw[getD_set_ne false e];exact hj
   have sh:∀j,(listed.setIfInBounds i true).getD j false=false->listed.getD j false=false/\j≠i:=λj hj=>by
    by_cases e:i=j
    ·subst e;rw[K3]at hj;cases hj
    ·rw[getD_set_ne false e]at hj;exact⟨hj,Ne.symm e⟩
   have Vj:∀x y,(listed.setIfInBounds i true).getD x false=true->Bt ops.toList x y->(listed.setIfInBounds i true).getD y false=true:=λx y hx hb=>by
    by_cases e:i=x
    ·subst e;exact VR y (hB y hb)
    ·rw[getD_set_ne false e]at hx;exact VR y (di.closed x y hx hb)
   have DJ:∀t∈looks ops.toList o,t∉Xs P ops.toList listed:=λt ht hx=>by
    obtain⟨j,oj,hj,hl,t_,hd⟩:=Bz.1 hx
    by_cases e:i=j
    ·subst e;rw[ho]at hj;cases hj;exact rf.self i o t ho t_ hd ht
    ·rcases rf.dep i j o oj t ho hj e hd ht with q|⟨q,_⟩
     ·rw[hB j q]at hl;cases hl
     ·rw[t_]at q;cases q
   have mT:∀x∈jw o.op,Bu (Xs P ops.toList listed) x:=λx hx t ht=>DJ t (Ix hx ht)
   have Vs:∀t,o.dst=some t->t∈vW ops.toList:=λt ht=>List.mem_filterMap.2 ⟨o,List.mem_of_getElem? ho,ht⟩
   have dFq:∀t,t∉Xs P ops.toList (listed.setIfInBounds i true)->o.dst≠some t->t∉Xs P ops.toList listed:=λt h1 h2 h3=>by
    obtain⟨j,oj,hj,hl,t_,hd⟩:=Bz.1 h3
    by_cases e:i=j
    ·subst e;rw[ho]at hj;cases hj;exact h2 hd
    ·exact h1 (Bz.2 ⟨j,oj,hj,by rw[getD_set_ne false e];exact hl,t_,hd⟩)
   by_cases sq:mi P o.op=true
   ·
    obtain⟨r,v,hp⟩:=di.Mv i o ho sq hu pz
    have hw:=Nc hp.GI di.agree DJ
    have sV:wpAny P .any ops Q f (listed.setIfInBounds i true) (a.put o.dst v) w:=by
     refine ih _ _ w done E ⟨by simpa using di.size,Vj,λc hc=>?_,?_,di.keep.trans (nB.put a o.dst v _ Vs),λj oj hj t_ hl he=>?_,di.next⟩ VI
     ·have HJ:c≠i:=λe=>by
       obtain⟨oc,h1,h2⟩:=J2.1 hc
       subst e;rw[ho]at h1;cases h1;rw[sq]at h2;cases h2
      rw[getD_set_ne false (Ne.symm HJ)]
      exact di.chain c hc
     ·refine⟨by cases o.dst<;>simp[Act.put,di.agree.size],by cases o.dst<;>exact di.agree.defers,λt e ht he=>?_⟩
      by_cases hd:o.dst=some t
      ·have VN:=rf.low i o t ho hd
       have:=hp.val t hd VN
       unfold valOf at this
       rw[he]at this
       simp at this
       rw[this,hd]
       simp[Act.put,di.agree.size,VN]
      ·have:=di.agree.get t e (dFq t ht hd) he
       cases hdd:o.dst with
       | none=>exact this
       | some d=>
        have iX:d≠t:=λe=>hd (by rw[hdd,e])
        simp[Act.put,Array.getElem?_setIfInBounds_ne iX,this]
     ·exact di.Mv j oj hj t_ (sh j hl).1 he
    unfold wpOp
    rw[Cr]
    show if Region.wanted o (yielded ops a.tmps)=true then _ else _
    rw[hw]
    cases r with
    | true=>
     rw[if_pos rfl]
     refine .inl (kH.upon (hp.run rfl w (λ_=>rfl) a.eval (λ_=>rfl) (λx hx hh=>di.agree.ev (mT x hx) hh)) ?_)
     rintro u w' ⟨rfl,rfl⟩
     exact sV
    | false=>
     rw[if_neg Bool.false_ne_true]
     rw[<- hp.skip rfl]
     exact sV
   ·
    have dIi:mi P o.op=false:=by simpa using sq
    have HW:i∈(kO P ops.toList).nK:=J2.2 ⟨o,ho,dIi⟩
    have Fw:done.testBit i=false:=by
     cases hb:done.testBit i with
     | false=>rfl
     | true=>rw[(di.chain i HW).2 hb]at hu;cases hu
    obtain⟨k,en,dIc,hx⟩:=di.next
    unfold Next at hx
    have vt:Bm (kO P ops.toList).cm done=false:=by
     cases hb:Bm (kO P ops.toList).cm done with
     | false=>rfl
     | true=>rw[MW.1 hb i (G'.2 HW)]at Fw;cases Fw
    rw[vt]at hx
    have hx:=Ti hx i (by
     rw[B0,List.mem_filter]
     exact⟨HW,by rw[Fw,pz];rfl⟩)
    rw[ho]at hx
    have enter:∀(E3:Env) (v:Value) (w3:World),lh o.dst E E3->kx (Xs P ops.toList listed) n E3 (a.put o.dst v)->(kO P ops.toList).go P T n K k (done ||| 2 ^ i) en E3 w3 ->
      wpAny P .any ops Q f (listed.setIfInBounds i true) (a.put o.dst v) w3:=by
     intro E3 v w3 hs hA hg
     have dFp:∀t,t∉Xs P ops.toList (listed.setIfInBounds i true)->t∉Xs P ops.toList listed:=λt h1 h3=>by
      obtain⟨j,oj,hj,hl,t_,hd⟩:=Bz.1 h3
      have m_:i≠j:=λe=>by subst e;rw[ho]at hj;cases hj;exact sq t_
      exact h1 (Bz.2 ⟨j,oj,hj,by rw[getD_set_ne false m_];exact hl,t_,hd⟩)
     have dFy:∀c,c∈(kO P ops.toList).nK->((listed.setIfInBounds i true).getD c false=true↔(done ||| 2 ^ i).testBit c=true):=λc hc=>by
      rw[Nat.testBit_or,Bool.or_eq_true,Nat.testBit_two_pow,decide_eq_true_eq]
      by_cases e:i=c
      ·subst e;exact⟨λ_=>.inr rfl,λ_=>K3⟩
      ·rw[getD_set_ne false e,di.chain c hc]
       exact⟨.inl,λh=>h.elim id (λh=>absurd h e)⟩
     obtain⟨E',di'⟩:=UW (n:=n) hT rf (K:=K) (a0:=a0) (was:=λj=>(kO P ops.toList).enabled done j=true) (by simpa using di.size) Vj dFy (hA.same dFp (λ_ _=>rfl)) (di.keep.trans (nB.put a o.dst v _ Vs))
      (λj hj=>BQ.2 λc hb hc=>by rw[Nat.testBit_or,BQ.1 hj c hb hc];rfl)
      (λj k hj hb=>BQ.2 λc hc hm=>BQ.1 hj c (Bt.trans rf j hb hc) hm) dIc
      (λj oj hj t_ hl=>BQ.2 λc hb hc=>by
       have m_:i≠j:=λe=>by subst e;rw[ho]at hj;cases hj;exact sq t_
       rw[getD_set_ne false m_]at hl
       exact (di.chain c hc).1 (di.closed j c hl hb))
      (λj oj hj t_ hl he=>by
       obtain⟨hl,m_⟩:=sh j hl
       obtain⟨r,v,hp⟩:=di.Mv j oj hj t_ hl he
       have VE:j≠i:=m_
       refine⟨r,v,w,hp.mono (λt ht=>hs t (λhd=>?_)) (λd hd=>hs d (λsm=>?_)) (λ_=>rfl)⟩
       ·rcases rf.dep j i oj o t hj ho VE hd ht with q|⟨_,q⟩
        ·rw[BQ.1 he i q HW]at Fw;cases Fw
        ·rw[hB j q]at hl;cases hl
       ·exact rf.one i j o oj d ho hj (Ne.symm VE) hd t_ sm)
      hg
     exact ih _ _ w3 _ E' di' VI
    obtain⟨E2,h0,⟨DX,h⟩|⟨DX,h⟩⟩:=Ku hx
    ·have hw:=Nc DX di.agree DJ
     unfold wpOp
     rw[Cr]
     show if Region.wanted o (yielded ops a.tmps)=true then _ else _
     rw[hw,if_pos rfl]
     refine .inl (aFd hT (gii h) (di.agree.same (λt ht=>ht) (λt _=>h0 t (by simp))) mT ?_)
     rintro E3 v w3 hA ⟨hs,hg⟩
     exact enter E3 v w3 (h0.Ev.trans hs) hA hg
    ·have hw:=Nc DX di.agree DJ
     unfold wpOp
     rw[Cr]
     show if Region.wanted o (yielded ops a.tmps)=true then _ else _
     rw[hw,if_neg Bool.false_ne_true]
     exact enter _ undef w (h0.Ev.trans (lh.put n E2 o.dst _)) ((di.agree.same (λt ht=>ht) (λt _=>h0 t (by simp))).put o.dst .u) h
theorem bR6(hT:Calls.uu P T)(hm:P.follows .mixedOrders=true){id:Nat}{K:Env->World->Prop}{Q:Exit->Act->World->Prop}{a:Act}{E:Env}{w:World}
  (eW:IX P n ops.toList true=true) (hA:kx [] n E a) (h:Kc P T n ops.toList K E w.drew) (hn:∀E' a' w',kx [] n E' a'->nB (vW ops.toList) a a'->K E' w'->Q .normal a' w') :
  (Code.region id ops true).wp P Q a w:=by
 have rf:=fRt eW
 refine wp_region_any hm ?_
 have hr:∀j,(Array.replicate ops.size false).getD j false=false:=λj=>getD_replicate_false _ _
 unfold Kc at h
 obtain⟨E',di⟩:=UW (n:=n) hT rf (K:=K) (a0:=a) (listed:=Array.replicate ops.size false) (a:=a) (was:=λ_=>False) (by simp) (λi j hi=>by rw[hr]at hi;cases hi) (λc _=>by rw[hr];simp)
  (hA.same (λt _=>by simp) (λ_ _=>rfl)) (.refl _ a) (λ_ h=>h.elim) (λ_ _ h=>h.elim) (λj o ho hf=>by simp) (λj o ho hf hl=>by rw[hr]at hl;cases hl) (λj o ho hf hl he=>he.elim) h
 refine a_x hT rf hn ops.size _ a w.drew 0 E' di ?_
 unfold left
 rw[List.filter_eq_self.2 (λi _=>by rw[hr];rfl)]
 simp
end
