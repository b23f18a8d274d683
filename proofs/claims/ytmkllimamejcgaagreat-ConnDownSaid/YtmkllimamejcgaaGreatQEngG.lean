/- Part. -/
import Derived.Test.YtmkllimamejcgaaGreatQEngD
import Derived.StillTail
namespace Go.Proofs.YtmkllimamejcgaaGreat
set_option linter.all false
open Go.RowKit
def zzu:=@Bool.and_eq_true
def xx3:=@List.filter_cons
def yym:=@List.length_nil
def zz3:=@List.all_eq_true
def wwk:=@Bool.not_eq_true'
def yye:=@Nat.zero_add
def vva:=@List.getD_eq_getElem?_getD
def yys:=@List.getElem?_eq_none
def yyz:=@List.mem_filter
def yyv:=@List.filter_append
def yy8:=@Array.getElem?_eq_some_iff
def wwn:=@Array.getElem?_eq_getElem
def yy9:=@List.mem_of_getElem?
def yy3:=@List.filter_eq_self
def KN{a b:Nat}:wg a b=true↔∀k,a.testBit k=true->b.testBit k=true:=by
 unfold wg;rw[beq_iff];constructor
 ·intro h k hk;have:(Nat.land a b).testBit k=true:=by rw[h];exact hk
  have e:(a &&& b).testBit k=true:=this;rw[Nat.testBit_and]at e
  simp only[zzu]at e;exact e.2
 intro h;show a &&& b=a;apply Nat.eq_of_testBit_eq;intro k;rw[Nat.testBit_and];cases hk:a.testBit k with
 | true=>simp[h k hk]
 | false=>rfl
def Vp{l:Α}{k:Nat}:(xY l).testBit k=true↔k∈l:=by
 induction l with
 | nil=>simp[xY]
 | cons j r ih=>
  simp only[xY,Nat.testBit_or,Bool.or_eq_true,ih,zz0,Nat.testBit_two_pow,zzw];constructor
  ·rintro (h|h)
   ·exact .inl h.symm
   exact .inr h
  rintro (h|h)
  ·exact .inl h.symm
  exact .inr h
def w9(f:Nat->Bool):∀l:Α,oW f l=l.filter f
 | []=>rfl
 | j::r=>by
  simp only[oW,w9 f r,xx3];cases f j<;>simp
def aF9{f:Nat->Bool}{l:Α}:Ck f l=true↔∃c∈l,f c=true:=by
 induction l with
 | nil=>simp[Ck]
 | cons j r ih=>
  simp only[Ck];cases h:f j<;>simp[h,ih]
def FT{f:Oper->Bool}:∀{l:List Oper} {s k:Nat},k∈idxs f l s↔∃o,s<=k/\l[k-s]?=some o/\f o=true
 | [],s,k=>by simp[idxs]
 | o::r,s,k=>by
  have ih:=@FT f r (s+1) k;have step:(∃o',s<=k/\(o::r)[k-s]?=some o'/\f o'=true)↔(k=s/\f o=true)\/∃o',s+1<=k/\r[k-(s+1)]?=some o'/\f o'=true:=by
   constructor
   ·rintro ⟨o',h1,h2,h3⟩;by_cases hk:k=s
    ·subst hk;simp at h2;subst h2;exact .inl ⟨rfl,h3⟩
    refine .inr ⟨o',by omega,?_,h3⟩;rw[show k-s=(k-(s+1))+1 by omega]at h2
    simpa using h2
   rintro (⟨rfl,h⟩|⟨o',h1,h2,h3⟩)
   ·exact⟨o,zzj _,by simp,h⟩
   refine⟨o',by omega,?_,h3⟩;rw[show k-s=(k-(s+1))+1 by omega];simpa using h2
  rw[step];simp only[idxs];cases h:f o with
  | true=>simp[ih]
  | false=>simp[ih]
def JA{f:Oper->Bool}:∀{l:List Oper} {s:Nat},(idxs f l s).Pairwise (· < ·)
 | [],s=>by simp[idxs]
 | o::r,s=>by
  simp only[idxs];split
  ·refine yyg.2 ⟨λk hk=>?_,JA⟩;obtain⟨_,h,_⟩:=FT.1 hk;omega
  exact JA
def HA{acc:Α}{j:Nat}:∀{es:List Edge},(sa acc es).testBit j=true↔∃e∈es,Region.binds .any e=true/\(j=e.on\/(acc.getD e.on 0).testBit j=true)
 | []=>by simp[sa]
 | e::r=>by
  simp only[sa];cases h:Region.binds .any e with
  | true=>
   simp only[Nat.testBit_or,Bool.or_eq_true,HA (es:=r),Nat.testBit_two_pow,zzw,zz0];constructor
   ·rintro ((⟨e',h1,h2⟩|h1)|h1)
    ·exact⟨e',.inr h1,h2⟩
    ·exact⟨e,.inl rfl,h,.inl h1.symm⟩
    exact⟨e,.inl rfl,h,.inr h1⟩
   rintro ⟨e',rfl|h1,h2,h3⟩
   ·rcases h3 with h3|h3
    ·exact .inl (.inr h3.symm)
    exact .inr h3
   exact .inl (.inl ⟨e',h1,h2,h3⟩)
  | false=>
   simp only[HA (es:=r),zz0];constructor
   ·rintro ⟨e',h1,h2⟩;exact⟨e',.inr h1,h2⟩
   rintro ⟨e',rfl|h1,h2,h3⟩
   ·rw[h]at h2;cases h2
   exact⟨e',h1,h2,h3⟩
def HB:∀(l:List Oper) (acc:Α),∃x,om l acc=acc++x/\x.length=l.length
 | [],acc=>⟨[],by simp[om],rfl⟩
 | o::r,acc=>by
  obtain⟨x,h1,h2⟩:=HB r (acc++[sa acc o.after.toList]);exact⟨sa acc o.after.toList::x,by rw[om,h1];simp,by simp[h2]⟩
def Rp:∀(l:List Oper) (acc:Α) (i:Nat) (o:Oper),l[i]?=some o->(om l acc).getD (acc.length+i) 0=sa ((om l acc).take (acc.length+i)) o.after.toList
 | [],acc,i,o,h=>by simp at h
 | o'::r,acc,i,o,h=>by
  cases i with
  | zero=>
   simp at h;subst h;obtain⟨x,h1,h2⟩:=HB r (acc++[sa acc o'.after.toList]);rw[om,h1];simp
  | succ i=>
   have:=Rp r (acc++[sa acc o'.after.toList]) i o (by simpa using h);simp only[zza,zzi,yym]at this;rw[show acc.length+(0+1)+i=acc.length+(i+1) by omega]at this
   rw[om];exact this
section
variable {P:Program} {T:List Bool} {n:Nat} {ops:Array Oper}
structure RF(P:Program)(n:Nat)(l:List Oper):Prop where
 low:∀(i:Nat) (o:Oper) (d:Nat),l[i]?=some o->o.dst=some d->d<n
 back:∀(i:Nat) (o:Oper) (e:Edge),l[i]?=some o->e∈o.after.toList->Region.binds .any e=true->e.on<i
 self:∀(i:Nat) (o:Oper) (d:Nat),l[i]?=some o->iq P o.op=true->o.dst=some d->d∉looks l o
 one:∀(i j:Nat) (oi oj:Oper) (d:Nat),l[i]?=some oi->l[j]?=some oj->i≠j->oj.dst=some d->iq P oj.op=true->oi.dst≠some d
 dep:∀(i j:Nat) (oi oj:Oper) (d:Nat),l[i]?=some oi->l[j]?=some oj->i≠j->oj.dst=some d->d∈looks l oi->((om l []).getD i 0).testBit j=true\/(iq P oj.op=false/\((om l []).getD j 0).testBit i=true)
def czh{l:List Oper}(h:Gq P n l true=true):RF P n l:=by
 simp only[Gq,fP,zz3,List.mem_range]at h;have key:∀i oi,l[i]?=some oi->_:=λi oi hi=>by
  have:=h i (zzf.1 hi).1;rw[hi]at this
  exact this
 refine⟨λi o d hi hd=>?_,λi o e hi he hb=>?_,λi o d hi hf hd=>?_,λi j oi oj d hi hj dQ hd hf=>?_,λi j oi oj d hi hj dQ hd hl=>?_⟩
 ·have:=key i o hi;simp only[zzu,zz3]at this;have:=this.1.1.1 d (by simp[hd]);simpa using this
 ·have:=key i o hi;simp only[zzu,zz3]at this;have:=this.1.1.2 e he;simpa [hb] using this
 ·have:=key i o hi;simp only[zzu]at this;have:=this.1.2;simp[hf,hd]at this
  exact this
 ·have:=key i oi hi;simp only[zzu,zz3,List.mem_range]at this;have:=this.2 j (zzf.1 hj).1;rw[hj]at this
  simp only[hd]at this;simp only[Bool.or_eq_true,beq_iff_eq,dQ,false_or,zzu,hf,Bool.not_true,xxe,bne_iff_ne,ne_eq]at this;exact this.1
 have:=key i oi hi;simp only[zzu,zz3,List.mem_range]at this;have:=this.2 j (zzf.1 hj).1;rw[hj]at this
 simp only[hd]at this;have hc:(looks l oi).contains d=true:=by simpa using hl
 simp only[Bool.or_eq_true,beq_iff_eq,dQ,false_or,zzu,hc,Bool.not_true,xxe,wwk]at this;exact this.2
def Bt(l:List Oper)(i j:Nat):Prop:=((om l []).getD i 0).testBit j=true
def Bt.iff{l:List Oper}(rf:RF P n l){i j:Nat}{o:Oper}(hi:l[i]?=some o):Bt l i j↔∃e∈o.after.toList,Region.binds .any e=true/\(j=e.on\/Bt l e.on j):=by
 unfold Bt;have h1:=Rp l [] i o hi;simp only[yym,yye]at h1;rw[h1,HA];have hg:∀e∈o.after.toList,Region.binds .any e=true->((om l []).take i).getD e.on 0=(om l []).getD e.on 0:=λe he hb=>by
  have:=rf.back i o e hi he hb;simp[this]
 constructor
 ·rintro ⟨e,h1,h2,h3⟩;exact⟨e,h1,h2,h3.imp id (λh=>by rw[<- hg e h1 h2];exact h)⟩
 rintro ⟨e,h1,h2,h3⟩;exact⟨e,h1,h2,h3.imp id (λh=>by rw[hg e h1 h2];exact h)⟩
def Bt.op{l:List Oper}{i j:Nat}(h:Bt l i j):∃o,l[i]?=some o:=by
 unfold Bt at h;obtain⟨x,h1,h2⟩:=HB l [];by_cases hi:i<l.length
 ·exact⟨l[i],zzc hi⟩
 have:(om l []).getD i 0=0:=by
  rw[vva,yys (by rw[h1];simp;omega)];rfl
 rw[this]at h;simp at h
def Bt.lt{l:List Oper}(rf:RF P n l):∀(i:Nat) {j:Nat},Bt l i j->j<i:=by
 intro i;induction i using Nat.strongRecOn with
 | _ i ih=>
  intro j h;obtain⟨o,ho⟩:=h.op;obtain⟨e,h1,h2,h3⟩:=(Bt.iff rf ho).1 h;have hb:=rf.back i o e ho h1 h2;rcases h3 with rfl|h3
  ·exact hb
  have:=ih e.on hb h3;omega
def Bt.trans{l:List Oper}(rf:RF P n l):∀(i:Nat) {j k:Nat},Bt l i j->Bt l j k->Bt l i k:=by
 intro i;induction i using Nat.strongRecOn with
 | _ i ih=>
  intro j k h hk;obtain⟨o,ho⟩:=h.op;obtain⟨e,h1,h2,h3⟩:=(Bt.iff rf ho).1 h;have hb:=rf.back i o e ho h1 h2;refine (Bt.iff rf ho).2 ⟨e,h1,h2,.inr ?_⟩;rcases h3 with rfl|h3
  ·exact hk
  exact ih e.on hb h3 hk
end
open Go.RowKit
section
variable {P:Program} {T:List Bool} {n:Nat} {l:List Oper}
def Xs(P:Program)(l:List Oper)(listed:Array Bool):Α:=
 ((List.range l.length).filter λj=>!listed.getD j false && (match l[j]? with|some o=>iq P o.op|none=>false)).filterMap λj=>(l[j]?).bind (·.dst)
def wB{listed:Array Bool}{t:Nat}:t∈Xs P l listed↔∃j o,l[j]?=some o/\listed.getD j false=false/\iq P o.op=true/\o.dst=some t:=by
 unfold Xs;simp only[List.mem_filterMap,yyz,List.mem_range,zzu,wwk];constructor
 ·rintro ⟨j,⟨h1,h2,h3⟩,h4⟩;have hj:l[j]?=some l[j]:=zzc h1;rw[hj]at h3 h4
  exact⟨j,_,hj,h2,h3,h4⟩
 rintro ⟨j,o,h1,h2,h3,h4⟩;exact⟨j,⟨(zzf.1 h1).1,h2,by rw[h1];exact h3⟩,by rw[h1];exact h4⟩
def fD.same{X X':Α}{E E':Env}{a:Act}(h:fD X n E a)(hX:∀t,t∉X'->t∉X)(hs:∀t,t∉X'->valOf E' t=valOf E t):fD X' n E' a:=by
 refine⟨h.size,h.defers,λt e ht he=>?_⟩;have h1:=hs t ht;unfold valOf at h1;rw[he]at h1
 cases h2:E.get t with
 | none=>rw[h2]at h1;cases h1
 | some e'=>
  rw[h2]at h1
  simp at h1;rw[h.get t e' (hX t ht) h2,h1]
def K5{ops:Array Oper}{o:Oper}{X:Α}{E:Env}{a:Act}{r:Bool}(h:nF ops.toList o E r)(hA:fD X n E a)(hX:∀t∈looks ops.toList o,t∉X):Region.wanted o (yielded ops a.tmps)=r:=by
 unfold nF at h;cases hg:o.guard with
 | none=>simp only[hg]at h;simp[Region.wanted,hg,h]
 | some p=>
  obtain⟨j,want⟩:=p;simp only[hg]at h;obtain⟨s,b,h1,h2,h3⟩:=h;have hs:=hX s (Vk hg h1);unfold valOf at h2;cases he:E.get s with
  | none=>rw[he]at h2;cases h2
  | some e=>
   rw[he]at h2
   simp at h2;have:=hA.get s e hs he;rw[h2]at this
   simp only[Region.wanted,hg,yielded];rw[show ((ops[j]?).bind (·.dst))=some s by simpa using h1];simp only[Option.bind_some,this];rw[h3];cases b<;>cases want<;>first|rfl|(rename_i b;cases b<;>rfl)
def Next(P:Program)(T:List Bool)(n:Nat)(l:List Oper)(K:Env->Ζ->Prop)(k done en:Nat)(E:Env)(w:Ζ):Prop:=
 match wg (fP P l).cm done with
 | true=>K E w
 | false=>Eo (λc=>match l[c]? with
   | some o=>ur l o.guard E (λE2=>sR P T n o E2 w λE3 w3=>(fP P l).go P T n K k (done ||| 2 ^ c) en E3 w3)
     (λE2=>(fP P l).go P T n K k (done ||| 2 ^ c) en (E2.put n o.dst .u) w)
   | none=>False)
  (oW (λc=>!Nat.testBit done c && (fP P l).enabled done c) (fP P l).jC)
def Rg{F:Nat->Prop}:∀{r:Α},Eo F r->∀c∈r,F c
 | [],_,c,hc=>by cases hc
 | [x],h,c,hc=>by simp at hc;subst hc;exact h
 | x::y::r,h,c,hc=>by
  rcases zz0.1 hc with rfl|hc
  ·exact h.1
  exact Rg h.2 c hc
def HH{c:Nat}:c∈(fP P l).jC↔∃o,l[c]?=some o/\iq P o.op=false:=by
 have:=@FT (λo=>!iq P o.op) l 0 c;simpa [fP] using this
def CI{c:Nat}:c∈(fP P l).tj↔∃o,l[c]?=some o/\iq P o.op=true:=by
 have:=@FT (λo=>iq P o.op) l 0 c;simpa [fP] using this
def EC{c:Nat}:(fP P l).cm.testBit c=true↔c∈(fP P l).jC:=Vp
def wR{done j:Nat}:(fP P l).enabled done j=true↔∀c,Bt l j c->c∈(fP P l).jC->done.testBit c=true:=by
 unfold RS.enabled;rw[KN];constructor
 ·intro h c hb hc;refine h c ?_;show (((fP P l).B.getD j 0) &&& (fP P l).cm).testBit c=true;rw[Nat.testBit_and,zzu];exact⟨hb,EC.2 hc⟩
 intro h c hc;have AX:(((fP P l).B.getD j 0) &&& (fP P l).cm).testBit c=true:=hc;rw[Nat.testBit_and,zzu]at AX
 exact h c AX.1 (EC.1 AX.2)
def b_i{done j:Nat}:(fP P l).DG done j=true↔∃c∈(fP P l).jC,done.testBit c=true/\Bt l c j:=by
 unfold RS.DG;rw[aF9];constructor
 ·rintro ⟨c,h1,h2⟩;split at h2
  ·rename_i hd;exact⟨c,h1,hd,h2⟩
  cases h2
 rintro ⟨c,h1,h2,h3⟩;exact⟨c,h1,by rw[h2];exact h3⟩
structure DI(P:Program)(T:List Bool)(n:Nat)(l:List Oper)(K:Env->Ζ->Prop)(a0:Act)(listed:Array Bool)(a:Act)(w:Ζ)(done:Nat)(E:Env):Prop where
 size:listed.size=l.length
 closed:∀i j,listed.getD i false=true->Bt l i j->listed.getD j false=true
 chain:∀c,c∈(fP P l).jC->(listed.getD c false=true↔done.testBit c=true)
 agree:fD (Xs P l listed) n E a
 keep:jt (sj l) a0 a
 Kg:∀j o,l[j]?=some o->iq P o.op=true->listed.getD j false=false->(fP P l).enabled done j=true->∃r v,u7 P l n o E w r v
 next:∃k en,(∀j o,l[j]?=some o->iq P o.op=true->(en.testBit j=true↔(fP P l).enabled done j=true))/\Next P T n l K k done en E w
def S5(hT:Calls.pB P T)(rf:RF P n l){K:Env->Ζ->Prop}{a0:Act}{listed:Array Bool}{a:Act}{w:Ζ}{k done en:Nat}{was:Nat->Prop}{E:Env}(size:listed.size=l.length)
  (closed:∀i j,listed.getD i false=true->Bt l i j->listed.getD j false=true) (chain:∀c,c∈(fP P l).jC->(listed.getD c false=true↔done.testBit c=true))
  (agree:fD (Xs P l listed) n E a) (keep:jt (sj l) a0 a) (sub:∀j,was j->(fP P l).enabled done j=true) (down:∀j k,was j->Bt l j k->was k)
  (lg:∀j o,l[j]?=some o->iq P o.op=true->(en.testBit j=true↔was j))
  (bVw:∀j o,l[j]?=some o->iq P o.op=true->listed.getD j false=true->was j)
  (cwr:∀j o,l[j]?=some o->iq P o.op=true->listed.getD j false=false->was j->∃r v w0,u7 P l n o E w0 r v)
  (h:(fP P l).go P T n K k done en E w):∃E',DI P T n l K a0 listed a w done E':=by
 cases k with
 | zero=>exact h.elim
 | succ k=>
  unfold RS.go at h;have hR:(fP P l).ops=l:=rfl;rw[hR]at h
  obtain⟨h1,h2⟩:=Zb _ (λj hj o ho=>by
   rw[w9]at hj
   obtain⟨o',h1,h2⟩:=CI.1 (yyz.1 hj).1;rw[ho]at h1;cases h1;exact h2) h
  have tD:∀j,j∈oW (λj=>!Nat.testBit en j && (fP P l).enabled done j) (fP P l).tj↔∃o,l[j]?=some o/\iq P o.op=true/\en.testBit j=false/\(fP P l).enabled done j=true:=by
   intro j;rw[w9,yyz,CI];simp only[zzu,wwk];constructor
   ·rintro ⟨⟨o,a,b⟩,c,d⟩;exact⟨o,a,b,c,d⟩
   rintro ⟨o,a,b,c,d⟩;exact⟨⟨o,a,b⟩,c,d⟩
  obtain⟨E',k1,k2,k3⟩:=ZF (n:=n) hT _ E (λj hj o ho=>by
   obtain⟨o',q1,q2,_⟩:=(tD j).1 hj;rw[ho]at q1;cases q1
   exact⟨q2,λd hd=>rf.self j o d ho q2 hd⟩) (by
    rw[w9];refine List.Pairwise.imp_of_mem ?_ (List.Pairwise.filter _ (JA (f:=λo=>iq P o.op) (l:=l) (s:=0)));intro j k hj hk de oj ok d T9 cH hd;have TT:iq P ok.op=true:=by
     have pV:=(yyz.1 hk).1;obtain⟨o',q1,q2⟩:=CI.1 pV;rw[cH]at q1;cases q1;exact q2
    refine⟨λjZ=>?_,rf.one j k oj ok d T9 cH (by omega) hd TT⟩;rcases rf.dep j k oj ok d T9 cH (by omega) hd jZ with q|⟨q,_⟩
    ·have:=Bt.lt rf j (show Bt l j k from q);omega
    rw[TT]at q;cases q) h1
  have A_:∀j o,l[j]?=some o->iq P o.op=true->j∈oW (λj=>!Nat.testBit en j && (fP P l).enabled done j) (fP P l).tj->listed.getD j false=false:=λj o ho hf hj=>by
   obtain⟨o',q1,q2,q3,q4⟩:=(tD j).1 hj;cases hl:listed.getD j false with
   | false=>rfl
   | true=>rw[(lg j o ho hf).2 (bVw j o ho hf hl)]at q3;cases q3
  refine⟨E',size,closed,chain,agree.same (λt ht=>ht) (λt ht=>k2 t (λj hj o ho hd=>ht ?_)),keep,λj o ho hf hl he=>?_,k,_,?_,k1⟩
  ·obtain⟨o',q1,q2,q3,q4⟩:=(tD j).1 hj;rw[ho]at q1;cases q1
   exact wB.2 ⟨j,o,ho,A_ j o ho q2 hj,q2,hd⟩
  ·
   by_cases hold:was j
   ·obtain⟨r,v,w0,hp⟩:=cwr j o ho hf hl hold;have base:∃v,u7 P l n o E w r v:=by
     cases r with
     | false=>exact⟨v,hp.D4,hp.val,λh=>(by cases h),hp.skip,λh=>(by cases h)⟩
     | true=>
      by_cases dJ:oE P o.op=true
      ·have xC:j∈oW (λj=>Nat.testBit en j && !(fP P l).DG done j && (match l[j]? with|some o=>oE P o.op|none=>false)) (fP P l).tj:=by
        rw[w9,yyz];refine⟨CI.2 ⟨o,ho,hf⟩,?_⟩;simp only[zzu,wwk,ho];refine⟨⟨(lg j o ho hf).2 hold,?_⟩,dJ⟩;cases hn:(fP P l).DG done j with
        | false=>rfl
        | true=>
         obtain⟨c,c1,c2,c3⟩:=b_i.1 hn;rw[closed c j ((chain c c1).2 c2) c3]at hl;cases hl
       obtain⟨d,e,d1,d2,d3⟩:=h2 j xC o ho hp.D4;obtain⟨u,u1,u2⟩:=Il o.op hf d3;subst u1;refine⟨e.val,hp.D4,λd' mG _=>?_,hp.all,λh=>(by cases h),λ_ w' xP ρ hF hρ=>?_⟩
       ·rw[d1]at mG;cases mG;simp[valOf,d2]
       exact J7 hT hF (λx hx=>hρ x hx (hp.all rfl dJ x hx)) (u2 w' xP)
      exact⟨v,hp.mono (λ_ _=>rfl) (λ_ _=>rfl) (λh=>absurd h dJ)⟩
    obtain⟨v,hp⟩:=base;have Rn:∀k ok,k∈oW (λj=>!Nat.testBit en j && (fP P l).enabled done j) (fP P l).tj->l[k]?=some ok->k≠j/\∀d,ok.dst=some d->d∉looks l o:=λk ok hk cH=>by
     obtain⟨o',q1,q2,q3,q4⟩:=(tD k).1 hk;rw[cH]at q1;cases q1
     have IZ:k≠j:=λe=>by subst e;rw[(lg k o ho hf).2 hold]at q3;cases q3
     refine⟨IZ,λd hd jZ=>?_⟩;rcases rf.dep j k o ok d ho cH (Ne.symm IZ) hd jZ with q|⟨q,_⟩
     ·rw[(lg k ok cH q2).2 (down j k hold q)]at q3;cases q3
     rw[q2]at q;cases q
    refine⟨r,v,hp.mono (λt ht=>k2 t (λk hk ok cH hd=>?_)) (λd hd=>k2 d (λk hk ok cH mG=>?_)) (λ_=>rfl)⟩
    ·exact (Rn k ok hk cH).2 t hd ht
    obtain⟨o',q1,q2,_⟩:=(tD k).1 hk;rw[cH]at q1;cases q1
    exact rf.one j k o ok d ho cH (Ne.symm (Rn k ok hk cH).1) mG q2 hd
   exact k3 j ((tD j).2 ⟨o,ho,hf,by
    cases hb:en.testBit j with
    | false=>rfl
    | true=>exact absurd ((lg j o ho hf).1 hb) hold,he⟩) o ho
  intro j o ho hf;rw[Nat.testBit_or,Bool.or_eq_true,Vp,w9,yyz,CI];constructor
  ·rintro (q|⟨_,q⟩)
   ·exact sub j ((lg j o ho hf).1 q)
   exact q
  intro q;exact .inr ⟨⟨o,ho,hf⟩,q⟩
end
open Go.RowKit
section
variable {P:Program} {T:List Bool} {n:Nat} {ops:Array Oper}
def left(listed:Array Bool)(m:Nat):Nat:=((List.range m).filter λj=>!listed.getD j false).length
def bYs{listed:Array Bool}{i:Nat}(hu:listed.getD i false=false)(hs:i<listed.size):∀m,left listed m=left (listed.setIfInBounds i true) m+(if i<m then 1 else 0):=by
 intro m;induction m with
 | zero=>simp[left]
 | succ m ih=>
  unfold left at ih ⊢;rw[List.range_succ,yyv,yyv,zza,zza,ih];by_cases nO:m=i
  ·subst nO;have e1:(listed.setIfInBounds m true).getD m false=true:=by simp[hs]
   rw[xx3,xx3,hu,e1];simp
  rw[xx3,xx3,getD_set_ne false (λe=>nO e.symm),List.filter_nil,List.filter_nil];by_cases lJ:i<m
  ·have h2:i<m+1:=by omega
   simp only[lJ,h2,wwj];omega
  have h2:¬i<m+1:=by omega
  simp only[lJ,h2,wwb];omega
def bYt{listed:Array Bool}{m:Nat}(h:left listed m=0){j:Nat}(hj:j<m):listed.getD j false=true:=by
 have h0:=zzl h;cases hb:listed.getD j false with
 | true=>rfl
 | false=>
  have:j∈(List.range m).filter λi=>!listed.getD i false:=yyz.2 ⟨List.mem_range.2 hj,by rw[hb];rfl⟩;rw[h0]at this;cases this
def bYr{listed:Array Bool}{m k:Nat}(h:left listed m=k+1):∃j,j<m/\listed.getD j false=false:=by
 unfold left at h;cases hl:(List.range m).filter λj=>!listed.getD j false with
 | nil=>rw[hl]at h;simp at h
 | cons j r=>
  have:j∈(List.range m).filter λj=>!listed.getD j false:=by rw[hl];simp
  obtain⟨h1,h2⟩:=yyz.1 this;exact⟨j,List.mem_range.1 h1,by simpa using h2⟩
def aIb(hT:Calls.pB P T)(rf:RF P n ops.toList){K:Env->Ζ->Prop}{Q:Exit->Act->Ζ->Prop}{a0:Act}(hn:∀E' a' w',fD [] n E' a'->jt (sj ops.toList) a0 a'->K E' w'->Q .normal a' w'):
  ∀(f:Nat) (listed:Array Bool) (a:Act) (w:Ζ) (done:Nat) (E:Env),DI P T n ops.toList K a0 listed a w done E->left listed ops.size=f->wpAny P .any ops Q f listed a w:=by
 have A3:∀(i:Nat) (o:Oper),ops.toList[i]?=some o↔ops[i]?=some o:=λi o=>by simp
 intro f;induction f with
 | zero=>
  intro listed a w done E di hf;have fX:listed.size=ops.size:=by simpa using di.size
  have eF:∀j,j<ops.size->listed.getD j false=true:=λj hj=>bYt hf hj;refine⟨?_,?_⟩
  ·cases hr:Region.ready .any ops listed with
   | nil=>rfl
   | cons i r=>
    have hi:i∈Region.ready .any ops listed:=by rw[hr];simp
    obtain⟨xO,oi,xH,_⟩:=mem_ready.1 hi;have de:i<ops.size:=(yy8.1 xH).1;have:=eF i de;rw[getD_both xO]at this;cases this
  obtain⟨k,en,_,hx⟩:=di.next;unfold Next at hx;have rD:wg (fP P ops.toList).cm done=true:=KN.2 λc hc=>by
   have AX:=EC.1 hc;obtain⟨o,ho,_⟩:=HH.1 AX;have de:c<ops.size:=by have:=(zzf.1 ho).1;simpa using this
   exact (di.chain c AX).1 (eF c de)
  rw[rD]at hx
  refine hn E a w (di.agree.same (λt _ ht=>?_) (λ_ _=>rfl)) di.keep hx;obtain⟨j,o,ho,hl,_⟩:=wB.1 ht;have de:j<ops.size:=by have:=(zzf.1 ho).1;simpa using this
  rw[eF j de]at hl;cases hl
 | succ f ih=>
  intro listed a w done E di hf;have fX:listed.size=ops.size:=by simpa using di.size
  refine⟨λh0=>?_,λi hi=>?_⟩
  ·
   exfalso;obtain⟨j0,tC,Jp⟩:=bYr hf;have xD:∀(m:Nat),m<ops.size->listed.getD m false=false->False:=by
    intro m;induction m using Nat.strongRecOn with
    | _ m ihm=>
     intro hm hu;have T_:ops[m]?=some ops[m]:=wwn hm;have:m∈Region.ready .any ops listed:=mem_ready.2 ⟨getD_in (by omega) hu,_,T_,λe he hb=>by
      have de:=rf.back m _ e ((A3 m _).2 T_) (by simpa using he) hb;cases hx:listed.getD e.on false with
      | true=>rfl
      | false=>exact (ihm e.on de (by omega) hx).elim⟩
     rw[h0]at this;cases this
   exact xD j0 tC Jp
  obtain⟨xO,o,xH,bUv⟩:=mem_ready.1 hi;have hu:listed.getD i false=false:=getD_both xO;have de:i<ops.size:=(yy8.1 xH).1;have ho:ops.toList[i]?=some o:=(A3 i o).2 xH;have hB:∀j,Bt ops.toList i j->listed.getD j false=true:=λj hj=>by
   obtain⟨e,h1,h2,h3⟩:=(Bt.iff rf ho).1 hj;have:=bUv e (by simpa using h1) h2;rcases h3 with rfl|h3
   ·exact this
   exact di.closed e.on j this h3
  have lg:(fP P ops.toList).enabled done i=true:=wR.2 λc hb hc=>(di.chain c hc).1 (hB c hb);have TW:left (listed.setIfInBounds i true) ops.size=f:=by
   have:=bYs hu (by omega) ops.size;rw[zzd de]at this;omega
  have IU:(listed.setIfInBounds i true).getD i false=true:=by
   have:i<listed.size:=by omega
   simp[this]
  have T5:∀j,listed.getD j false=true->(listed.setIfInBounds i true).getD j false=true:=λj hj=>by
   by_cases e:i=j
   ·subst e;exact IU
   rw[getD_set_ne false e];exact hj
  have mY:∀j,(listed.setIfInBounds i true).getD j false=false->listed.getD j false=false/\j≠i:=λj hj=>by
   by_cases e:i=j
   ·subst e;rw[IU]at hj;cases hj
   rw[getD_set_ne false e]at hj;exact⟨hj,Ne.symm e⟩
  have Tw:∀x y,(listed.setIfInBounds i true).getD x false=true->Bt ops.toList x y->(listed.setIfInBounds i true).getD y false=true:=λx y hx hb=>by
   by_cases e:i=x
   ·subst e;exact T5 y (hB y hb)
   rw[getD_set_ne false e]at hx;exact T5 y (di.closed x y hx hb)
  have A7:∀t∈looks ops.toList o,t∉Xs P ops.toList listed:=λt ht hx=>by
   obtain⟨j,oj,hj,hl,pe,hd⟩:=wB.1 hx;by_cases e:i=j
   ·subst e;rw[ho]at hj;cases hj;exact rf.self i o t ho pe hd ht
   rcases rf.dep i j o oj t ho hj e hd ht with q|⟨q,_⟩
   ·rw[hB j q]at hl;cases hl
   rw[pe]at q;cases q
  have gT:∀x∈dZ o.op,wx (Xs P ops.toList listed) x:=λx hx t ht=>A7 t (F4 hx ht);have TE:∀t,o.dst=some t->t∈sj ops.toList:=λt ht=>List.mem_filterMap.2 ⟨o,yy9 ho,ht⟩;have bUc:∀t,t∉Xs P ops.toList (listed.setIfInBounds i true)->o.dst≠some t->t∉Xs P ops.toList listed:=λt h1 h2 h3=>by
   obtain⟨j,oj,hj,hl,pe,hd⟩:=wB.1 h3;by_cases e:i=j
   ·subst e;rw[ho]at hj;cases hj;exact h2 hd
   exact h1 (wB.2 ⟨j,oj,hj,by rw[getD_set_ne false e];exact hl,pe,hd⟩)
  by_cases na:iq P o.op=true
  ·
   obtain⟨r,v,hp⟩:=di.Kg i o ho na hu lg;have hw:=K5 hp.D4 di.agree A7;have rz:wpAny P .any ops Q f (listed.setIfInBounds i true) (a.put o.dst v) w:=by
    refine ih _ _ w done E ⟨by simpa using di.size,Tw,λc hc=>?_,?_,di.keep.trans (jt.put a o.dst v _ TE),λj oj hj pe hl he=>?_,di.next⟩ TW
    ·have uz:c≠i:=λe=>by
      obtain⟨oc,h1,h2⟩:=HH.1 hc;subst e;rw[ho]at h1;cases h1;rw[na]at h2;cases h2
     rw[getD_set_ne false (Ne.symm uz)];exact di.chain c hc
    ·refine⟨by cases o.dst<;>simp[Act.put,di.agree.size],by cases o.dst<;>exact di.agree.defers,λt e ht he=>?_⟩;by_cases hd:o.dst=some t
     ·have T1:=rf.low i o t ho hd;have:=hp.val t hd T1;unfold valOf at this;rw[he]at this
      simp at this;rw[this,hd];simp[Act.put,di.agree.size,T1]
     have:=di.agree.get t e (bUc t ht hd) he;cases hdd:o.dst with
     | none=>exact this
     | some d=>
      have dQ:d≠t:=λe=>hd (by rw[hdd,e]);simp[Act.put,Array.getElem?_setIfInBounds_ne dQ,this]
    exact di.Kg j oj hj pe (mY j hl).1 he
   unfold wpOp;rw[xH];show if Region.wanted o (yielded ops a.tmps)=true then _ else _
   rw[hw];cases r with
   | true=>
    rw[zzd rfl];refine .inl (fJ.upon (hp.run rfl w (λ_=>rfl) a.eval (λ_=>rfl) (λx hx hh=>di.agree.ev (gT x hx) hh)) ?_);rintro u w' ⟨rfl,rfl⟩;exact rz
   | false=>
    rw[zzb Bool.false_ne_true];rw[<- hp.skip rfl];exact rz
  
  have bU6:iq P o.op=false:=by simpa using na
  have Fz:i∈(fP P ops.toList).jC:=HH.2 ⟨o,ho,bU6⟩;have CY:done.testBit i=false:=by
   cases hb:done.testBit i with
   | false=>rfl
   | true=>rw[(di.chain i Fz).2 hb]at hu;cases hu
  obtain⟨k,en,bU0,hx⟩:=di.next;unfold Next at hx;have rD:wg (fP P ops.toList).cm done=false:=by
   cases hb:wg (fP P ops.toList).cm done with
   | false=>rfl
   | true=>rw[KN.1 hb i (EC.2 Fz)]at CY;cases CY
  rw[rD]at hx
  have hx:=Rg hx i (by
   rw[w9,yyz];exact⟨Fz,by rw[CY,lg];rfl⟩)
  rw[ho]at hx
  have enter:∀(E3:Env) (v:Ε) (w3:Ζ),gf o.dst E E3->fD (Xs P ops.toList listed) n E3 (a.put o.dst v)->(fP P ops.toList).go P T n K k (done ||| 2 ^ i) en E3 w3 ->
    wpAny P .any ops Q f (listed.setIfInBounds i true) (a.put o.dst v) w3:=by
   intro E3 v w3 hs hA hg;have bUb:∀t,t∉Xs P ops.toList (listed.setIfInBounds i true)->t∉Xs P ops.toList listed:=λt h1 h3=>by
    obtain⟨j,oj,hj,hl,pe,hd⟩:=wB.1 h3;have i_:i≠j:=λe=>by subst e;rw[ho]at hj;cases hj;exact na pe
    exact h1 (wB.2 ⟨j,oj,hj,by rw[getD_set_ne false i_];exact hl,pe,hd⟩)
   have bUk:∀c,c∈(fP P ops.toList).jC->((listed.setIfInBounds i true).getD c false=true↔(done ||| 2 ^ i).testBit c=true):=λc hc=>by
    rw[Nat.testBit_or,Bool.or_eq_true,Nat.testBit_two_pow,zzw];by_cases e:i=c
    ·subst e;exact⟨λ_=>.inr rfl,λ_=>IU⟩
    rw[getD_set_ne false e,di.chain c hc];exact⟨.inl,λh=>h.elim id (λh=>absurd h e)⟩
   obtain⟨E',di'⟩:=S5 (n:=n) hT rf (K:=K) (a0:=a0) (was:=λj=>(fP P ops.toList).enabled done j=true) (by simpa using di.size) Tw bUk (hA.same bUb (λ_ _=>rfl)) (di.keep.trans (jt.put a o.dst v _ TE))
    (λj hj=>wR.2 λc hb hc=>by rw[Nat.testBit_or,wR.1 hj c hb hc];rfl)
    (λj k hj hb=>wR.2 λc hc hm=>wR.1 hj c (Bt.trans rf j hb hc) hm) bU0
    (λj oj hj pe hl=>wR.2 λc hb hc=>by
     have i_:i≠j:=λe=>by subst e;rw[ho]at hj;cases hj;exact na pe
     rw[getD_set_ne false i_]at hl
     exact (di.chain c hc).1 (di.closed j c hl hb))
    (λj oj hj pe hl he=>by
     obtain⟨hl,i_⟩:=mY j hl;obtain⟨r,v,hp⟩:=di.Kg j oj hj pe hl he;have TR:j≠i:=i_;refine⟨r,v,w,hp.mono (λt ht=>hs t (λhd=>?_)) (λd hd=>hs d (λmG=>?_)) (λ_=>rfl)⟩
     ·rcases rf.dep j i oj o t hj ho TR hd ht with q|⟨_,q⟩
      ·rw[wR.1 he i q Fz]at CY;cases CY
      rw[hB j q]at hl;cases hl
     exact rf.one i j o oj d ho hj (Ne.symm TR) hd pe mG)
    hg
   exact ih _ _ w3 _ E' di' TW
  obtain⟨E2,h0,⟨Bj,h⟩|⟨Bj,h⟩⟩:=Io hx
  ·have hw:=K5 Bj di.agree A7;unfold wpOp;rw[xH];show if Region.wanted o (yielded ops a.tmps)=true then _ else _
   rw[hw,zzd rfl];refine .inl (Xn hT (cCa h) (di.agree.same (λt ht=>ht) (λt _=>h0 t (by simp))) gT ?_);rintro E3 v w3 hA ⟨hs,hg⟩;exact enter E3 v w3 (h0.BV.trans hs) hA hg
  have hw:=K5 Bj di.agree A7;unfold wpOp;rw[xH];show if Region.wanted o (yielded ops a.tmps)=true then _ else _
  rw[hw,zzb Bool.false_ne_true];exact enter _ undef w (h0.BV.trans (gf.put n E2 o.dst _)) ((di.agree.same (λt ht=>ht) (λt _=>h0 t (by simp))).put o.dst .u) h
def bwq(hT:Calls.pB P T)(hm:P.follows .mixedOrders=true){id:Nat}{K:Env->Ζ->Prop}{Q:Exit->Act->Ζ->Prop}{a:Act}{E:Env}{w:Ζ}
  (cH:Gq P n ops.toList true=true) (hA:fD [] n E a) (h:HV P T n ops.toList K E w.drew) (hn:∀E' a' w',fD [] n E' a'->jt (sj ops.toList) a a'->K E' w'->Q .normal a' w') :
  (Code.region id ops true).wp P Q a w:=by
 have rf:=czh cH;refine wp_region_any hm ?_;have hr:∀j,(Array.replicate ops.size false).getD j false=false:=λj=>getD_replicate_false _ _;unfold HV at h;obtain⟨E',di⟩:=S5 (n:=n) hT rf (K:=K) (a0:=a) (listed:=Array.replicate ops.size false) (a:=a) (was:=λ_=>False) (by simp) (λi j hi=>by rw[hr]at hi;cases hi) (λc _=>by rw[hr];simp)
  (hA.same (λt _=>by simp) (λ_ _=>rfl)) (.refl _ a) (λ_ h=>h.elim) (λ_ _ h=>h.elim) (λj o ho hf=>by simp) (λj o ho hf hl=>by rw[hr]at hl;cases hl) (λj o ho hf hl he=>he.elim) h
 refine aIb hT rf hn ops.size _ a w.drew 0 E' di ?_;unfold left;rw[yy3.2 (λi _=>by rw[hr];rfl)];simp
end
