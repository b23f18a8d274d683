/- Part. -/
import Derived.Test.YtlngdcpffiklgaaGreatQEngD
namespace Go.Proofs.YtlngdcpffiklgaaGreat
set_option linter.all false
open Go.RowKit
def zzu:=@Bool.and_eq_true
def xx5:=@List.filter_cons
def yym:=@List.length_nil
def zz5:=@List.all_eq_true
def wwn:=@Bool.not_eq_true'
def yya:=@Nat.zero_add
def vvd:=@List.getD_eq_getElem?_getD
def yyt:=@List.getElem?_eq_none
def yy0:=@List.mem_filter
def yyx:=@List.filter_append
def yy9:=@Array.getElem?_eq_some_iff
def wwr:=@Array.getElem?_eq_getElem
def yy5:=@List.mem_of_getElem?
def yy4:=@List.filter_eq_self
def K_{a b:Nat}:wA a b=true↔∀k,a.testBit k=true->b.testBit k=true:=by
 unfold wA;rw[beq_iff];constructor
 ·intro h k hk;have:(Nat.land a b).testBit k=true:=by rw[h];exact hk
  have e:(a &&& b).testBit k=true:=this;rw[Nat.testBit_and]at e
  simp only[zzu]at e;exact e.2
 intro h;show a &&& b=a;apply Nat.eq_of_testBit_eq;intro k;rw[Nat.testBit_and];cases hk:a.testBit k with
 | true=>simp[h k hk]
 | false=>rfl
def V4{l:Α}{k:Nat}:(Ab l).testBit k=true↔k∈l:=by
 induction l with
 | nil=>simp[Ab]
 | cons j r ih=>
  simp only[Ab,Nat.testBit_or,Bool.or_eq_true,ih,zz1,Nat.testBit_two_pow,zzw];constructor
  ·rintro (h|h)
   ·exact .inl h.symm
   exact .inr h
  rintro (h|h)
  ·exact .inl h.symm
  exact .inr h
def xk(f:Nat->Bool):∀l:Α,pd f l=l.filter f
 | []=>rfl
 | j::r=>by
  simp only[pd,xk f r,xx5];cases f j<;>simp
def aR1{f:Nat->Bool}{l:Α}:Cv f l=true↔∃c∈l,f c=true:=by
 induction l with
 | nil=>simp[Cv]
 | cons j r ih=>
  simp only[Cv];cases h:f j<;>simp[h,ih]
def F7{f:Oper->Bool}:∀{l:List Oper} {s k:Nat},k∈idxs f l s↔∃o,s<=k/\l[k-s]?=some o/\f o=true
 | [],s,k=>by simp[idxs]
 | o::r,s,k=>by
  have ih:=@F7 f r (s+1) k;have step:(∃o',s<=k/\(o::r)[k-s]?=some o'/\f o'=true)↔(k=s/\f o=true)\/∃o',s+1<=k/\r[k-(s+1)]?=some o'/\f o'=true:=by
   constructor
   ·rintro ⟨o',h1,h2,h3⟩;by_cases hk:k=s
    ·subst hk;simp at h2;subst h2;exact .inl ⟨rfl,h3⟩
    refine .inr ⟨o',by omega,?_,h3⟩;rw[show k-s=(k-(s+1))+1 by omega]at h2
    simpa using h2
   rintro (⟨rfl,h⟩|⟨o',h1,h2,h3⟩)
   ·exact⟨o,zzi _,by simp,h⟩
   refine⟨o',by omega,?_,h3⟩;rw[show k-s=(k-(s+1))+1 by omega];simpa using h2
  rw[step];simp only[idxs];cases h:f o with
  | true=>simp[ih]
  | false=>simp[ih]
def JZ{f:Oper->Bool}:∀{l:List Oper} {s:Nat},(idxs f l s).Pairwise (· < ·)
 | [],s=>by simp[idxs]
 | o::r,s=>by
  simp only[idxs];split
  ·refine yyg.2 ⟨λk hk=>?_,JZ⟩;obtain⟨_,h,_⟩:=F7.1 hk;omega
  exact JZ
def HS{acc:Α}{j:Nat}:∀{es:List Edge},(sm acc es).testBit j=true↔∃e∈es,Region.binds .any e=true/\(j=e.on\/(acc.getD e.on 0).testBit j=true)
 | []=>by simp[sm]
 | e::r=>by
  simp only[sm];cases h:Region.binds .any e with
  | true=>
   simp only[Nat.testBit_or,Bool.or_eq_true,HS (es:=r),Nat.testBit_two_pow,zzw,zz1];constructor
   ·rintro ((⟨e',h1,h2⟩|h1)|h1)
    ·exact⟨e',.inr h1,h2⟩
    ·exact⟨e,.inl rfl,h,.inl h1.symm⟩
    exact⟨e,.inl rfl,h,.inr h1⟩
   rintro ⟨e',rfl|h1,h2,h3⟩
   ·rcases h3 with h3|h3
    ·exact .inl (.inr h3.symm)
    exact .inr h3
   exact .inl (.inl ⟨e',h1,h2,h3⟩)
  | false=>
   simp only[HS (es:=r),zz1];constructor
   ·rintro ⟨e',h1,h2⟩;exact⟨e',.inr h1,h2⟩
   rintro ⟨e',rfl|h1,h2,h3⟩
   ·rw[h]at h2;cases h2
   exact⟨e',h1,h2,h3⟩
def HT:∀(l:List Oper) (acc:Α),∃x,oC l acc=acc++x/\x.length=l.length
 | [],acc=>⟨[],by simp[oC],rfl⟩
 | o::r,acc=>by
  obtain⟨x,h1,h2⟩:=HT r (acc++[sm acc o.after.toList]);exact⟨sm acc o.after.toList::x,by rw[oC,h1];simp,by simp[h2]⟩
def R5:∀(l:List Oper) (acc:Α) (i:Nat) (o:Oper),l[i]?=some o->(oC l acc).getD (acc.length+i) 0=sm ((oC l acc).take (acc.length+i)) o.after.toList
 | [],acc,i,o,h=>by simp at h
 | o'::r,acc,i,o,h=>by
  cases i with
  | zero=>
   simp at h;subst h;obtain⟨x,h1,h2⟩:=HT r (acc++[sm acc o'.after.toList]);rw[oC,h1];simp
  | succ i=>
   have:=R5 r (acc++[sm acc o'.after.toList]) i o (by simpa using h);simp only[zza,zzj,yym]at this;rw[show acc.length+(0+1)+i=acc.length+(i+1) by omega]at this
   rw[oC];exact this
section
variable {P:Program} {T:List Bool} {n:Nat} {ops:Array Oper}
structure RF(P:Program)(n:Nat)(l:List Oper):Prop where
 low:∀(i:Nat) (o:Oper) (d:Nat),l[i]?=some o->o.dst=some d->d<n
 back:∀(i:Nat) (o:Oper) (e:Edge),l[i]?=some o->e∈o.after.toList->Region.binds .any e=true->e.on<i
 self:∀(i:Nat) (o:Oper) (d:Nat),l[i]?=some o->iw P o.op=true->o.dst=some d->d∉looks l o
 one:∀(i j:Nat) (oi oj:Oper) (d:Nat),l[i]?=some oi->l[j]?=some oj->i≠j->oj.dst=some d->iw P oj.op=true->oi.dst≠some d
 dep:∀(i j:Nat) (oi oj:Oper) (d:Nat),l[i]?=some oi->l[j]?=some oj->i≠j->oj.dst=some d->d∈looks l oi->((oC l []).getD i 0).testBit j=true\/(iw P oj.op=false/\((oC l []).getD j 0).testBit i=true)
def cFy{l:List Oper}(h:GI P n l true=true):RF P n l:=by
 simp only[GI,fU,zz5,List.mem_range]at h;have key:∀i oi,l[i]?=some oi->_:=λi oi hi=>by
  have:=h i (zzf.1 hi).1;rw[hi]at this
  exact this
 refine⟨λi o d hi hd=>?_,λi o e hi he hb=>?_,λi o d hi hf hd=>?_,λi j oi oj d hi hj dO hd hf=>?_,λi j oi oj d hi hj dO hd hl=>?_⟩
 ·have:=key i o hi;simp only[zzu,zz5]at this;have:=this.1.1.1 d (by simp[hd]);simpa using this
 ·have:=key i o hi;simp only[zzu,zz5]at this;have:=this.1.1.2 e he;simpa [hb] using this
 ·have:=key i o hi;simp only[zzu]at this;have:=this.1.2;simp[hf,hd]at this
  exact this
 ·have:=key i oi hi;simp only[zzu,zz5,List.mem_range]at this;have:=this.2 j (zzf.1 hj).1;rw[hj]at this
  simp only[hd]at this;simp only[Bool.or_eq_true,beq_iff_eq,dO,false_or,zzu,hf,Bool.not_true,xxf,bne_iff_ne,ne_eq]at this;exact this.1
 have:=key i oi hi;simp only[zzu,zz5,List.mem_range]at this;have:=this.2 j (zzf.1 hj).1;rw[hj]at this
 simp only[hd]at this;have hc:(looks l oi).contains d=true:=by simpa using hl
 simp only[Bool.or_eq_true,beq_iff_eq,dO,false_or,zzu,hc,Bool.not_true,xxf,wwn]at this;exact this.2
def Bt(l:List Oper)(i j:Nat):Prop:=((oC l []).getD i 0).testBit j=true
def Bt.iff{l:List Oper}(rf:RF P n l){i j:Nat}{o:Oper}(hi:l[i]?=some o):Bt l i j↔∃e∈o.after.toList,Region.binds .any e=true/\(j=e.on\/Bt l e.on j):=by
 unfold Bt;have h1:=R5 l [] i o hi;simp only[yym,yya]at h1;rw[h1,HS];have hg:∀e∈o.after.toList,Region.binds .any e=true->((oC l []).take i).getD e.on 0=(oC l []).getD e.on 0:=λe he hb=>by
  have:=rf.back i o e hi he hb;simp[this]
 constructor
 ·rintro ⟨e,h1,h2,h3⟩;exact⟨e,h1,h2,h3.imp id (λh=>by rw[<- hg e h1 h2];exact h)⟩
 rintro ⟨e,h1,h2,h3⟩;exact⟨e,h1,h2,h3.imp id (λh=>by rw[hg e h1 h2];exact h)⟩
def Bt.op{l:List Oper}{i j:Nat}(h:Bt l i j):∃o,l[i]?=some o:=by
 unfold Bt at h;obtain⟨x,h1,h2⟩:=HT l [];by_cases hi:i<l.length
 ·exact⟨l[i],zzc hi⟩
 have:(oC l []).getD i 0=0:=by
  rw[vvd,yyt (by rw[h1];simp;omega)];rfl
 rw[this]at h;simp at h
def Bt.lt{l:List Oper}(rf:RF P n l):∀(i:Nat) {j:Nat},Bt l i j->j<i:=by
 intro i;induction i using Nat.strongRecOn with
 | _ i ih=>
  intro j h;obtain⟨o,ho⟩:=h.op;obtain⟨e,h1,h2,h3⟩:=(Bt.iff rf ho).1 h;have hb:=rf.back i o e ho h1 h2;rcases h3 with rfl|h3
  ·exact hb
  have:=ih e.on hb h3;omega
def Bt.trans{l:List Oper}(rf:RF P n l):∀(i:Nat) {j k:Nat},Bt l i j->Bt l j k->Bt l i k:=by
 intro i;induction i using Nat.strongRecOn with
 | _ i ih=>
  intro j k h hk;obtain⟨o,ho⟩:=h.op;obtain⟨e,h1,h2,h3⟩:=(Bt.iff rf ho).1 h;have hb:=rf.back i o e ho h1 h2;refine (Bt.iff rf ho).2 ⟨e,h1,h2,.inr ?_⟩;rcases h3 with rfl|h3
  ·exact hk
  exact ih e.on hb h3 hk
end
open Go.RowKit
section
variable {P:Program} {T:List Bool} {n:Nat} {l:List Oper}
def Xs(P:Program)(l:List Oper)(listed:Array Bool):Α:=
 ((List.range l.length).filter λj=>!listed.getD j false && (match l[j]? with|some o=>iw P o.op|none=>false)).filterMap λj=>(l[j]?).bind (·.dst)
def wN{listed:Array Bool}{t:Nat}:t∈Xs P l listed↔∃j o,l[j]?=some o/\listed.getD j false=false/\iw P o.op=true/\o.dst=some t:=by
 unfold Xs;simp only[List.mem_filterMap,yy0,List.mem_range,zzu,wwn];constructor
 ·rintro ⟨j,⟨h1,h2,h3⟩,h4⟩;have hj:l[j]?=some l[j]:=zzc h1;rw[hj]at h3 h4
  exact⟨j,_,hj,h2,h3,h4⟩
 rintro ⟨j,o,h1,h2,h3,h4⟩;exact⟨j,⟨(zzf.1 h1).1,h2,by rw[h1];exact h3⟩,by rw[h1];exact h4⟩
def fH.same{X X':Α}{E E':Env}{a:Act}(h:fH X n E a)(hX:∀t,t∉X'->t∉X)(hs:∀t,t∉X'->valOf E' t=valOf E t):fH X' n E' a:=by
 refine⟨h.size,h.defers,λt e ht he=>?_⟩;have h1:=hs t ht;unfold valOf at h1;rw[he]at h1
 cases h2:E.get t with
 | none=>rw[h2]at h1;cases h1
 | some e'=>
  rw[h2]at h1
  simp at h1;rw[h.get t e' (hX t ht) h2,h1]
def Lq{ops:Array Oper}{o:Oper}{X:Α}{E:Env}{a:Act}{r:Bool}(h:nT ops.toList o E r)(hA:fH X n E a)(hX:∀t∈looks ops.toList o,t∉X):Region.wanted o (yielded ops a.tmps)=r:=by
 unfold nT at h;cases hg:o.guard with
 | none=>simp only[hg]at h;simp[Region.wanted,hg,h]
 | some p=>
  obtain⟨j,want⟩:=p;simp only[hg]at h;obtain⟨s,b,h1,h2,h3⟩:=h;have hs:=hX s (VZ hg h1);unfold valOf at h2;cases he:E.get s with
  | none=>rw[he]at h2;cases h2
  | some e=>
   rw[he]at h2
   simp at h2;have:=hA.get s e hs he;rw[h2]at this
   simp only[Region.wanted,hg,yielded];rw[show ((ops[j]?).bind (·.dst))=some s by simpa using h1];simp only[Option.bind_some,this];rw[h3];cases b<;>cases want<;>first|rfl|(rename_i b;cases b<;>rfl)
def Next(P:Program)(T:List Bool)(n:Nat)(l:List Oper)(K:Env->Ζ->Prop)(k done en:Nat)(E:Env)(w:Ζ):Prop:=
 match wA (fU P l).cm done with
 | true=>K E w
 | false=>EK (λc=>match l[c]? with
   | some o=>uB l o.guard E (λE2=>sY P T n o E2 w λE3 w3=>(fU P l).go P T n K k (done ||| 2 ^ c) en E3 w3)
     (λE2=>(fU P l).go P T n K k (done ||| 2 ^ c) en (E2.put n o.dst .u) w)
   | none=>False)
  (pd (λc=>!Nat.testBit done c && (fU P l).enabled done c) (fU P l).jL)
def RR{F:Nat->Prop}:∀{r:Α},EK F r->∀c∈r,F c
 | [],_,c,hc=>by cases hc
 | [x],h,c,hc=>by simp at hc;subst hc;exact h
 | x::y::r,h,c,hc=>by
  rcases zz1.1 hc with rfl|hc
  ·exact h.1
  exact RR h.2 c hc
def HZ{c:Nat}:c∈(fU P l).jL↔∃o,l[c]?=some o/\iw P o.op=false:=by
 have:=@F7 (λo=>!iw P o.op) l 0 c;simpa [fU] using this
def CW{c:Nat}:c∈(fU P l).tu↔∃o,l[c]?=some o/\iw P o.op=true:=by
 have:=@F7 (λo=>iw P o.op) l 0 c;simpa [fU] using this
def EW{c:Nat}:(fU P l).cm.testBit c=true↔c∈(fU P l).jL:=V4
def xa{done j:Nat}:(fU P l).enabled done j=true↔∀c,Bt l j c->c∈(fU P l).jL->done.testBit c=true:=by
 unfold RS.enabled;rw[K_];constructor
 ·intro h c hb hc;refine h c ?_;show (((fU P l).B.getD j 0) &&& (fU P l).cm).testBit c=true;rw[Nat.testBit_and,zzu];exact⟨hb,EW.2 hc⟩
 intro h c hc;have A8:(((fU P l).B.getD j 0) &&& (fU P l).cm).testBit c=true:=hc;rw[Nat.testBit_and,zzu]at A8
 exact h c A8.1 (EW.1 A8.2)
def cBy{done j:Nat}:(fU P l).DU done j=true↔∃c∈(fU P l).jL,done.testBit c=true/\Bt l c j:=by
 unfold RS.DU;rw[aR1];constructor
 ·rintro ⟨c,h1,h2⟩;split at h2
  ·rename_i hd;exact⟨c,h1,hd,h2⟩
  cases h2
 rintro ⟨c,h1,h2,h3⟩;exact⟨c,h1,by rw[h2];exact h3⟩
structure DI(P:Program)(T:List Bool)(n:Nat)(l:List Oper)(K:Env->Ζ->Prop)(a0:Act)(listed:Array Bool)(a:Act)(w:Ζ)(done:Nat)(E:Env):Prop where
 size:listed.size=l.length
 closed:∀i j,listed.getD i false=true->Bt l i j->listed.getD j false=true
 chain:∀c,c∈(fU P l).jL->(listed.getD c false=true↔done.testBit c=true)
 agree:fH (Xs P l listed) n E a
 keep:jB (sw l) a0 a
 KC:∀j o,l[j]?=some o->iw P o.op=true->listed.getD j false=false->(fU P l).enabled done j=true->∃r v,vn P l n o E w r v
 next:∃k en,(∀j o,l[j]?=some o->iw P o.op=true->(en.testBit j=true↔(fU P l).enabled done j=true))/\Next P T n l K k done en E w
def TD(hT:Calls.pI P T)(rf:RF P n l){K:Env->Ζ->Prop}{a0:Act}{listed:Array Bool}{a:Act}{w:Ζ}{k done en:Nat}{was:Nat->Prop}{E:Env}(size:listed.size=l.length)
  (closed:∀i j,listed.getD i false=true->Bt l i j->listed.getD j false=true) (chain:∀c,c∈(fU P l).jL->(listed.getD c false=true↔done.testBit c=true))
  (agree:fH (Xs P l listed) n E a) (keep:jB (sw l) a0 a) (sub:∀j,was j->(fU P l).enabled done j=true) (down:∀j k,was j->Bt l j k->was k)
  (ll:∀j o,l[j]?=some o->iw P o.op=true->(en.testBit j=true↔was j))
  (cwb:∀j o,l[j]?=some o->iw P o.op=true->listed.getD j false=true->was j)
  (cEc:∀j o,l[j]?=some o->iw P o.op=true->listed.getD j false=false->was j->∃r v w0,vn P l n o E w0 r v)
  (h:(fU P l).go P T n K k done en E w):∃E',DI P T n l K a0 listed a w done E':=by
 cases k with
 | zero=>exact h.elim
 | succ k=>
  unfold RS.go at h;have hR:(fU P l).ops=l:=rfl;rw[hR]at h
  obtain⟨h1,h2⟩:=Zh _ (λj hj o ho=>by
   rw[xk]at hj
   obtain⟨o',h1,h2⟩:=CW.1 (yy0.1 hj).1;rw[ho]at h1;cases h1;exact h2) h
  have tM:∀j,j∈pd (λj=>!Nat.testBit en j && (fU P l).enabled done j) (fU P l).tu↔∃o,l[j]?=some o/\iw P o.op=true/\en.testBit j=false/\(fU P l).enabled done j=true:=by
   intro j;rw[xk,yy0,CW];simp only[zzu,wwn];constructor
   ·rintro ⟨⟨o,a,b⟩,c,d⟩;exact⟨o,a,b,c,d⟩
   rintro ⟨o,a,b,c,d⟩;exact⟨⟨o,a,b⟩,c,d⟩
  obtain⟨E',k1,k2,k3⟩:=ZN (n:=n) hT _ E (λj hj o ho=>by
   obtain⟨o',q1,q2,_⟩:=(tM j).1 hj;rw[ho]at q1;cases q1
   exact⟨q2,λd hd=>rf.self j o d ho q2 hd⟩) (by
    rw[xk];refine List.Pairwise.imp_of_mem ?_ (List.Pairwise.filter _ (JZ (f:=λo=>iw P o.op) (l:=l) (s:=0)));intro j k hj hk dj oj ok d UG cL hd;have Up:iw P ok.op=true:=by
     have p9:=(yy0.1 hk).1;obtain⟨o',q1,q2⟩:=CW.1 p9;rw[cL]at q1;cases q1;exact q2
    refine⟨λkf=>?_,rf.one j k oj ok d UG cL (by omega) hd Up⟩;rcases rf.dep j k oj ok d UG cL (by omega) hd kf with q|⟨q,_⟩
    ·have:=Bt.lt rf j (show Bt l j k from q);omega
    rw[Up]at q;cases q) h1
  have Bk:∀j o,l[j]?=some o->iw P o.op=true->j∈pd (λj=>!Nat.testBit en j && (fU P l).enabled done j) (fU P l).tu->listed.getD j false=false:=λj o ho hf hj=>by
   obtain⟨o',q1,q2,q3,q4⟩:=(tM j).1 hj;cases hl:listed.getD j false with
   | false=>rfl
   | true=>rw[(ll j o ho hf).2 (cwb j o ho hf hl)]at q3;cases q3
  refine⟨E',size,closed,chain,agree.same (λt ht=>ht) (λt ht=>k2 t (λj hj o ho hd=>ht ?_)),keep,λj o ho hf hl he=>?_,k,_,?_,k1⟩
  ·obtain⟨o',q1,q2,q3,q4⟩:=(tM j).1 hj;rw[ho]at q1;cases q1
   exact wN.2 ⟨j,o,ho,Bk j o ho q2 hj,q2,hd⟩
  ·
   by_cases hold:was j
   ·obtain⟨r,v,w0,hp⟩:=cEc j o ho hf hl hold;have base:∃v,vn P l n o E w r v:=by
     cases r with
     | false=>exact⟨v,hp.Ei,hp.val,λh=>(by cases h),hp.skip,λh=>(by cases h)⟩
     | true=>
      by_cases dQ:oP P o.op=true
      ·have xM:j∈pd (λj=>Nat.testBit en j && !(fU P l).DU done j && (match l[j]? with|some o=>oP P o.op|none=>false)) (fU P l).tu:=by
        rw[xk,yy0];refine⟨CW.2 ⟨o,ho,hf⟩,?_⟩;simp only[zzu,wwn,ho];refine⟨⟨(ll j o ho hf).2 hold,?_⟩,dQ⟩;cases hn:(fU P l).DU done j with
        | false=>rfl
        | true=>
         obtain⟨c,c1,c2,c3⟩:=cBy.1 hn;rw[closed c j ((chain c c1).2 c2) c3]at hl;cases hl
       obtain⟨d,e,d1,d2,d3⟩:=h2 j xM o ho hp.Ei;obtain⟨u,u1,u2⟩:=IG o.op hf d3;subst u1;refine⟨e.val,hp.Ei,λd' ny _=>?_,hp.all,λh=>(by cases h),λ_ w' xZ ρ hF hρ=>?_⟩
       ·rw[d1]at ny;cases ny;simp[valOf,d2]
       exact Ks hT hF (λx hx=>hρ x hx (hp.all rfl dQ x hx)) (u2 w' xZ)
      exact⟨v,hp.mono (λ_ _=>rfl) (λ_ _=>rfl) (λh=>absurd h dQ)⟩
    obtain⟨v,hp⟩:=base;have R0:∀k ok,k∈pd (λj=>!Nat.testBit en j && (fU P l).enabled done j) (fU P l).tu->l[k]?=some ok->k≠j/\∀d,ok.dst=some d->d∉looks l o:=λk ok hk cL=>by
     obtain⟨o',q1,q2,q3,q4⟩:=(tM k).1 hk;rw[cL]at q1;cases q1
     have Jl:k≠j:=λe=>by subst e;rw[(ll k o ho hf).2 hold]at q3;cases q3
     refine⟨Jl,λd hd kf=>?_⟩;rcases rf.dep j k o ok d ho cL (Ne.symm Jl) hd kf with q|⟨q,_⟩
     ·rw[(ll k ok cL q2).2 (down j k hold q)]at q3;cases q3
     rw[q2]at q;cases q
    refine⟨r,v,hp.mono (λt ht=>k2 t (λk hk ok cL hd=>?_)) (λd hd=>k2 d (λk hk ok cL ny=>?_)) (λ_=>rfl)⟩
    ·exact (R0 k ok hk cL).2 t hd ht
    obtain⟨o',q1,q2,_⟩:=(tM k).1 hk;rw[cL]at q1;cases q1
    exact rf.one j k o ok d ho cL (Ne.symm (R0 k ok hk cL).1) ny q2 hd
   exact k3 j ((tM j).2 ⟨o,ho,hf,by
    cases hb:en.testBit j with
    | false=>rfl
    | true=>exact absurd ((ll j o ho hf).1 hb) hold,he⟩) o ho
  intro j o ho hf;rw[Nat.testBit_or,Bool.or_eq_true,V4,xk,yy0,CW];constructor
  ·rintro (q|⟨_,q⟩)
   ·exact sub j ((ll j o ho hf).1 q)
   exact q
  intro q;exact .inr ⟨⟨o,ho,hf⟩,q⟩
end
open Go.RowKit
section
variable {P:Program} {T:List Bool} {n:Nat} {ops:Array Oper}
def left(listed:Array Bool)(m:Nat):Nat:=((List.range m).filter λj=>!listed.getD j false).length
def cz4{listed:Array Bool}{i:Nat}(hu:listed.getD i false=false)(hs:i<listed.size):∀m,left listed m=left (listed.setIfInBounds i true) m+(if i<m then 1 else 0):=by
 intro m;induction m with
 | zero=>simp[left]
 | succ m ih=>
  unfold left at ih ⊢;rw[List.range_succ,yyx,yyx,zza,zza,ih];by_cases nY:m=i
  ·subst nY;have e1:(listed.setIfInBounds m true).getD m false=true:=by simp[hs]
   rw[xx5,xx5,hu,e1];simp
  rw[xx5,xx5,getD_set_ne false (λe=>nY e.symm),List.filter_nil,List.filter_nil];by_cases lO:i<m
  ·have h2:i<m+1:=by omega
   simp only[lO,h2,wwm];omega
  have h2:¬i<m+1:=by omega
  simp only[lO,h2,wwd];omega
def cz5{listed:Array Bool}{m:Nat}(h:left listed m=0){j:Nat}(hj:j<m):listed.getD j false=true:=by
 have h0:=zzl h;cases hb:listed.getD j false with
 | true=>rfl
 | false=>
  have:j∈(List.range m).filter λi=>!listed.getD i false:=yy0.2 ⟨List.mem_range.2 hj,by rw[hb];rfl⟩;rw[h0]at this;cases this
def cz3{listed:Array Bool}{m k:Nat}(h:left listed m=k+1):∃j,j<m/\listed.getD j false=false:=by
 unfold left at h;cases hl:(List.range m).filter λj=>!listed.getD j false with
 | nil=>rw[hl]at h;simp at h
 | cons j r=>
  have:j∈(List.range m).filter λj=>!listed.getD j false:=by rw[hl];simp
  obtain⟨h1,h2⟩:=yy0.1 this;exact⟨j,List.mem_range.1 h1,by simpa using h2⟩
def aR3(hT:Calls.pI P T)(rf:RF P n ops.toList){K:Env->Ζ->Prop}{Q:Exit->Act->Ζ->Prop}{a0:Act}(hn:∀E' a' w',fH [] n E' a'->jB (sw ops.toList) a0 a'->K E' w'->Q .normal a' w'):
  ∀(f:Nat) (listed:Array Bool) (a:Act) (w:Ζ) (done:Nat) (E:Env),DI P T n ops.toList K a0 listed a w done E->left listed ops.size=f->wpAny P .any ops Q f listed a w:=by
 have Bd:∀(i:Nat) (o:Oper),ops.toList[i]?=some o↔ops[i]?=some o:=λi o=>by simp
 intro f;induction f with
 | zero=>
  intro listed a w done E di hf;have f_:listed.size=ops.size:=by simpa using di.size
  have eK:∀j,j<ops.size->listed.getD j false=true:=λj hj=>cz5 hf hj;refine⟨?_,?_⟩
  ·cases hr:Region.ready .any ops listed with
   | nil=>rfl
   | cons i r=>
    have hi:i∈Region.ready .any ops listed:=by rw[hr];simp
    obtain⟨xY,oi,xR,_⟩:=mem_ready.1 hi;have dj:i<ops.size:=(yy9.1 xR).1;have:=eK i dj;rw[getD_both xY]at this;cases this
  obtain⟨k,en,_,hx⟩:=di.next;unfold Next at hx;have rK:wA (fU P ops.toList).cm done=true:=K_.2 λc hc=>by
   have A8:=EW.1 hc;obtain⟨o,ho,_⟩:=HZ.1 A8;have dj:c<ops.size:=by have:=(zzf.1 ho).1;simpa using this
   exact (di.chain c A8).1 (eK c dj)
  rw[rK]at hx
  refine hn E a w (di.agree.same (λt _ ht=>?_) (λ_ _=>rfl)) di.keep hx;obtain⟨j,o,ho,hl,_⟩:=wN.1 ht;have dj:j<ops.size:=by have:=(zzf.1 ho).1;simpa using this
  rw[eK j dj]at hl;cases hl
 | succ f ih=>
  intro listed a w done E di hf;have f_:listed.size=ops.size:=by simpa using di.size
  refine⟨λh0=>?_,λi hi=>?_⟩
  ·
   exfalso;obtain⟨j0,tK,JN⟩:=cz3 hf;have xN:∀(m:Nat),m<ops.size->listed.getD m false=false->False:=by
    intro m;induction m using Nat.strongRecOn with
    | _ m ihm=>
     intro hm hu;have UI:ops[m]?=some ops[m]:=wwr hm;have:m∈Region.ready .any ops listed:=mem_ready.2 ⟨getD_in (by omega) hu,_,UI,λe he hb=>by
      have dj:=rf.back m _ e ((Bd m _).2 UI) (by simpa using he) hb;cases hx:listed.getD e.on false with
      | true=>rfl
      | false=>exact (ihm e.on dj (by omega) hx).elim⟩
     rw[h0]at this;cases this
   exact xN j0 tK JN
  obtain⟨xY,o,xR,cna⟩:=mem_ready.1 hi;have hu:listed.getD i false=false:=getD_both xY;have dj:i<ops.size:=(yy9.1 xR).1;have ho:ops.toList[i]?=some o:=(Bd i o).2 xR;have hB:∀j,Bt ops.toList i j->listed.getD j false=true:=λj hj=>by
   obtain⟨e,h1,h2,h3⟩:=(Bt.iff rf ho).1 hj;have:=cna e (by simpa using h1) h2;rcases h3 with rfl|h3
   ·exact this
   exact di.closed e.on j this h3
  have ll:(fU P ops.toList).enabled done i=true:=xa.2 λc hb hc=>(di.chain c hc).1 (hB c hb);have Ut:left (listed.setIfInBounds i true) ops.size=f:=by
   have:=cz4 hu (by omega) ops.size;rw[zzd dj]at this;omega
  have Jh:(listed.setIfInBounds i true).getD i false=true:=by
   have:i<listed.size:=by omega
   simp[this]
  have UC:∀j,listed.getD j false=true->(listed.setIfInBounds i true).getD j false=true:=λj hj=>by
   by_cases e:i=j
   ·subst e;exact Jh
   rw[getD_set_ne false e];exact hj
  have jY:∀j,(listed.setIfInBounds i true).getD j false=false->listed.getD j false=false/\j≠i:=λj hj=>by
   by_cases e:i=j
   ·subst e;rw[Jh]at hj;cases hj
   rw[getD_set_ne false e]at hj;exact⟨hj,Ne.symm e⟩
  have T5:∀x y,(listed.setIfInBounds i true).getD x false=true->Bt ops.toList x y->(listed.setIfInBounds i true).getD y false=true:=λx y hx hb=>by
   by_cases e:i=x
   ·subst e;exact UC y (hB y hb)
   rw[getD_set_ne false e]at hx;exact UC y (di.closed x y hx hb)
  have Bg:∀t∈looks ops.toList o,t∉Xs P ops.toList listed:=λt ht hx=>by
   obtain⟨j,oj,hj,hl,pq,hd⟩:=wN.1 hx;by_cases e:i=j
   ·subst e;rw[ho]at hj;cases hj;exact rf.self i o t ho pq hd ht
   rcases rf.dep i j o oj t ho hj e hd ht with q|⟨q,_⟩
   ·rw[hB j q]at hl;cases hl
   rw[pq]at q;cases q
  have jc:∀x∈ez o.op,wJ (Xs P ops.toList listed) x:=λx hx t ht=>Bg t (Gg hx ht);have Ub:∀t,o.dst=some t->t∈sw ops.toList:=λt ht=>List.mem_filterMap.2 ⟨o,yy5 ho,ht⟩;have b_q:∀t,t∉Xs P ops.toList (listed.setIfInBounds i true)->o.dst≠some t->t∉Xs P ops.toList listed:=λt h1 h2 h3=>by
   obtain⟨j,oj,hj,hl,pq,hd⟩:=wN.1 h3;by_cases e:i=j
   ·subst e;rw[ho]at hj;cases hj;exact h2 hd
   exact h1 (wN.2 ⟨j,oj,hj,by rw[getD_set_ne false e];exact hl,pq,hd⟩)
  by_cases nA:iw P o.op=true
  ·
   obtain⟨r,v,hp⟩:=di.KC i o ho nA hu ll;have hw:=Lq hp.Ei di.agree Bg;have uS:wpAny P .any ops Q f (listed.setIfInBounds i true) (a.put o.dst v) w:=by
    refine ih _ _ w done E ⟨by simpa using di.size,T5,λc hc=>?_,?_,di.keep.trans (jB.put a o.dst v _ Ub),λj oj hj pq hl he=>?_,di.next⟩ Ut
    ·have uJ:c≠i:=λe=>by
      obtain⟨oc,h1,h2⟩:=HZ.1 hc;subst e;rw[ho]at h1;cases h1;rw[nA]at h2;cases h2
     rw[getD_set_ne false (Ne.symm uJ)];exact di.chain c hc
    ·refine⟨by cases o.dst<;>simp[Act.put,di.agree.size],by cases o.dst<;>exact di.agree.defers,λt e ht he=>?_⟩;by_cases hd:o.dst=some t
     ·have Ux:=rf.low i o t ho hd;have:=hp.val t hd Ux;unfold valOf at this;rw[he]at this
      simp at this;rw[this,hd];simp[Act.put,di.agree.size,Ux]
     have:=di.agree.get t e (b_q t ht hd) he;cases hdd:o.dst with
     | none=>exact this
     | some d=>
      have dO:d≠t:=λe=>hd (by rw[hdd,e]);simp[Act.put,Array.getElem?_setIfInBounds_ne dO,this]
    exact di.KC j oj hj pq (jY j hl).1 he
   unfold wpOp;rw[xR];show if Region.wanted o (yielded ops a.tmps)=true then _ else _
   rw[hw];cases r with
   | true=>
    rw[zzd rfl];refine .inl (fP.upon (hp.run rfl w (λ_=>rfl) a.eval (λ_=>rfl) (λx hx hh=>di.agree.ev (jc x hx) hh)) ?_);rintro u w' ⟨rfl,rfl⟩;exact uS
   | false=>
    rw[zzb Bool.false_ne_true];rw[<- hp.skip rfl];exact uS
  
  have cnm:iw P o.op=false:=by simpa using nA
  have FN:i∈(fU P ops.toList).jL:=HZ.2 ⟨o,ho,cnm⟩;have C9:done.testBit i=false:=by
   cases hb:done.testBit i with
   | false=>rfl
   | true=>rw[(di.chain i FN).2 hb]at hu;cases hu
  obtain⟨k,en,cng,hx⟩:=di.next;unfold Next at hx;have rK:wA (fU P ops.toList).cm done=false:=by
   cases hb:wA (fU P ops.toList).cm done with
   | false=>rfl
   | true=>rw[K_.1 hb i (EW.2 FN)]at C9;cases C9
  rw[rK]at hx
  have hx:=RR hx i (by
   rw[xk,yy0];exact⟨FN,by rw[C9,ll];rfl⟩)
  rw[ho]at hx
  have enter:∀(E3:Env) (v:Ε) (w3:Ζ),gh o.dst E E3->fH (Xs P ops.toList listed) n E3 (a.put o.dst v)->(fU P ops.toList).go P T n K k (done ||| 2 ^ i) en E3 w3 ->
    wpAny P .any ops Q f (listed.setIfInBounds i true) (a.put o.dst v) w3:=by
   intro E3 v w3 hs hA hg;have b_p:∀t,t∉Xs P ops.toList (listed.setIfInBounds i true)->t∉Xs P ops.toList listed:=λt h1 h3=>by
    obtain⟨j,oj,hj,hl,pq,hd⟩:=wN.1 h3;have jk:i≠j:=λe=>by subst e;rw[ho]at hj;cases hj;exact nA pq
    exact h1 (wN.2 ⟨j,oj,hj,by rw[getD_set_ne false jk];exact hl,pq,hd⟩)
   have b_0:∀c,c∈(fU P ops.toList).jL->((listed.setIfInBounds i true).getD c false=true↔(done ||| 2 ^ i).testBit c=true):=λc hc=>by
    rw[Nat.testBit_or,Bool.or_eq_true,Nat.testBit_two_pow,zzw];by_cases e:i=c
    ·subst e;exact⟨λ_=>.inr rfl,λ_=>Jh⟩
    rw[getD_set_ne false e,di.chain c hc];exact⟨.inl,λh=>h.elim id (λh=>absurd h e)⟩
   obtain⟨E',di'⟩:=TD (n:=n) hT rf (K:=K) (a0:=a0) (was:=λj=>(fU P ops.toList).enabled done j=true) (by simpa using di.size) T5 b_0 (hA.same b_p (λ_ _=>rfl)) (di.keep.trans (jB.put a o.dst v _ Ub))
    (λj hj=>xa.2 λc hb hc=>by rw[Nat.testBit_or,xa.1 hj c hb hc];rfl)
    (λj k hj hb=>xa.2 λc hc hm=>xa.1 hj c (Bt.trans rf j hb hc) hm) cng
    (λj oj hj pq hl=>xa.2 λc hb hc=>by
     have jk:i≠j:=λe=>by subst e;rw[ho]at hj;cases hj;exact nA pq
     rw[getD_set_ne false jk]at hl
     exact (di.chain c hc).1 (di.closed j c hl hb))
    (λj oj hj pq hl he=>by
     obtain⟨hl,jk⟩:=jY j hl;obtain⟨r,v,hp⟩:=di.KC j oj hj pq hl he;have Un:j≠i:=jk;refine⟨r,v,w,hp.mono (λt ht=>hs t (λhd=>?_)) (λd hd=>hs d (λny=>?_)) (λ_=>rfl)⟩
     ·rcases rf.dep j i oj o t hj ho Un hd ht with q|⟨_,q⟩
      ·rw[xa.1 he i q FN]at C9;cases C9
      rw[hB j q]at hl;cases hl
     exact rf.one i j o oj d ho hj (Ne.symm Un) hd pq ny)
    hg
   exact ih _ _ w3 _ E' di' Ut
  obtain⟨E2,h0,⟨Bs,h⟩|⟨Bs,h⟩⟩:=II hx
  ·have hw:=Lq Bs di.agree Bg;unfold wpOp;rw[xR];show if Region.wanted o (yielded ops a.tmps)=true then _ else _
   rw[hw,zzd rfl];refine .inl (Y' hT (cIx h) (di.agree.same (λt ht=>ht) (λt _=>h0 t (by simp))) jc ?_);rintro E3 v w3 hA ⟨hs,hg⟩;exact enter E3 v w3 (h0.B2.trans hs) hA hg
  have hw:=Lq Bs di.agree Bg;unfold wpOp;rw[xR];show if Region.wanted o (yielded ops a.tmps)=true then _ else _
  rw[hw,zzb Bool.false_ne_true];exact enter _ undef w (h0.B2.trans (gh.put n E2 o.dst _)) ((di.agree.same (λt ht=>ht) (λt _=>h0 t (by simp))).put o.dst .u) h
def bF5(hT:Calls.pI P T)(hm:P.follows .mixedOrders=true){id:Nat}{K:Env->Ζ->Prop}{Q:Exit->Act->Ζ->Prop}{a:Act}{E:Env}{w:Ζ}
  (cL:GI P n ops.toList true=true) (hA:fH [] n E a) (h:Ip P T n ops.toList K E w.drew) (hn:∀E' a' w',fH [] n E' a'->jB (sw ops.toList) a a'->K E' w'->Q .normal a' w') :
  (Code.region id ops true).wp P Q a w:=by
 have rf:=cFy cL;refine wp_region_any hm ?_;have hr:∀j,(Array.replicate ops.size false).getD j false=false:=λj=>getD_replicate_false _ _;unfold Ip at h;obtain⟨E',di⟩:=TD (n:=n) hT rf (K:=K) (a0:=a) (listed:=Array.replicate ops.size false) (a:=a) (was:=λ_=>False) (by simp) (λi j hi=>by rw[hr]at hi;cases hi) (λc _=>by rw[hr];simp)
  (hA.same (λt _=>by simp) (λ_ _=>rfl)) (.refl _ a) (λ_ h=>h.elim) (λ_ _ h=>h.elim) (λj o ho hf=>by simp) (λj o ho hf hl=>by rw[hr]at hl;cases hl) (λj o ho hf hl he=>he.elim) h
 refine aR3 hT rf hn ops.size _ a w.drew 0 E' di ?_;unfold left;rw[yy4.2 (λi _=>by rw[hr];rfl)];simp
end
