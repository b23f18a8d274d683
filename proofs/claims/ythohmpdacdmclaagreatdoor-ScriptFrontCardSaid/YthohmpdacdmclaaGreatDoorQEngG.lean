/- Part. -/
import Derived.Test.YthohmpdacdmclaaGreatDoorQEngD
namespace Go.Proofs.YthohmpdacdmclaaGreatDoor
set_option linter.all false
open Go.RowKit
def zzs:=@Bool.and_eq_true
def xx7:=@List.filter_cons
def yyw:=@List.length_nil
def zz7:=@List.all_eq_true
def yyd:=@Nat.zero_add
def ww4:=@List.getD_eq_getElem?_getD
def yyt:=@List.getElem?_eq_none
def yy0:=@List.mem_filter
def xxj:=@List.filter_append
def xxe:=@Array.getElem?_eq_some_iff
def ww7:=@Array.getElem?_eq_getElem
def xxu:=@List.mem_of_getElem?
def yyy:=@List.filter_eq_self
def Kr{a b:Nat}:vO a b=true↔∀k,a.testBit k=true->b.testBit k=true:=by
 unfold vO;rw[beq_iff];constructor
 ·intro h k hk;have:(Nat.land a b).testBit k=true:=by rw[h];exact hk
  have e:(a &&& b).testBit k=true:=this;rw[Nat.testBit_and]at e
  simp only[zzs]at e;exact e.2
 intro h;show a &&& b=a;apply Nat.eq_of_testBit_eq;intro k;rw[Nat.testBit_and];cases hk:a.testBit k with
 | true=>simp[h k hk]
 | false=>rfl
def Vo{l:Α}{k:Nat}:(xp l).testBit k=true↔k∈l:=by
 induction l with
 | nil=>simp[xp]
 | cons j r ih=>
  simp only[xp,Nat.testBit_or,Bool.or_eq_true,ih,yya,Nat.testBit_two_pow,zz1];constructor
  ·rintro (h|h)
   ·exact .inl h.symm
   exact .inr h
  rintro (h|h)
  ·exact .inl h.symm
  exact .inr h
def wA(f:Nat->Bool):∀l:Α,oa f l=l.filter f
 | []=>rfl
 | j::r=>by
  simp only[oa,wA f r,xx7];cases f j<;>simp
def aIc{f:Nat->Bool}{l:Α}:BM f l=true↔∃c∈l,f c=true:=by
 induction l with
 | nil=>simp[BM]
 | cons j r ih=>
  simp only[BM];cases h:f j<;>simp[h,ih]
def Fo{f:Oper->Bool}:∀{l:List Oper} {s k:Nat},k∈idxs f l s↔∃o,s<=k/\l[k-s]?=some o/\f o=true
 | [],s,k=>by simp[idxs]
 | o::r,s,k=>by
  have ih:=@Fo f r (s+1) k;have step:(∃o',s<=k/\(o::r)[k-s]?=some o'/\f o'=true)↔(k=s/\f o=true)\/∃o',s+1<=k/\r[k-(s+1)]?=some o'/\f o'=true:=by
   constructor
   ·rintro ⟨o',h1,h2,h3⟩;by_cases hk:k=s
    ·subst hk;simp at h2;subst h2;exact .inl ⟨rfl,h3⟩
    refine .inr ⟨o',by omega,?_,h3⟩;rw[show k-s=(k-(s+1))+1 by omega]at h2
    simpa using h2
   rintro (⟨rfl,h⟩|⟨o',h1,h2,h3⟩)
   ·exact⟨o,zzj _,by simp,h⟩
   refine⟨o',by omega,?_,h3⟩;rw[show k-s=(k-(s+1))+1 by omega];simpa using h2
  rw[step];simp only[idxs];cases h:f o with
  | true=>simp[ih]
  | false=>simp[ih]
def Jg{f:Oper->Bool}:∀{l:List Oper} {s:Nat},(idxs f l s).Pairwise (· < ·)
 | [],s=>by simp[idxs]
 | o::r,s=>by
  simp only[idxs];split
  ·refine yyi.2 ⟨λk hk=>?_,Jg⟩;obtain⟨_,h,_⟩:=Fo.1 hk;omega
  exact Jg
def Hf{acc:Α}{j:Nat}:∀{es:List Edge},(rz acc es).testBit j=true↔∃e∈es,Region.binds .any e=true/\(j=e.on\/(acc.getD e.on 0).testBit j=true)
 | []=>by simp[rz]
 | e::r=>by
  simp only[rz];cases h:Region.binds .any e with
  | true=>
   simp only[Nat.testBit_or,Bool.or_eq_true,Hf (es:=r),Nat.testBit_two_pow,zz1,yya];constructor
   ·rintro ((⟨e',h1,h2⟩|h1)|h1)
    ·exact⟨e',.inr h1,h2⟩
    ·exact⟨e,.inl rfl,h,.inl h1.symm⟩
    exact⟨e,.inl rfl,h,.inr h1⟩
   rintro ⟨e',rfl|h1,h2,h3⟩
   ·rcases h3 with h3|h3
    ·exact .inl (.inr h3.symm)
    exact .inr h3
   exact .inl (.inl ⟨e',h1,h2,h3⟩)
  | false=>
   simp only[Hf (es:=r),yya];constructor
   ·rintro ⟨e',h1,h2⟩;exact⟨e',.inr h1,h2⟩
   rintro ⟨e',rfl|h1,h2,h3⟩
   ·rw[h]at h2;cases h2
   exact⟨e',h1,h2,h3⟩
def Hg:∀(l:List Oper) (acc:Α),∃x,nm l acc=acc++x/\x.length=l.length
 | [],acc=>⟨[],by simp[nm],rfl⟩
 | o::r,acc=>by
  obtain⟨x,h1,h2⟩:=Hg r (acc++[rz acc o.after.toList]);exact⟨rz acc o.after.toList::x,by rw[nm,h1];simp,by simp[h2]⟩
def P':∀(l:List Oper) (acc:Α) (i:Nat) (o:Oper),l[i]?=some o->(nm l acc).getD (acc.length+i) 0=rz ((nm l acc).take (acc.length+i)) o.after.toList
 | [],acc,i,o,h=>by simp at h
 | o'::r,acc,i,o,h=>by
  cases i with
  | zero=>
   simp at h;subst h;obtain⟨x,h1,h2⟩:=Hg r (acc++[rz acc o'.after.toList]);rw[nm,h1];simp
  | succ i=>
   have:=P' r (acc++[rz acc o'.after.toList]) i o (by simpa using h);simp only[zza,zzi,yyw]at this;rw[show acc.length+(0+1)+i=acc.length+(i+1) by omega]at this
   rw[nm];exact this
section
variable {P:Program} {T:List Bool} {n:Nat} {ops:Array Oper}
structure RF(P:Program)(n:Nat)(l:List Oper):Prop where
 low:∀(i:Nat) (o:Oper) (d:Nat),l[i]?=some o->o.dst=some d->d<n
 back:∀(i:Nat) (o:Oper) (e:Edge),l[i]?=some o->e∈o.after.toList->Region.binds .any e=true->e.on<i
 self:∀(i:Nat) (o:Oper) (d:Nat),l[i]?=some o->gz P o.op=true->o.dst=some d->d∉looks l o
 one:∀(i j:Nat) (oi oj:Oper) (d:Nat),l[i]?=some oi->l[j]?=some oj->i≠j->oj.dst=some d->gz P oj.op=true->oi.dst≠some d
 dep:∀(i j:Nat) (oi oj:Oper) (d:Nat),l[i]?=some oi->l[j]?=some oj->i≠j->oj.dst=some d->d∈looks l oi->((nm l []).getD i 0).testBit j=true\/(gz P oj.op=false/\((nm l []).getD j 0).testBit i=true)
def bwh{l:List Oper}(h:F1 P n l true=true):RF P n l:=by
 simp only[F1,eT,zz7,List.mem_range]at h;have key:∀i oi,l[i]?=some oi->_:=λi oi hi=>by
  have:=h i (zzh.1 hi).1;rw[hi]at this
  exact this
 refine⟨λi o d hi hd=>?_,λi o e hi he hb=>?_,λi o d hi hf hd=>?_,λi j oi oj d hi hj cY hd hf=>?_,λi j oi oj d hi hj cY hd hl=>?_⟩
 ·have:=key i o hi;simp only[zzs,zz7]at this;have:=this.1.1.1 d (by simp[hd]);simpa using this
 ·have:=key i o hi;simp only[zzs,zz7]at this;have:=this.1.1.2 e he;simpa [hb] using this
 ·have:=key i o hi;simp only[zzs]at this;have:=this.1.2;simp[hf,hd]at this
  exact this
 ·have:=key i oi hi;simp only[zzs,zz7,List.mem_range]at this;have:=this.2 j (zzh.1 hj).1;rw[hj]at this
  simp only[hd]at this;simp only[Bool.or_eq_true,beq_iff_eq,cY,false_or,zzs,hf,Bool.not_true,xxx,bne_iff_ne,ne_eq]at this;exact this.1
 have:=key i oi hi;simp only[zzs,zz7,List.mem_range]at this;have:=this.2 j (zzh.1 hj).1;rw[hj]at this
 simp only[hd]at this;have hc:(looks l oi).contains d=true:=by simpa using hl
 simp only[Bool.or_eq_true,beq_iff_eq,cY,false_or,zzs,hc,Bool.not_true,xxx,Bool.not_eq_true']at this;exact this.2
def Bt(l:List Oper)(i j:Nat):Prop:=((nm l []).getD i 0).testBit j=true
def Bt.iff{l:List Oper}(rf:RF P n l){i j:Nat}{o:Oper}(hi:l[i]?=some o):Bt l i j↔∃e∈o.after.toList,Region.binds .any e=true/\(j=e.on\/Bt l e.on j):=by
 unfold Bt;have h1:=P' l [] i o hi;simp only[yyw,yyd]at h1;rw[h1,Hf];have hg:∀e∈o.after.toList,Region.binds .any e=true->((nm l []).take i).getD e.on 0=(nm l []).getD e.on 0:=λe he hb=>by
  have:=rf.back i o e hi he hb;simp[this]
 constructor
 ·rintro ⟨e,h1,h2,h3⟩;exact⟨e,h1,h2,h3.imp id (λh=>by rw[<- hg e h1 h2];exact h)⟩
 rintro ⟨e,h1,h2,h3⟩;exact⟨e,h1,h2,h3.imp id (λh=>by rw[hg e h1 h2];exact h)⟩
def Bt.op{l:List Oper}{i j:Nat}(h:Bt l i j):∃o,l[i]?=some o:=by
 unfold Bt at h;obtain⟨x,h1,h2⟩:=Hg l [];by_cases hi:i<l.length
 ·exact⟨l[i],zzd hi⟩
 have:(nm l []).getD i 0=0:=by
  rw[ww4,yyt (by rw[h1];simp;omega)];rfl
 rw[this]at h;simp at h
def Bt.lt{l:List Oper}(rf:RF P n l):∀(i:Nat) {j:Nat},Bt l i j->j<i:=by
 intro i;induction i using Nat.strongRecOn with
 | _ i ih=>
  intro j h;obtain⟨o,ho⟩:=h.op;obtain⟨e,h1,h2,h3⟩:=(Bt.iff rf ho).1 h;have hb:=rf.back i o e ho h1 h2;rcases h3 with rfl|h3
  ·exact hb
  have:=ih e.on hb h3;omega
def Bt.trans{l:List Oper}(rf:RF P n l):∀(i:Nat) {j k:Nat},Bt l i j->Bt l j k->Bt l i k:=by
 intro i;induction i using Nat.strongRecOn with
 | _ i ih=>
  intro j k h hk;obtain⟨o,ho⟩:=h.op;obtain⟨e,h1,h2,h3⟩:=(Bt.iff rf ho).1 h;have hb:=rf.back i o e ho h1 h2;refine (Bt.iff rf ho).2 ⟨e,h1,h2,.inr ?_⟩;rcases h3 with rfl|h3
  ·exact hk
  exact ih e.on hb h3 hk
end
open Go.RowKit
section
variable {P:Program} {T:List Bool} {n:Nat} {l:List Oper}
def Xs(P:Program)(l:List Oper)(listed:Array Bool):Α:=
 ((List.range l.length).filter λj=>!listed.getD j false && (match l[j]? with|some o=>gz P o.op|none=>false)).filterMap λj=>(l[j]?).bind (·.dst)
def vY{listed:Array Bool}{t:Nat}:t∈Xs P l listed↔∃j o,l[j]?=some o/\listed.getD j false=false/\gz P o.op=true/\o.dst=some t:=by
 unfold Xs;simp only[List.mem_filterMap,yy0,List.mem_range,zzs,Bool.not_eq_true'];constructor
 ·rintro ⟨j,⟨h1,h2,h3⟩,h4⟩;have hj:l[j]?=some l[j]:=zzd h1;rw[hj]at h3 h4
  exact⟨j,_,hj,h2,h3,h4⟩
 rintro ⟨j,o,h1,h2,h3,h4⟩;exact⟨j,⟨(zzh.1 h1).1,h2,by rw[h1];exact h3⟩,by rw[h1];exact h4⟩
def eC.same{X X':Α}{E E':Env}{a:Act}(h:eC X n E a)(hX:∀t,t∉X'->t∉X)(hs:∀t,t∉X'->valOf E' t=valOf E t):eC X' n E' a:=by
 refine⟨h.size,h.defers,λt e ht he=>?_⟩;have h1:=hs t ht;unfold valOf at h1;rw[he]at h1
 cases h2:E.get t with
 | none=>rw[h2]at h1;cases h1
 | some e'=>
  rw[h2]at h1
  simp at h1;rw[h.get t e' (hX t ht) h2,h1]
def KL{ops:Array Oper}{o:Oper}{X:Α}{E:Env}{a:Act}{r:Bool}(h:mL ops.toList o E r)(hA:eC X n E a)(hX:∀t∈looks ops.toList o,t∉X):Region.wanted o (yielded ops a.tmps)=r:=by
 unfold mL at h;cases hg:o.guard with
 | none=>simp only[hg]at h;simp[Region.wanted,hg,h]
 | some p=>
  obtain⟨j,want⟩:=p;simp only[hg]at h;obtain⟨s,b,h1,h2,h3⟩:=h;have hs:=hX s (Vh hg h1);unfold valOf at h2;cases he:E.get s with
  | none=>rw[he]at h2;cases h2
  | some e=>
   rw[he]at h2
   simp at h2;have:=hA.get s e hs he;rw[h2]at this
   simp only[Region.wanted,hg,yielded];rw[show ((ops[j]?).bind (·.dst))=some s by simpa using h1];simp only[Option.bind_some,this];rw[h3];cases b<;>cases want<;>first|rfl|(rename_i b;cases b<;>rfl)
def Next(P:Program)(T:List Bool)(n:Nat)(l:List Oper)(K:Env->Ζ->Prop)(k done en:Nat)(E:Env)(w:Ζ):Prop:=
 match vO (eT P l).cm done with
 | true=>K E w
 | false=>DZ (λc=>match l[c]? with
   | some o=>tN l o.guard E (λE2=>sq P T n o E2 w λE3 w3=>(eT P l).go P T n K k (done ||| 2 ^ c) en E3 w3)
     (λE2=>(eT P l).go P T n K k (done ||| 2 ^ c) en (E2.put n o.dst .u) w)
   | none=>False)
  (oa (λc=>!Nat.testBit done c && (eT P l).enabled done c) (eT P l).gI)
def P1{F:Nat->Prop}:∀{r:Α},DZ F r->∀c∈r,F c
 | [],_,c,hc=>by cases hc
 | [x],h,c,hc=>by simp at hc;subst hc;exact h
 | x::y::r,h,c,hc=>by
  rcases yya.1 hc with rfl|hc
  ·exact h.1
  exact P1 h.2 c hc
def Hm{c:Nat}:c∈(eT P l).gI↔∃o,l[c]?=some o/\gz P o.op=false:=by
 have:=@Fo (λo=>!gz P o.op) l 0 c;simpa [eT] using this
def Ca{c:Nat}:c∈(eT P l).sN↔∃o,l[c]?=some o/\gz P o.op=true:=by
 have:=@Fo (λo=>gz P o.op) l 0 c;simpa [eT] using this
def D7{c:Nat}:(eT P l).cm.testBit c=true↔c∈(eT P l).gI:=Vo
def wm{done j:Nat}:(eT P l).enabled done j=true↔∀c,Bt l j c->c∈(eT P l).gI->done.testBit c=true:=by
 unfold RS.enabled;rw[Kr];constructor
 ·intro h c hb hc;refine h c ?_;show (((eT P l).B.getD j 0) &&& (eT P l).cm).testBit c=true;rw[Nat.testBit_and,zzs];exact⟨hb,D7.2 hc⟩
 intro h c hc;have Ao:(((eT P l).B.getD j 0) &&& (eT P l).cm).testBit c=true:=hc;rw[Nat.testBit_and,zzs]at Ao
 exact h c Ao.1 (D7.1 Ao.2)
def bqg{done j:Nat}:(eT P l).Df done j=true↔∃c∈(eT P l).gI,done.testBit c=true/\Bt l c j:=by
 unfold RS.Df;rw[aIc];constructor
 ·rintro ⟨c,h1,h2⟩;split at h2
  ·rename_i hd;exact⟨c,h1,hd,h2⟩
  cases h2
 rintro ⟨c,h1,h2,h3⟩;exact⟨c,h1,by rw[h2];exact h3⟩
structure DI(P:Program)(T:List Bool)(n:Nat)(l:List Oper)(K:Env->Ζ->Prop)(a0:Act)(listed:Array Bool)(a:Act)(w:Ζ)(done:Nat)(E:Env):Prop where
 size:listed.size=l.length
 closed:∀i j,listed.getD i false=true->Bt l i j->listed.getD j false=true
 chain:∀c,c∈(eT P l).gI->(listed.getD c false=true↔done.testBit c=true)
 agree:eC (Xs P l listed) n E a
 keep:iI (rF l) a0 a
 J2:∀j o,l[j]?=some o->gz P o.op=true->listed.getD j false=false->(eT P l).enabled done j=true->∃r v,uJ P l n o E w r v
 next:∃k en,(∀j o,l[j]?=some o->gz P o.op=true->(en.testBit j=true↔(eT P l).enabled done j=true))/\Next P T n l K k done en E w
def SZ(hT:Calls.oM P T)(rf:RF P n l){K:Env->Ζ->Prop}{a0:Act}{listed:Array Bool}{a:Act}{w:Ζ}{k done en:Nat}{was:Nat->Prop}{E:Env}(size:listed.size=l.length)
  (closed:∀i j,listed.getD i false=true->Bt l i j->listed.getD j false=true) (chain:∀c,c∈(eT P l).gI->(listed.getD c false=true↔done.testBit c=true))
  (agree:eC (Xs P l listed) n E a) (keep:iI (rF l) a0 a) (sub:∀j,was j->(eT P l).enabled done j=true) (down:∀j k,was j->Bt l j k->was k)
  (kf:∀j o,l[j]?=some o->gz P o.op=true->(en.testBit j=true↔was j))
  (bjp:∀j o,l[j]?=some o->gz P o.op=true->listed.getD j false=true->was j)
  (btj:∀j o,l[j]?=some o->gz P o.op=true->listed.getD j false=false->was j->∃r v w0,uJ P l n o E w0 r v)
  (h:(eT P l).go P T n K k done en E w):∃E',DI P T n l K a0 listed a w done E':=by
 cases k with
 | zero=>exact h.elim
 | succ k=>
  unfold RS.go at h;have hR:(eT P l).ops=l:=rfl;rw[hR]at h
  obtain⟨h1,h2⟩:=Zc _ (λj hj o ho=>by
   rw[wA]at hj
   obtain⟨o',h1,h2⟩:=Ca.1 (yy0.1 hj).1;rw[ho]at h1;cases h1;exact h2) h
  have sZ:∀j,j∈oa (λj=>!Nat.testBit en j && (eT P l).enabled done j) (eT P l).sN↔∃o,l[j]?=some o/\gz P o.op=true/\en.testBit j=false/\(eT P l).enabled done j=true:=by
   intro j;rw[wA,yy0,Ca];simp only[zzs,Bool.not_eq_true'];constructor
   ·rintro ⟨⟨o,a,b⟩,c,d⟩;exact⟨o,a,b,c,d⟩
   rintro ⟨o,a,b,c,d⟩;exact⟨⟨o,a,b⟩,c,d⟩
  obtain⟨E',k1,k2,k3⟩:=ZH (n:=n) hT _ E (λj hj o ho=>by
   obtain⟨o',q1,q2,_⟩:=(sZ j).1 hj;rw[ho]at q1;cases q1
   exact⟨q2,λd hd=>rf.self j o d ho q2 hd⟩) (by
    rw[wA];refine List.Pairwise.imp_of_mem ?_ (List.Pairwise.filter _ (Jg (f:=λo=>gz P o.op) (l:=l) (s:=0)));intro j k hj hk b9 oj ok d T5 bC hd;have TN:gz P ok.op=true:=by
     have o9:=(yy0.1 hk).1;obtain⟨o',q1,q2⟩:=Ca.1 o9;rw[bC]at q1;cases q1;exact q2
    refine⟨λjR=>?_,rf.one j k oj ok d T5 bC (by omega) hd TN⟩;rcases rf.dep j k oj ok d T5 bC (by omega) hd jR with q|⟨q,_⟩
    ·have:=Bt.lt rf j (show Bt l j k from q);omega
    rw[TN]at q;cases q) h1
  have Fa:∀j o,l[j]?=some o->gz P o.op=true->j∈oa (λj=>!Nat.testBit en j && (eT P l).enabled done j) (eT P l).sN->listed.getD j false=false:=λj o ho hf hj=>by
   obtain⟨o',q1,q2,q3,q4⟩:=(sZ j).1 hj;cases hl:listed.getD j false with
   | false=>rfl
   | true=>rw[(kf j o ho hf).2 (bjp j o ho hf hl)]at q3;cases q3
  refine⟨E',size,closed,chain,agree.same (λt ht=>ht) (λt ht=>k2 t (λj hj o ho hd=>ht ?_)),keep,λj o ho hf hl he=>?_,k,_,?_,k1⟩
  ·obtain⟨o',q1,q2,q3,q4⟩:=(sZ j).1 hj;rw[ho]at q1;cases q1
   exact vY.2 ⟨j,o,ho,Fa j o ho q2 hj,q2,hd⟩
  ·
   by_cases hold:was j
   ·obtain⟨r,v,w0,hp⟩:=btj j o ho hf hl hold;have base:∃v,uJ P l n o E w r v:=by
     cases r with
     | false=>exact⟨v,hp.DC,hp.val,λh=>(by cases h),hp.skip,λh=>(by cases h)⟩
     | true=>
      by_cases cJ:nM P o.op=true
      ·have wQ:j∈oa (λj=>Nat.testBit en j && !(eT P l).Df done j && (match l[j]? with|some o=>nM P o.op|none=>false)) (eT P l).sN:=by
        rw[wA,yy0];refine⟨Ca.2 ⟨o,ho,hf⟩,?_⟩;simp only[zzs,Bool.not_eq_true',ho];refine⟨⟨(kf j o ho hf).2 hold,?_⟩,cJ⟩;cases hn:(eT P l).Df done j with
        | false=>rfl
        | true=>
         obtain⟨c,c1,c2,c3⟩:=bqg.1 hn;rw[closed c j ((chain c c1).2 c2) c3]at hl;cases hl
       obtain⟨d,e,d1,d2,d3⟩:=h2 j wQ o ho hp.DC;obtain⟨u,u1,u2⟩:=HX o.op hf d3;subst u1;refine⟨e.val,hp.DC,λd' ml _=>?_,hp.all,λh=>(by cases h),λ_ w' xd ρ hF hρ=>?_⟩
       ·rw[d1]at ml;cases ml;simp[valOf,d2]
       exact JS hT hF (λx hx=>hρ x hx (hp.all rfl cJ x hx)) (u2 w' xd)
      exact⟨v,hp.mono (λ_ _=>rfl) (λ_ _=>rfl) (λh=>absurd h cJ)⟩
    obtain⟨v,hp⟩:=base;have P8:∀k ok,k∈oa (λj=>!Nat.testBit en j && (eT P l).enabled done j) (eT P l).sN->l[k]?=some ok->k≠j/\∀d,ok.dst=some d->d∉looks l o:=λk ok hk bC=>by
     obtain⟨o',q1,q2,q3,q4⟩:=(sZ k).1 hk;rw[bC]at q1;cases q1
     have IC:k≠j:=λe=>by subst e;rw[(kf k o ho hf).2 hold]at q3;cases q3
     refine⟨IC,λd hd jR=>?_⟩;rcases rf.dep j k o ok d ho bC (Ne.symm IC) hd jR with q|⟨q,_⟩
     ·rw[(kf k ok bC q2).2 (down j k hold q)]at q3;cases q3
     rw[q2]at q;cases q
    refine⟨r,v,hp.mono (λt ht=>k2 t (λk hk ok bC hd=>?_)) (λd hd=>k2 d (λk hk ok bC ml=>?_)) (λ_=>rfl)⟩
    ·exact (P8 k ok hk bC).2 t hd ht
    obtain⟨o',q1,q2,_⟩:=(sZ k).1 hk;rw[bC]at q1;cases q1
    exact rf.one j k o ok d ho bC (Ne.symm (P8 k ok hk bC).1) ml q2 hd
   exact k3 j ((sZ j).2 ⟨o,ho,hf,by
    cases hb:en.testBit j with
    | false=>rfl
    | true=>exact absurd ((kf j o ho hf).1 hb) hold,he⟩) o ho
  intro j o ho hf;rw[Nat.testBit_or,Bool.or_eq_true,Vo,wA,yy0,Ca];constructor
  ·rintro (q|⟨_,q⟩)
   ·exact sub j ((kf j o ho hf).1 q)
   exact q
  intro q;exact .inr ⟨⟨o,ho,hf⟩,q⟩
end
open Go.RowKit
section
variable {P:Program} {T:List Bool} {n:Nat} {ops:Array Oper}
def left(listed:Array Bool)(m:Nat):Nat:=((List.range m).filter λj=>!listed.getD j false).length
def bnf{listed:Array Bool}{i:Nat}(hu:listed.getD i false=false)(hs:i<listed.size):∀m,left listed m=left (listed.setIfInBounds i true) m+(if i<m then 1 else 0):=by
 intro m;induction m with
 | zero=>simp[left]
 | succ m ih=>
  unfold left at ih ⊢;rw[List.range_succ,xxj,xxj,zza,zza,ih];by_cases mT:m=i
  ·subst mT;have e1:(listed.setIfInBounds m true).getD m false=true:=by simp[hs]
   rw[xx7,xx7,hu,e1];simp
  rw[xx7,xx7,getD_set_ne false (λe=>mT e.symm),List.filter_nil,List.filter_nil];by_cases lr:i<m
  ·have h2:i<m+1:=by omega
   simp only[lr,h2,ww0];omega
  have h2:¬i<m+1:=by omega
  simp only[lr,h2,wwt];omega
def bng{listed:Array Bool}{m:Nat}(h:left listed m=0){j:Nat}(hj:j<m):listed.getD j false=true:=by
 have h0:=zzl h;cases hb:listed.getD j false with
 | true=>rfl
 | false=>
  have:j∈(List.range m).filter λi=>!listed.getD i false:=yy0.2 ⟨List.mem_range.2 hj,by rw[hb];rfl⟩;rw[h0]at this;cases this
def bnc{listed:Array Bool}{m k:Nat}(h:left listed m=k+1):∃j,j<m/\listed.getD j false=false:=by
 unfold left at h;cases hl:(List.range m).filter λj=>!listed.getD j false with
 | nil=>rw[hl]at h;simp at h
 | cons j r=>
  have:j∈(List.range m).filter λj=>!listed.getD j false:=by rw[hl];simp
  obtain⟨h1,h2⟩:=yy0.1 this;exact⟨j,List.mem_range.1 h1,by simpa using h2⟩
def aIe(hT:Calls.oM P T)(rf:RF P n ops.toList){K:Env->Ζ->Prop}{Q:Exit->Act->Ζ->Prop}{a0:Act}(hn:∀E' a' w',eC [] n E' a'->iI (rF ops.toList) a0 a'->K E' w'->Q .normal a' w'):
  ∀(f:Nat) (listed:Array Bool) (a:Act) (w:Ζ) (done:Nat) (E:Env),DI P T n ops.toList K a0 listed a w done E->left listed ops.size=f->wpAny P .any ops Q f listed a w:=by
 have Cx:∀(i:Nat) (o:Oper),ops.toList[i]?=some o↔ops[i]?=some o:=λi o=>by simp
 intro f;induction f with
 | zero=>
  intro listed a w done E di hf;have fw:listed.size=ops.size:=by simpa using di.size
  have dh:∀j,j<ops.size->listed.getD j false=true:=λj hj=>bng hf hj;refine⟨?_,?_⟩
  ·cases hr:Region.ready .any ops listed with
   | nil=>rfl
   | cons i r=>
    have hi:i∈Region.ready .any ops listed:=by rw[hr];simp
    obtain⟨xc,oi,wV,_⟩:=mem_ready.1 hi;have b9:i<ops.size:=(xxe.1 wV).1;have:=dh i b9;rw[getD_both xc]at this;cases this
  obtain⟨k,en,_,hx⟩:=di.next;unfold Next at hx;have pW:vO (eT P ops.toList).cm done=true:=Kr.2 λc hc=>by
   have Ao:=D7.1 hc;obtain⟨o,ho,_⟩:=Hm.1 Ao;have b9:c<ops.size:=by have:=(zzh.1 ho).1;simpa using this
   exact (di.chain c Ao).1 (dh c b9)
  rw[pW]at hx
  refine hn E a w (di.agree.same (λt _ ht=>?_) (λ_ _=>rfl)) di.keep hx;obtain⟨j,o,ho,hl,_⟩:=vY.1 ht;have b9:j<ops.size:=by have:=(zzh.1 ho).1;simpa using this
  rw[dh j b9]at hl;cases hl
 | succ f ih=>
  intro listed a w done E di hf;have fw:listed.size=ops.size:=by simpa using di.size
  refine⟨λh0=>?_,λi hi=>?_⟩
  ·
   exfalso;obtain⟨j0,sY,I9⟩:=bnc hf;have wR:∀(m:Nat),m<ops.size->listed.getD m false=false->False:=by
    intro m;induction m using Nat.strongRecOn with
    | _ m ihm=>
     intro hm hu;have T7:ops[m]?=some ops[m]:=ww7 hm;have:m∈Region.ready .any ops listed:=mem_ready.2 ⟨getD_in (by omega) hu,_,T7,λe he hb=>by
      have b9:=rf.back m _ e ((Cx m _).2 T7) (by simpa using he) hb;cases hx:listed.getD e.on false with
      | true=>rfl
      | false=>exact (ihm e.on b9 (by omega) hx).elim⟩
     rw[h0]at this;cases this
   exact wR j0 sY I9
  obtain⟨xc,o,wV,bht⟩:=mem_ready.1 hi;have hu:listed.getD i false=false:=getD_both xc;have b9:i<ops.size:=(xxe.1 wV).1;have ho:ops.toList[i]?=some o:=(Cx i o).2 wV;have hB:∀j,Bt ops.toList i j->listed.getD j false=true:=λj hj=>by
   obtain⟨e,h1,h2,h3⟩:=(Bt.iff rf ho).1 hj;have:=bht e (by simpa using h1) h2;rcases h3 with rfl|h3
   ·exact this
   exact di.closed e.on j this h3
  have kf:(eT P ops.toList).enabled done i=true:=wm.2 λc hb hc=>(di.chain c hc).1 (hB c hb);have TT:left (listed.setIfInBounds i true) ops.size=f:=by
   have:=bnf hu (by omega) ops.size;rw[zzc b9]at this;omega
  have Ix:(listed.setIfInBounds i true).getD i false=true:=by
   have:i<listed.size:=by omega
   simp[this]
  have T2:∀j,listed.getD j false=true->(listed.setIfInBounds i true).getD j false=true:=λj hj=>by
   by_cases e:i=j
   ·subst e;exact Ix
   rw[getD_set_ne false e];exact hj
  have lj:∀j,(listed.setIfInBounds i true).getD j false=false->listed.getD j false=false/\j≠i:=λj hj=>by
   by_cases e:i=j
   ·subst e;rw[Ix]at hj;cases hj
   rw[getD_set_ne false e]at hj;exact⟨hj,Ne.symm e⟩
  have To:∀x y,(listed.setIfInBounds i true).getD x false=true->Bt ops.toList x y->(listed.setIfInBounds i true).getD y false=true:=λx y hx hb=>by
   by_cases e:i=x
   ·subst e;exact T2 y (hB y hb)
   rw[getD_set_ne false e]at hx;exact T2 y (di.closed x y hx hb)
  have Ay:∀t∈looks ops.toList o,t∉Xs P ops.toList listed:=λt ht hx=>by
   obtain⟨j,oj,hj,hl,oz,hd⟩:=vY.1 hx;by_cases e:i=j
   ·subst e;rw[ho]at hj;cases hj;exact rf.self i o t ho oz hd ht
   rcases rf.dep i j o oj t ho hj e hd ht with q|⟨q,_⟩
   ·rw[hB j q]at hl;cases hl
   rw[oz]at q;cases q
  have jF:∀x∈de o.op,vV (Xs P ops.toList listed) x:=λx hx t ht=>Ay t (FC hx ht);have Ty:∀t,o.dst=some t->t∈rF ops.toList:=λt ht=>List.mem_filterMap.2 ⟨o,xxu ho,ht⟩;have bhc:∀t,t∉Xs P ops.toList (listed.setIfInBounds i true)->o.dst≠some t->t∉Xs P ops.toList listed:=λt h1 h2 h3=>by
   obtain⟨j,oj,hj,hl,oz,hd⟩:=vY.1 h3;by_cases e:i=j
   ·subst e;rw[ho]at hj;cases hj;exact h2 hd
   exact h1 (vY.2 ⟨j,oj,hj,by rw[getD_set_ne false e];exact hl,oz,hd⟩)
  by_cases lO:gz P o.op=true
  ·
   obtain⟨r,v,hp⟩:=di.J2 i o ho lO hu kf;have hw:=KL hp.DC di.agree Ay;have ue:wpAny P .any ops Q f (listed.setIfInBounds i true) (a.put o.dst v) w:=by
    refine ih _ _ w done E ⟨by simpa using di.size,To,λc hc=>?_,?_,di.keep.trans (iI.put a o.dst v _ Ty),λj oj hj oz hl he=>?_,di.next⟩ TT
    ·have EL:c≠i:=λe=>by
      obtain⟨oc,h1,h2⟩:=Hm.1 hc;subst e;rw[ho]at h1;cases h1;rw[lO]at h2;cases h2
     rw[getD_set_ne false (Ne.symm EL)];exact di.chain c hc
    ·refine⟨by cases o.dst<;>simp[Act.put,di.agree.size],by cases o.dst<;>exact di.agree.defers,λt e ht he=>?_⟩;by_cases hd:o.dst=some t
     ·have TY:=rf.low i o t ho hd;have:=hp.val t hd TY;unfold valOf at this;rw[he]at this
      simp at this;rw[this,hd];simp[Act.put,di.agree.size,TY]
     have:=di.agree.get t e (bhc t ht hd) he;cases hdd:o.dst with
     | none=>exact this
     | some d=>
      have cY:d≠t:=λe=>hd (by rw[hdd,e]);simp[Act.put,Array.getElem?_setIfInBounds_ne cY,this]
    exact di.J2 j oj hj oz (lj j hl).1 he
   unfold wpOp;rw[wV];show if Region.wanted o (yielded ops a.tmps)=true then _ else _
   rw[hw];cases r with
   | true=>
    rw[zzc rfl];refine .inl (eP.upon (hp.run rfl w (λ_=>rfl) a.eval (λ_=>rfl) (λx hx hh=>di.agree.ev (jF x hx) hh)) ?_);rintro u w' ⟨rfl,rfl⟩;exact ue
   | false=>
    rw[zzb Bool.false_ne_true];rw[<- hp.skip rfl];exact ue
  
  have bh4:gz P o.op=false:=by simpa using lO
  have EX:i∈(eT P ops.toList).gI:=Hm.2 ⟨o,ho,bh4⟩;have Cr:done.testBit i=false:=by
   cases hb:done.testBit i with
   | false=>rfl
   | true=>rw[(di.chain i EX).2 hb]at hu;cases hu
  obtain⟨k,en,bhz,hx⟩:=di.next;unfold Next at hx;have pW:vO (eT P ops.toList).cm done=false:=by
   cases hb:vO (eT P ops.toList).cm done with
   | false=>rfl
   | true=>rw[Kr.1 hb i (D7.2 EX)]at Cr;cases Cr
  rw[pW]at hx
  have hx:=P1 hx i (by
   rw[wA,yy0];exact⟨EX,by rw[Cr,kf];rfl⟩)
  rw[ho]at hx
  have enter:∀(E3:Env) (v:Ε) (w3:Ζ),fe o.dst E E3->eC (Xs P ops.toList listed) n E3 (a.put o.dst v)->(eT P ops.toList).go P T n K k (done ||| 2 ^ i) en E3 w3 ->
    wpAny P .any ops Q f (listed.setIfInBounds i true) (a.put o.dst v) w3:=by
   intro E3 v w3 hs hA hg;have bhb:∀t,t∉Xs P ops.toList (listed.setIfInBounds i true)->t∉Xs P ops.toList listed:=λt h1 h3=>by
    obtain⟨j,oj,hj,hl,oz,hd⟩:=vY.1 h3;have gZ:i≠j:=λe=>by subst e;rw[ho]at hj;cases hj;exact lO oz
    exact h1 (vY.2 ⟨j,oj,hj,by rw[getD_set_ne false gZ];exact hl,oz,hd⟩)
   have bhk:∀c,c∈(eT P ops.toList).gI->((listed.setIfInBounds i true).getD c false=true↔(done ||| 2 ^ i).testBit c=true):=λc hc=>by
    rw[Nat.testBit_or,Bool.or_eq_true,Nat.testBit_two_pow,zz1];by_cases e:i=c
    ·subst e;exact⟨λ_=>.inr rfl,λ_=>Ix⟩
    rw[getD_set_ne false e,di.chain c hc];exact⟨.inl,λh=>h.elim id (λh=>absurd h e)⟩
   obtain⟨E',di'⟩:=SZ (n:=n) hT rf (K:=K) (a0:=a0) (was:=λj=>(eT P ops.toList).enabled done j=true) (by simpa using di.size) To bhk (hA.same bhb (λ_ _=>rfl)) (di.keep.trans (iI.put a o.dst v _ Ty))
    (λj hj=>wm.2 λc hb hc=>by rw[Nat.testBit_or,wm.1 hj c hb hc];rfl)
    (λj k hj hb=>wm.2 λc hc hm=>wm.1 hj c (Bt.trans rf j hb hc) hm) bhz
    (λj oj hj oz hl=>wm.2 λc hb hc=>by
     have gZ:i≠j:=λe=>by subst e;rw[ho]at hj;cases hj;exact lO oz
     rw[getD_set_ne false gZ]at hl
     exact (di.chain c hc).1 (di.closed j c hl hb))
    (λj oj hj oz hl he=>by
     obtain⟨hl,gZ⟩:=lj j hl;obtain⟨r,v,hp⟩:=di.J2 j oj hj oz hl he;have TM:j≠i:=gZ;refine⟨r,v,w,hp.mono (λt ht=>hs t (λhd=>?_)) (λd hd=>hs d (λml=>?_)) (λ_=>rfl)⟩
     ·rcases rf.dep j i oj o t hj ho TM hd ht with q|⟨_,q⟩
      ·rw[wm.1 he i q EX]at Cr;cases Cr
      rw[hB j q]at hl;cases hl
     exact rf.one i j o oj d ho hj (Ne.symm TM) hd oz ml)
    hg
   exact ih _ _ w3 _ E' di' TT
  obtain⟨E2,h0,⟨C4,h⟩|⟨C4,h⟩⟩:=HZ hx
  ·have hw:=KL C4 di.agree Ay;unfold wpOp;rw[wV];show if Region.wanted o (yielded ops a.tmps)=true then _ else _
   rw[hw,zzc rfl];refine .inl (Xl hT (bz4 h) (di.agree.same (λt ht=>ht) (λt _=>h0 t (by simp))) jF ?_);rintro E3 v w3 hA ⟨hs,hg⟩;exact enter E3 v w3 (h0.Bj.trans hs) hA hg
  have hw:=KL C4 di.agree Ay;unfold wpOp;rw[wV];show if Region.wanted o (yielded ops a.tmps)=true then _ else _
  rw[hw,zzb Bool.false_ne_true];exact enter _ undef w (h0.Bj.trans (fe.put n E2 o.dst _)) ((di.agree.same (λt ht=>ht) (λt _=>h0 t (by simp))).put o.dst .u) h
def bct(hT:Calls.oM P T)(hm:P.follows .mixedOrders=true){id:Nat}{K:Env->Ζ->Prop}{Q:Exit->Act->Ζ->Prop}{a:Act}{E:Env}{w:Ζ}
  (bC:F1 P n ops.toList true=true) (hA:eC [] n E a) (h:HA P T n ops.toList K E w.drew) (hn:∀E' a' w',eC [] n E' a'->iI (rF ops.toList) a a'->K E' w'->Q .normal a' w') :
  (Code.region id ops true).wp P Q a w:=by
 have rf:=bwh bC;refine wp_region_any hm ?_;have hr:∀j,(Array.replicate ops.size false).getD j false=false:=λj=>getD_replicate_false _ _;unfold HA at h;obtain⟨E',di⟩:=SZ (n:=n) hT rf (K:=K) (a0:=a) (listed:=Array.replicate ops.size false) (a:=a) (was:=λ_=>False) (by simp) (λi j hi=>by rw[hr]at hi;cases hi) (λc _=>by rw[hr];simp)
  (hA.same (λt _=>by simp) (λ_ _=>rfl)) (.refl _ a) (λ_ h=>h.elim) (λ_ _ h=>h.elim) (λj o ho hf=>by simp) (λj o ho hf hl=>by rw[hr]at hl;cases hl) (λj o ho hf hl he=>he.elim) h
 refine aIe hT rf hn ops.size _ a w.drew 0 E' di ?_;unfold left;rw[yyy.2 (λi _=>by rw[hr];rfl)];simp
end
