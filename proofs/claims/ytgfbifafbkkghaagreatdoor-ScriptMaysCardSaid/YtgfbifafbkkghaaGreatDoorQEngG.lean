/- Part. -/
import Derived.Test.YtgfbifafbkkghaaGreatDoorQEngD
namespace Go.Proofs.YtgfbifafbkkghaaGreatDoor
set_option linter.all false
open Go.RowKit
def zzk:=@Bool.and_eq_true
def yym:=@List.length_nil
def zzw:=@List.all_eq_true
def zz2:=@Nat.zero_add
def yys:=@List.getElem?_eq_none
def xxf:=@List.mem_filter
def xxp:=@List.filter_append
def yyu:=@Array.getElem?_eq_some_iff
def xx5:=@Array.getElem?_eq_getElem
def xxz:=@List.mem_of_getElem?
def xxn:=@List.filter_eq_self
def Em{a b:Nat}:p' a b=true↔∀k,a.testBit k=true->b.testBit k=true:=by
 unfold p';rw[beq_iff];constructor
 ·intro h k hk;have:(Nat.land a b).testBit k=true:=by rw[h];exact hk
  have e:(a &&& b).testBit k=true:=this;rw[Nat.testBit_and]at e
  simp only[zzk]at e;exact e.2
 intro h;show a &&& b=a;apply Nat.eq_of_testBit_eq;intro k;rw[Nat.testBit_and];cases hk:a.testBit k with
 | true=>simp[h k hk]
 | false=>rfl
def MB{l:Α}{k:Nat}:(r_ l).testBit k=true↔k∈l:=by
 induction l with
 | nil=>simp[r_]
 | cons j r ih=>
  simp only[r_,Nat.testBit_or,Bool.or_eq_true,ih,zzv,Nat.testBit_two_pow,zzo];constructor
  ·rintro (h|h)
   ·exact .inl h.symm
   exact .inr h
  rintro (h|h)
  ·exact .inl h.symm
  exact .inr h
def rE(f:Nat->Bool):∀l:Α,kQ f l=l.filter f
 | []=>rfl
 | j::r=>by
  simp only[kQ,rE f r,List.filter_cons];cases f j<;>simp
def Pz{f:Nat->Bool}{l:Α}:uD f l=true↔∃c∈l,f c=true:=by
 induction l with
 | nil=>simp[uD]
 | cons j r ih=>
  simp only[uD];cases h:f j<;>simp[h,ih]
def Aj{f:Oper->Bool}:∀{l:List Oper} {s k:Nat},k∈idxs f l s↔∃o,s<=k/\l[k-s]?=some o/\f o=true
 | [],s,k=>by simp[idxs]
 | o::r,s,k=>by
  have ih:=@Aj f r (s+1) k;have step:(∃o',s<=k/\(o::r)[k-s]?=some o'/\f o'=true)↔(k=s/\f o=true)\/∃o',s+1<=k/\r[k-(s+1)]?=some o'/\f o'=true:=by
   constructor
   ·rintro ⟨o',h1,h2,h3⟩;by_cases hk:k=s
    ·subst hk;simp at h2;subst h2;exact .inl ⟨rfl,h3⟩
    refine .inr ⟨o',by omega,?_,h3⟩;rw[show k-s=(k-(s+1))+1 by omega]at h2
    simpa using h2
   rintro (⟨rfl,h⟩|⟨o',h1,h2,h3⟩)
   ·exact⟨o,zzz _,by simp,h⟩
   refine⟨o',by omega,?_,h3⟩;rw[show k-s=(k-(s+1))+1 by omega];simpa using h2
  rw[step];simp only[idxs];cases h:f o with
  | true=>simp[ih]
  | false=>simp[ih]
def Dn{f:Oper->Bool}:∀{l:List Oper} {s:Nat},(idxs f l s).Pairwise (· < ·)
 | [],s=>by simp[idxs]
 | o::r,s=>by
  simp only[idxs];split
  ·refine yyc.2 ⟨λk hk=>?_,Dn⟩;obtain⟨_,h,_⟩:=Aj.1 hk;omega
  exact Dn
def BI{acc:Α}{j:Nat}:∀{es:List Edge},(mN acc es).testBit j=true↔∃e∈es,Region.binds .any e=true/\(j=e.on\/(acc.getD e.on 0).testBit j=true)
 | []=>by simp[mN]
 | e::r=>by
  simp only[mN];cases h:Region.binds .any e with
  | true=>
   simp only[Nat.testBit_or,Bool.or_eq_true,BI (es:=r),Nat.testBit_two_pow,zzo,zzv];constructor
   ·rintro ((⟨e',h1,h2⟩|h1)|h1)
    ·exact⟨e',.inr h1,h2⟩
    ·exact⟨e,.inl rfl,h,.inl h1.symm⟩
    exact⟨e,.inl rfl,h,.inr h1⟩
   rintro ⟨e',rfl|h1,h2,h3⟩
   ·rcases h3 with h3|h3
    ·exact .inl (.inr h3.symm)
    exact .inr h3
   exact .inl (.inl ⟨e',h1,h2,h3⟩)
  | false=>
   simp only[BI (es:=r),zzv];constructor
   ·rintro ⟨e',h1,h2⟩;exact⟨e',.inr h1,h2⟩
   rintro ⟨e',rfl|h1,h2,h3⟩
   ·rw[h]at h2;cases h2
   exact⟨e',h1,h2,h3⟩
def BJ:∀(l:List Oper) (acc:Α),∃x,ki l acc=acc++x/\x.length=l.length
 | [],acc=>⟨[],by simp[ki],rfl⟩
 | o::r,acc=>by
  obtain⟨x,h1,h2⟩:=BJ r (acc++[mN acc o.after.toList]);exact⟨mN acc o.after.toList::x,by rw[ki,h1];simp,by simp[h2]⟩
def Jg:∀(l:List Oper) (acc:Α) (i:Nat) (o:Oper),l[i]?=some o->(ki l acc).getD (acc.length+i) 0=mN ((ki l acc).take (acc.length+i)) o.after.toList
 | [],acc,i,o,h=>by simp at h
 | o'::r,acc,i,o,h=>by
  cases i with
  | zero=>
   simp at h;subst h;obtain⟨x,h1,h2⟩:=BJ r (acc++[mN acc o'.after.toList]);rw[ki,h1];simp
  | succ i=>
   have:=Jg r (acc++[mN acc o'.after.toList]) i o (by simpa using h);simp only[zza,zzg,yym]at this;rw[show acc.length+(0+1)+i=acc.length+(i+1) by omega]at this
   rw[ki];exact this
section
variable {P:Program} {T:List Bool} {n:Nat} {ops:Array Oper}
structure RF(P:Program)(n:Nat)(l:List Oper):Prop where
 low:∀(i:Nat) (o:Oper) (d:Nat),l[i]?=some o->o.dst=some d->d<n
 back:∀(i:Nat) (o:Oper) (e:Edge),l[i]?=some o->e∈o.after.toList->Region.binds .any e=true->e.on<i
 self:∀(i:Nat) (o:Oper) (d:Nat),l[i]?=some o->fe P o.op=true->o.dst=some d->d∉looks l o
 one:∀(i j:Nat) (oi oj:Oper) (d:Nat),l[i]?=some oi->l[j]?=some oj->i≠j->oj.dst=some d->fe P oj.op=true->oi.dst≠some d
 dep:∀(i j:Nat) (oi oj:Oper) (d:Nat),l[i]?=some oi->l[j]?=some oj->i≠j->oj.dst=some d->d∈looks l oi->((ki l []).getD i 0).testBit j=true\/(fe P oj.op=false/\((ki l []).getD j 0).testBit i=true)
def X9{l:List Oper}(h:AQ P n l true=true):RF P n l:=by
 simp only[AQ,dx,zzw,List.mem_range]at h;have key:∀i oi,l[i]?=some oi->_:=λi oi hi=>by
  have:=h i (zzf.1 hi).1;rw[hi]at this
  exact this
 refine⟨λi o d hi hd=>?_,λi o e hi he hb=>?_,λi o d hi hf hd=>?_,λi j oi oj d hi hj d_ hd hf=>?_,λi j oi oj d hi hj d_ hd hl=>?_⟩
 ·have:=key i o hi;simp only[zzk,zzw]at this;have:=this.1.1.1 d (by simp[hd]);simpa using this
 ·have:=key i o hi;simp only[zzk,zzw]at this;have:=this.1.1.2 e he;simpa [hb] using this
 ·have:=key i o hi;simp only[zzk]at this;have:=this.1.2;simp[hf,hd]at this
  exact this
 ·have:=key i oi hi;simp only[zzk,zzw,List.mem_range]at this;have:=this.2 j (zzf.1 hj).1;rw[hj]at this
  simp only[hd]at this;simp only[Bool.or_eq_true,beq_iff_eq,d_,false_or,zzk,hf,Bool.not_true,Bool.false_eq_true,bne_iff_ne,ne_eq]at this;exact this.1
 have:=key i oi hi;simp only[zzk,zzw,List.mem_range]at this;have:=this.2 j (zzf.1 hj).1;rw[hj]at this
 simp only[hd]at this;have hc:(looks l oi).contains d=true:=by simpa using hl
 simp only[Bool.or_eq_true,beq_iff_eq,d_,false_or,zzk,hc,Bool.not_true,Bool.false_eq_true,Bool.not_eq_true']at this;exact this.2
def Bt(l:List Oper)(i j:Nat):Prop:=((ki l []).getD i 0).testBit j=true
def Bt.iff{l:List Oper}(rf:RF P n l){i j:Nat}{o:Oper}(hi:l[i]?=some o):Bt l i j↔∃e∈o.after.toList,Region.binds .any e=true/\(j=e.on\/Bt l e.on j):=by
 unfold Bt;have h1:=Jg l [] i o hi;simp only[yym,zz2]at h1;rw[h1,BI];have hg:∀e∈o.after.toList,Region.binds .any e=true->((ki l []).take i).getD e.on 0=(ki l []).getD e.on 0:=λe he hb=>by
  have:=rf.back i o e hi he hb;simp[this]
 constructor
 ·rintro ⟨e,h1,h2,h3⟩;exact⟨e,h1,h2,h3.imp id (λh=>by rw[<- hg e h1 h2];exact h)⟩
 rintro ⟨e,h1,h2,h3⟩;exact⟨e,h1,h2,h3.imp id (λh=>by rw[hg e h1 h2];exact h)⟩
def Bt.op{l:List Oper}{i j:Nat}(h:Bt l i j):∃o,l[i]?=some o:=by
 unfold Bt at h;obtain⟨x,h1,h2⟩:=BJ l [];by_cases hi:i<l.length
 ·exact⟨l[i],zzc hi⟩
 have:(ki l []).getD i 0=0:=by
  rw[List.getD_eq_getElem?_getD,yys (by rw[h1];simp;omega)];rfl
 rw[this]at h;simp at h
def Bt.lt{l:List Oper}(rf:RF P n l):∀(i:Nat) {j:Nat},Bt l i j->j<i:=by
 intro i;induction i using Nat.strongRecOn with
 | _ i ih=>
  intro j h;obtain⟨o,ho⟩:=h.op;obtain⟨e,h1,h2,h3⟩:=(Bt.iff rf ho).1 h;have hb:=rf.back i o e ho h1 h2;rcases h3 with rfl|h3
  ·exact hb
  have:=ih e.on hb h3;omega
def Bt.trans{l:List Oper}(rf:RF P n l):∀(i:Nat) {j k:Nat},Bt l i j->Bt l j k->Bt l i k:=by
 intro i;induction i using Nat.strongRecOn with
 | _ i ih=>
  intro j k h hk;obtain⟨o,ho⟩:=h.op;obtain⟨e,h1,h2,h3⟩:=(Bt.iff rf ho).1 h;have hb:=rf.back i o e ho h1 h2;refine (Bt.iff rf ho).2 ⟨e,h1,h2,.inr ?_⟩;rcases h3 with rfl|h3
  ·exact hk
  exact ih e.on hb h3 hk
end
open Go.RowKit
section
variable {P:Program} {T:List Bool} {n:Nat} {l:List Oper}
def Xs(P:Program)(l:List Oper)(listed:Array Bool):Α:=
 ((List.range l.length).filter λj=>!listed.getD j false && (match l[j]? with|some o=>fe P o.op|none=>false)).filterMap λj=>(l[j]?).bind (·.dst)
def rm{listed:Array Bool}{t:Nat}:t∈Xs P l listed↔∃j o,l[j]?=some o/\listed.getD j false=false/\fe P o.op=true/\o.dst=some t:=by
 unfold Xs;simp only[List.mem_filterMap,xxf,List.mem_range,zzk,Bool.not_eq_true'];constructor
 ·rintro ⟨j,⟨h1,h2,h3⟩,h4⟩;have hj:l[j]?=some l[j]:=zzc h1;rw[hj]at h3 h4
  exact⟨j,_,hj,h2,h3,h4⟩
 rintro ⟨j,o,h1,h2,h3,h4⟩;exact⟨j,⟨(zzf.1 h1).1,h2,by rw[h1];exact h3⟩,by rw[h1];exact h4⟩
def dd.same{X X':Α}{E E':Env}{a:Act}(h:dd X n E a)(hX:∀t,t∉X'->t∉X)(hs:∀t,t∉X'->valOf E' t=valOf E t):dd X' n E' a:=by
 refine⟨h.size,h.defers,λt e ht he=>?_⟩;have h1:=hs t ht;unfold valOf at h1;rw[he]at h1
 cases h2:E.get t with
 | none=>rw[h2]at h1;cases h1
 | some e'=>
  rw[h2]at h1
  simp at h1;rw[h.get t e' (hX t ht) h2,h1]
def EB{ops:Array Oper}{o:Oper}{X:Α}{E:Env}{a:Act}{r:Bool}(h:jW ops.toList o E r)(hA:dd X n E a)(hX:∀t∈looks ops.toList o,t∉X):Region.wanted o (yielded ops a.tmps)=r:=by
 unfold jW at h;cases hg:o.guard with
 | none=>simp only[hg]at h;simp[Region.wanted,hg,h]
 | some p=>
  obtain⟨j,want⟩:=p;simp only[hg]at h;obtain⟨s,b,h1,h2,h3⟩:=h;have hs:=hX s (Mp hg h1);unfold valOf at h2;cases he:E.get s with
  | none=>rw[he]at h2;cases h2
  | some e=>
   rw[he]at h2
   simp at h2;have:=hA.get s e hs he;rw[h2]at this
   simp only[Region.wanted,hg,yielded];rw[show ((ops[j]?).bind (·.dst))=some s by simpa using h1];simp only[Option.bind_some,this];rw[h3];cases b<;>cases want<;>first|rfl|(rename_i b;cases b<;>rfl)
def Next(P:Program)(T:List Bool)(n:Nat)(l:List Oper)(K:Env->Ζ->Prop)(k done en:Nat)(E:Env)(w:Ζ):Prop:=
 match p' (dx P l).cm done with
 | true=>K E w
 | false=>wX (λc=>match l[c]? with
   | some o=>oN l o.guard E (λE2=>ny P T n o E2 w λE3 w3=>(dx P l).go P T n K k (done ||| 2 ^ c) en E3 w3)
     (λE2=>(dx P l).go P T n K k (done ||| 2 ^ c) en (E2.put n o.dst .u) w)
   | none=>False)
  (kQ (λc=>!Nat.testBit done c && (dx P l).enabled done c) (dx P l).dY)
def I'{F:Nat->Prop}:∀{r:Α},wX F r->∀c∈r,F c
 | [],_,c,hc=>by cases hc
 | [x],h,c,hc=>by simp at hc;subst hc;exact h
 | x::y::r,h,c,hc=>by
  rcases zzv.1 hc with rfl|hc
  ·exact h.1
  exact I' h.2 c hc
def BR{c:Nat}:c∈(dx P l).dY↔∃o,l[c]?=some o/\fe P o.op=false:=by
 have:=@Aj (λo=>!fe P o.op) l 0 c;simpa [dx] using this
def u_{c:Nat}:c∈(dx P l).nL↔∃o,l[c]?=some o/\fe P o.op=true:=by
 have:=@Aj (λo=>fe P o.op) l 0 c;simpa [dx] using this
def xc{c:Nat}:(dx P l).cm.testBit c=true↔c∈(dx P l).dY:=MB
def rA{done j:Nat}:(dx P l).enabled done j=true↔∀c,Bt l j c->c∈(dx P l).dY->done.testBit c=true:=by
 unfold RS.enabled;rw[Em];constructor
 ·intro h c hb hc;refine h c ?_;show (((dx P l).B.getD j 0) &&& (dx P l).cm).testBit c=true;rw[Nat.testBit_and,zzk];exact⟨hb,xc.2 hc⟩
 intro h c hc;have s_:(((dx P l).B.getD j 0) &&& (dx P l).cm).testBit c=true:=hc;rw[Nat.testBit_and,zzk]at s_
 exact h c s_.1 (xc.1 s_.2)
def WH{done j:Nat}:(dx P l).v_ done j=true↔∃c∈(dx P l).dY,done.testBit c=true/\Bt l c j:=by
 unfold RS.v_;rw[Pz];constructor
 ·rintro ⟨c,h1,h2⟩;split at h2
  ·rename_i hd;exact⟨c,h1,hd,h2⟩
  cases h2
 rintro ⟨c,h1,h2,h3⟩;exact⟨c,h1,by rw[h2];exact h3⟩
structure DI(P:Program)(T:List Bool)(n:Nat)(l:List Oper)(K:Env->Ζ->Prop)(a0:Act)(listed:Array Bool)(a:Act)(w:Ζ)(done:Nat)(E:Env):Prop where
 size:listed.size=l.length
 closed:∀i j,listed.getD i false=true->Bt l i j->listed.getD j false=true
 chain:∀c,c∈(dx P l).dY->(listed.getD c false=true↔done.testBit c=true)
 agree:dd (Xs P l listed) n E a
 bh:fU (mU l) a0 a
 D0:∀j o,l[j]?=some o->fe P o.op=true->listed.getD j false=false->(dx P l).enabled done j=true->∃r v,pd P l n o E w r v
 next:∃k en,(∀j o,l[j]?=some o->fe P o.op=true->(en.testBit j=true↔(dx P l).enabled done j=true))/\Next P T n l K k done en E w
def Ko(hT:Calls.lx P T)(rf:RF P n l){K:Env->Ζ->Prop}{a0:Act}{listed:Array Bool}{a:Act}{w:Ζ}{k done en:Nat}{was:Nat->Prop}{E:Env}(size:listed.size=l.length)
  (closed:∀i j,listed.getD i false=true->Bt l i j->listed.getD j false=true) (chain:∀c,c∈(dx P l).dY->(listed.getD c false=true↔done.testBit c=true))
  (agree:dd (Xs P l listed) n E a) (bh:fU (mU l) a0 a) (sub:∀j,was j->(dx P l).enabled done j=true) (down:∀j k,was j->Bt l j k->was k)
  (jJ:∀j o,l[j]?=some o->fe P o.op=true->(en.testBit j=true↔was j))
  (Uk:∀j o,l[j]?=some o->fe P o.op=true->listed.getD j false=true->was j)
  (XM:∀j o,l[j]?=some o->fe P o.op=true->listed.getD j false=false->was j->∃r v w0,pd P l n o E w0 r v)
  (h:(dx P l).go P T n K k done en E w):∃E',DI P T n l K a0 listed a w done E':=by
 cases k with
 | zero=>exact h.elim
 | succ k=>
  unfold RS.go at h;have hR:(dx P l).ops=l:=rfl;rw[hR]at h
  obtain⟨h1,h2⟩:=y4 _ (λj hj o ho=>by
   rw[rE]at hj
   obtain⟨o',h1,h2⟩:=u_.1 (xxf.1 hj).1;rw[ho]at h1;cases h1;exact h2) h
  have nV:∀j,j∈kQ (λj=>!Nat.testBit en j && (dx P l).enabled done j) (dx P l).nL↔∃o,l[j]?=some o/\fe P o.op=true/\en.testBit j=false/\(dx P l).enabled done j=true:=by
   intro j;rw[rE,xxf,u_];simp only[zzk,Bool.not_eq_true'];constructor
   ·rintro ⟨⟨o,a,b⟩,c,d⟩;exact⟨o,a,b,c,d⟩
   rintro ⟨o,a,b,c,d⟩;exact⟨⟨o,a,b⟩,c,d⟩
  obtain⟨E',k1,k2,k3⟩:=Zt (n:=n) hT _ E (λj hj o ho=>by
   obtain⟨o',q1,q2,_⟩:=(nV j).1 hj;rw[ho]at q1;cases q1
   exact⟨q2,λd hd=>rf.self j o d ho q2 hd⟩) (by
    rw[rE];refine List.Pairwise.imp_of_mem ?_ (List.Pairwise.filter _ (Dn (f:=λo=>fe P o.op) (l:=l) (s:=0)));intro j k hj hk cA oj ok d Ll br hd;have K8:fe P ok.op=true:=by
     have CY:=(xxf.1 hk).1;obtain⟨o',q1,q2⟩:=u_.1 CY;rw[br]at q1;cases q1;exact q2
    refine⟨λjl=>?_,rf.one j k oj ok d Ll br (by omega) hd K8⟩;rcases rf.dep j k oj ok d Ll br (by omega) hd jl with q|⟨q,_⟩
    ·have:=Bt.lt rf j (show Bt l j k from q);omega
    rw[K8]at q;cases q) h1
  have Uu:∀j o,l[j]?=some o->fe P o.op=true->j∈kQ (λj=>!Nat.testBit en j && (dx P l).enabled done j) (dx P l).nL->listed.getD j false=false:=λj o ho hf hj=>by
   obtain⟨o',q1,q2,q3,q4⟩:=(nV j).1 hj;cases hl:listed.getD j false with
   | false=>rfl
   | true=>rw[(jJ j o ho hf).2 (Uk j o ho hf hl)]at q3;cases q3
  refine⟨E',size,closed,chain,agree.same (λt ht=>ht) (λt ht=>k2 t (λj hj o ho hd=>ht ?_)),bh,λj o ho hf hl he=>?_,k,_,?_,k1⟩
  ·obtain⟨o',q1,q2,q3,q4⟩:=(nV j).1 hj;rw[ho]at q1;cases q1
   exact rm.2 ⟨j,o,ho,Uu j o ho q2 hj,q2,hd⟩
  ·
   by_cases hold:was j
   ·obtain⟨r,v,w0,hp⟩:=XM j o ho hf hl hold;have base:∃v,pd P l n o E w r v:=by
     cases r with
     | false=>exact⟨v,hp.wy,hp.val,λh=>(by cases h),hp.skip,λh=>(by cases h)⟩
     | true=>
      by_cases bU:ky P o.op=true
      ·have C8:j∈kQ (λj=>Nat.testBit en j && !(dx P l).v_ done j && (match l[j]? with|some o=>ky P o.op|none=>false)) (dx P l).nL:=by
        rw[rE,xxf];refine⟨u_.2 ⟨o,ho,hf⟩,?_⟩;simp only[zzk,Bool.not_eq_true',ho];refine⟨⟨(jJ j o ho hf).2 hold,?_⟩,bU⟩;cases hn:(dx P l).v_ done j with
        | false=>rfl
        | true=>
         obtain⟨c,c1,c2,c3⟩:=WH.1 hn;rw[closed c j ((chain c c1).2 c2) c3]at hl;cases hl
       obtain⟨d,e,d1,d2,d3⟩:=h2 j C8 o ho hp.wy;obtain⟨u,u1,u2⟩:=Ct o.op hf d3;subst u1;refine⟨e.val,hp.wy,λd' nc _=>?_,hp.all,λh=>(by cases h),λ_ w' vM ρ hF hρ=>?_⟩
       ·rw[d1]at nc;cases nc;simp[valOf,d2]
       exact DR hT hF (λx hx=>hρ x hx (hp.all rfl bU x hx)) (u2 w' vM)
      exact⟨v,hp.mono (λ_ _=>rfl) (λ_ _=>rfl) (λh=>absurd h bU)⟩
    obtain⟨v,hp⟩:=base;have Je:∀k ok,k∈kQ (λj=>!Nat.testBit en j && (dx P l).enabled done j) (dx P l).nL->l[k]?=some ok->k≠j/\∀d,ok.dst=some d->d∉looks l o:=λk ok hk br=>by
     obtain⟨o',q1,q2,q3,q4⟩:=(nV k).1 hk;rw[br]at q1;cases q1
     have CZ:k≠j:=λe=>by subst e;rw[(jJ k o ho hf).2 hold]at q3;cases q3
     refine⟨CZ,λd hd jl=>?_⟩;rcases rf.dep j k o ok d ho br (Ne.symm CZ) hd jl with q|⟨q,_⟩
     ·rw[(jJ k ok br q2).2 (down j k hold q)]at q3;cases q3
     rw[q2]at q;cases q
    refine⟨r,v,hp.mono (λt ht=>k2 t (λk hk ok br hd=>?_)) (λd hd=>k2 d (λk hk ok br nc=>?_)) (λ_=>rfl)⟩
    ·exact (Je k ok hk br).2 t hd ht
    obtain⟨o',q1,q2,_⟩:=(nV k).1 hk;rw[br]at q1;cases q1
    exact rf.one j k o ok d ho br (Ne.symm (Je k ok hk br).1) nc q2 hd
   exact k3 j ((nV j).2 ⟨o,ho,hf,by
    cases hb:en.testBit j with
    | false=>rfl
    | true=>exact absurd ((jJ j o ho hf).1 hb) hold,he⟩) o ho
  intro j o ho hf;rw[Nat.testBit_or,Bool.or_eq_true,MB,rE,xxf,u_];constructor
  ·rintro (q|⟨_,q⟩)
   ·exact sub j ((jJ j o ho hf).1 q)
   exact q
  intro q;exact .inr ⟨⟨o,ho,hf⟩,q⟩
end
open Go.RowKit
section
variable {P:Program} {T:List Bool} {n:Nat} {ops:Array Oper}
def left(listed:Array Bool)(m:Nat):Nat:=((List.range m).filter λj=>!listed.getD j false).length
def VF{listed:Array Bool}{i:Nat}(hu:listed.getD i false=false)(hs:i<listed.size):∀m,left listed m=left (listed.setIfInBounds i true) m+(if i<m then 1 else 0):=by
 intro m;induction m with
 | zero=>simp[left]
 | succ m ih=>
  unfold left at ih ⊢;rw[List.range_succ,xxp,xxp,zza,zza,ih];by_cases tj:m=i
  ·subst tj;have e1:(listed.setIfInBounds m true).getD m false=true:=by simp[hs]
   rw[List.filter_cons,List.filter_cons,hu,e1];simp
  rw[List.filter_cons,List.filter_cons,getD_set_ne false (λe=>tj e.symm),List.filter_nil,List.filter_nil];by_cases l7:i<m
  ·have h2:i<m+1:=by omega
   simp only[l7,h2,vvj];omega
  have h2:¬i<m+1:=by omega
  simp only[l7,h2,wwq];omega
def VG{listed:Array Bool}{m:Nat}(h:left listed m=0){j:Nat}(hj:j<m):listed.getD j false=true:=by
 have h0:=zzm h;cases hb:listed.getD j false with
 | true=>rfl
 | false=>
  have:j∈(List.range m).filter λi=>!listed.getD i false:=xxf.2 ⟨List.mem_range.2 hj,by rw[hb];rfl⟩;rw[h0]at this;cases this
def VE{listed:Array Bool}{m k:Nat}(h:left listed m=k+1):∃j,j<m/\listed.getD j false=false:=by
 unfold left at h;cases hl:(List.range m).filter λj=>!listed.getD j false with
 | nil=>rw[hl]at h;simp at h
 | cons j r=>
  have:j∈(List.range m).filter λj=>!listed.getD j false:=by rw[hl];simp
  obtain⟨h1,h2⟩:=xxf.1 this;exact⟨j,List.mem_range.1 h1,by simpa using h2⟩
def PA(hT:Calls.lx P T)(rf:RF P n ops.toList){K:Env->Ζ->Prop}{Q:Exit->Act->Ζ->Prop}{a0:Act}(hn:∀E' a' w',dd [] n E' a'->fU (mU ops.toList) a0 a'->K E' w'->Q .normal a' w'):
  ∀(f:Nat) (listed:Array Bool) (a:Act) (w:Ζ) (done:Nat) (E:Env),DI P T n ops.toList K a0 listed a w done E->left listed ops.size=f->wpAny P .any ops Q f listed a w:=by
 have KZ:∀(i:Nat) (o:Oper),ops.toList[i]?=some o↔ops[i]?=some o:=λi o=>by simp
 intro f;induction f with
 | zero=>
  intro listed a w done E di hf;have gK:listed.size=ops.size:=by simpa using di.size
  have b5:∀j,j<ops.size->listed.getD j false=true:=λj hj=>VG hf hj;refine⟨?_,?_⟩
  ·cases hr:Region.ready .any ops listed with
   | nil=>rfl
   | cons i r=>
    have hi:i∈Region.ready .any ops listed:=by rw[hr];simp
    obtain⟨rY,oi,rU,_⟩:=mem_ready.1 hi;have cA:i<ops.size:=(yyu.1 rU).1;have:=b5 i cA;rw[getD_both rY]at this;cases this
  obtain⟨k,en,_,hx⟩:=di.next;unfold Next at hx;have tw:p' (dx P ops.toList).cm done=true:=Em.2 λc hc=>by
   have s_:=xc.1 hc;obtain⟨o,ho,_⟩:=BR.1 s_;have cA:c<ops.size:=by have:=(zzf.1 ho).1;simpa using this
   exact (di.chain c s_).1 (b5 c cA)
  rw[tw]at hx
  refine hn E a w (di.agree.same (λt _ ht=>?_) (λ_ _=>rfl)) di.bh hx;obtain⟨j,o,ho,hl,_⟩:=rm.1 ht;have cA:j<ops.size:=by have:=(zzf.1 ho).1;simpa using this
  rw[b5 j cA]at hl;cases hl
 | succ f ih=>
  intro listed a w done E di hf;have gK:listed.size=ops.size:=by simpa using di.size
  refine⟨λh0=>?_,λi hi=>?_⟩
  ·
   exfalso;obtain⟨j0,pE,Di⟩:=VE hf;have C9:∀(m:Nat),m<ops.size->listed.getD m false=false->False:=by
    intro m;induction m using Nat.strongRecOn with
    | _ m Va=>
     intro hm hu;have Lm:ops[m]?=some ops[m]:=xx5 hm;have:m∈Region.ready .any ops listed:=mem_ready.2 ⟨getD_in (by omega) hu,_,Lm,λe he hb=>by
      have cA:=rf.back m _ e ((KZ m _).2 Lm) (by simpa using he) hb;cases hx:listed.getD e.on false with
      | true=>rfl
      | false=>exact (Va e.on cA (by omega) hx).elim⟩
     rw[h0]at this;cases this
   exact C9 j0 pE Di
  obtain⟨rY,o,rU,TU⟩:=mem_ready.1 hi;have hu:listed.getD i false=false:=getD_both rY;have cA:i<ops.size:=(yyu.1 rU).1;have ho:ops.toList[i]?=some o:=(KZ i o).2 rU;have hB:∀j,Bt ops.toList i j->listed.getD j false=true:=λj hj=>by
   obtain⟨e,h1,h2,h3⟩:=(Bt.iff rf ho).1 hj;have:=TU e (by simpa using h1) h2;rcases h3 with rfl|h3
   ·exact this
   exact di.closed e.on j this h3
  have jJ:(dx P ops.toList).enabled done i=true:=rA.2 λc hb hc=>(di.chain c hc).1 (hB c hb);have Lb:left (listed.setIfInBounds i true) ops.size=f:=by
   have:=VF hu (by omega) ops.size;rw[zzd cA]at this;omega
  have CS:(listed.setIfInBounds i true).getD i false=true:=by
   have:i<listed.size:=by omega
   simp[this]
  have Li:∀j,listed.getD j false=true->(listed.setIfInBounds i true).getD j false=true:=λj hj=>by
   by_cases e:i=j
   ·subst e;exact CS
   rw[getD_set_ne false e];exact hj
  have kV:∀j,(listed.setIfInBounds i true).getD j false=false->listed.getD j false=false/\j≠i:=λj hj=>by
   by_cases e:i=j
   ·subst e;rw[CS]at hj;cases hj
   rw[getD_set_ne false e]at hj;exact⟨hj,Ne.symm e⟩
  have KQ:∀x y,(listed.setIfInBounds i true).getD x false=true->Bt ops.toList x y->(listed.setIfInBounds i true).getD y false=true:=λx y hx hb=>by
   by_cases e:i=x
   ·subst e;exact Li y (hB y hb)
   rw[getD_set_ne false e]at hx;exact Li y (di.closed x y hx hb)
  have tg:∀t∈looks ops.toList o,t∉Xs P ops.toList listed:=λt ht hx=>by
   obtain⟨j,oj,hj,hl,kX,hd⟩:=rm.1 hx;by_cases e:i=j
   ·subst e;rw[ho]at hj;cases hj;exact rf.self i o t ho kX hd ht
   rcases rf.dep i j o oj t ho hj e hd ht with q|⟨q,_⟩
   ·rw[hB j q]at hl;cases hl
   rw[kX]at q;cases q
  have z':∀x∈ca o.op,ri (Xs P ops.toList listed) x:=λx hx t ht=>tg t (Ar hx ht);have KS:∀t,o.dst=some t->t∈mU ops.toList:=λt ht=>List.mem_filterMap.2 ⟨o,xxz ho,ht⟩;have TC:∀t,t∉Xs P ops.toList (listed.setIfInBounds i true)->o.dst≠some t->t∉Xs P ops.toList listed:=λt h1 h2 h3=>by
   obtain⟨j,oj,hj,hl,kX,hd⟩:=rm.1 h3;by_cases e:i=j
   ·subst e;rw[ho]at hj;cases hj;exact h2 hd
   exact h1 (rm.2 ⟨j,oj,hj,by rw[getD_set_ne false e];exact hl,kX,hd⟩)
  by_cases j3:fe P o.op=true
  ·
   obtain⟨r,v,hp⟩:=di.D0 i o ho j3 hu jJ;have hw:=EB hp.wy di.agree tg;have vz:wpAny P .any ops Q f (listed.setIfInBounds i true) (a.put o.dst v) w:=by
    refine ih _ _ w done E ⟨by simpa using di.size,KQ,λc hc=>?_,?_,di.bh.trans (fU.put a o.dst v _ KS),λj oj hj kX hl he=>?_,di.next⟩ Lb
    ·have TM:c≠i:=λe=>by
      obtain⟨oc,h1,h2⟩:=BR.1 hc;subst e;rw[ho]at h1;cases h1;rw[j3]at h2;cases h2
     rw[getD_set_ne false (Ne.symm TM)];exact di.chain c hc
    ·refine⟨by cases o.dst<;>simp[Act.put,di.agree.size],by cases o.dst<;>exact di.agree.defers,λt e ht he=>?_⟩;by_cases hd:o.dst=some t
     ·have Lf:=rf.low i o t ho hd;have:=hp.val t hd Lf;unfold valOf at this;rw[he]at this
      simp at this;rw[this,hd];simp[Act.put,di.agree.size,Lf]
     have:=di.agree.get t e (TC t ht hd) he;cases TT:o.dst with
     | none=>exact this
     | some d=>
      have d_:d≠t:=λe=>hd (by rw[TT,e]);simp[Act.put,Array.getElem?_setIfInBounds_ne d_,this]
    exact di.D0 j oj hj kX (kV j hl).1 he
   unfold wpOp;rw[rU];show if Region.wanted o (yielded ops a.tmps)=true then _ else _
   rw[hw];cases r with
   | true=>
    rw[zzd rfl];refine .inl (dt.upon (hp.run rfl w (λ_=>rfl) a.eval (λ_=>rfl) (λx hx hh=>di.agree.ev (z' x hx) hh)) ?_);rintro u w' ⟨rfl,rfl⟩;exact vz
   | false=>
    rw[zzb Bool.false_ne_true];rw[<- hp.skip rfl];exact vz
  
  have T3:fe P o.op=false:=by simpa using j3
  have xX:i∈(dx P ops.toList).dY:=BR.2 ⟨o,ho,T3⟩;have vo:done.testBit i=false:=by
   cases hb:done.testBit i with
   | false=>rfl
   | true=>rw[(di.chain i xX).2 hb]at hu;cases hu
  obtain⟨k,en,TZ,hx⟩:=di.next;unfold Next at hx;have tw:p' (dx P ops.toList).cm done=false:=by
   cases hb:p' (dx P ops.toList).cm done with
   | false=>rfl
   | true=>rw[Em.1 hb i (xc.2 xX)]at vo;cases vo
  rw[tw]at hx
  have hx:=I' hx i (by
   rw[rE,xxf];exact⟨xX,by rw[vo,jJ];rfl⟩)
  rw[ho]at hx
  have enter:∀(E3:Env) (v:Ε) (w3:Ζ),dN o.dst E E3->dd (Xs P ops.toList listed) n E3 (a.put o.dst v)->(dx P ops.toList).go P T n K k (done ||| 2 ^ i) en E3 w3 ->
    wpAny P .any ops Q f (listed.setIfInBounds i true) (a.put o.dst v) w3:=by
   intro E3 v w3 hs hA hg;have TB:∀t,t∉Xs P ops.toList (listed.setIfInBounds i true)->t∉Xs P ops.toList listed:=λt h1 h3=>by
    obtain⟨j,oj,hj,hl,kX,hd⟩:=rm.1 h3;have gJ:i≠j:=λe=>by subst e;rw[ho]at hj;cases hj;exact j3 kX
    exact h1 (rm.2 ⟨j,oj,hj,by rw[getD_set_ne false gJ];exact hl,kX,hd⟩)
   have TL:∀c,c∈(dx P ops.toList).dY->((listed.setIfInBounds i true).getD c false=true↔(done ||| 2 ^ i).testBit c=true):=λc hc=>by
    rw[Nat.testBit_or,Bool.or_eq_true,Nat.testBit_two_pow,zzo];by_cases e:i=c
    ·subst e;exact⟨λ_=>.inr rfl,λ_=>CS⟩
    rw[getD_set_ne false e,di.chain c hc];exact⟨.inl,λh=>h.elim id (λh=>absurd h e)⟩
   obtain⟨E',R6⟩:=Ko (n:=n) hT rf (K:=K) (a0:=a0) (was:=λj=>(dx P ops.toList).enabled done j=true) (by simpa using di.size) KQ TL (hA.same TB (λ_ _=>rfl)) (di.bh.trans (fU.put a o.dst v _ KS))
    (λj hj=>rA.2 λc hb hc=>by rw[Nat.testBit_or,rA.1 hj c hb hc];rfl)
    (λj k hj hb=>rA.2 λc hc hm=>rA.1 hj c (Bt.trans rf j hb hc) hm) TZ
    (λj oj hj kX hl=>rA.2 λc hb hc=>by
     have gJ:i≠j:=λe=>by subst e;rw[ho]at hj;cases hj;exact j3 kX
     rw[getD_set_ne false gJ]at hl
     exact (di.chain c hc).1 (di.closed j c hl hb))
    (λj oj hj kX hl he=>by
     obtain⟨hl,gJ⟩:=kV j hl;obtain⟨r,v,hp⟩:=di.D0 j oj hj kX hl he;have K5:j≠i:=gJ;refine⟨r,v,w,hp.mono (λt ht=>hs t (λhd=>?_)) (λd hd=>hs d (λnc=>?_)) (λ_=>rfl)⟩
     ·rcases rf.dep j i oj o t hj ho K5 hd ht with q|⟨_,q⟩
      ·rw[rA.1 he i q xX]at vo;cases vo
      rw[hB j q]at hl;cases hl
     exact rf.one i j o oj d ho hj (Ne.symm K5) hd kX nc)
    hg
   exact ih _ _ w3 _ E' R6 Lb
  obtain⟨E2,h0,⟨Dk,h⟩|⟨Dk,h⟩⟩:=Cv hx
  ·have hw:=EB Dk di.agree tg;unfold wpOp;rw[rU];show if Region.wanted o (yielded ops a.tmps)=true then _ else _
   rw[hw,zzd rfl];refine .inl (Oy hT (aFm h) (di.agree.same (λt ht=>ht) (λt _=>h0 t (by simp))) z' ?_);rintro E3 v w3 hA ⟨hs,hg⟩;exact enter E3 v w3 (h0.ud.trans hs) hA hg
  have hw:=EB Dk di.agree tg;unfold wpOp;rw[rU];show if Region.wanted o (yielded ops a.tmps)=true then _ else _
  rw[hw,zzb Bool.false_ne_true];exact enter _ undef w (h0.ud.trans (dN.put n E2 o.dst _)) ((di.agree.same (λt ht=>ht) (λt _=>h0 t (by simp))).put o.dst .u) h
def Sb(hT:Calls.lx P T)(hm:P.follows .mixedOrders=true){id:Nat}{K:Env->Ζ->Prop}{Q:Exit->Act->Ζ->Prop}{a:Act}{E:Env}{w:Ζ}
  (br:AQ P n ops.toList true=true) (hA:dd [] n E a) (h:B4 P T n ops.toList K E w.drew) (hn:∀E' a' w',dd [] n E' a'->fU (mU ops.toList) a a'->K E' w'->Q .normal a' w') :
  (Code.region id ops true).wp P Q a w:=by
 have rf:=X9 br;refine wp_region_any hm ?_;have hr:∀j,(Array.replicate ops.size false).getD j false=false:=λj=>getD_replicate_false _ _;unfold B4 at h;obtain⟨E',di⟩:=Ko (n:=n) hT rf (K:=K) (a0:=a) (listed:=Array.replicate ops.size false) (a:=a) (was:=λ_=>False) (by simp) (λi j hi=>by rw[hr]at hi;cases hi) (λc _=>by rw[hr];simp)
  (hA.same (λt _=>by simp) (λ_ _=>rfl)) (.refl _ a) (λ_ h=>h.elim) (λ_ _ h=>h.elim) (λj o ho hf=>by simp) (λj o ho hf hl=>by rw[hr]at hl;cases hl) (λj o ho hf hl he=>he.elim) h
 refine PA hT rf hn ops.size _ a w.drew 0 E' di ?_;unfold left;rw[xxn.2 (λi _=>by rw[hr];rfl)];simp
end
