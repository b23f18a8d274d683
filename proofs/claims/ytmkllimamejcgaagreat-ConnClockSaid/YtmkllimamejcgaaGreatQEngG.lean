/- Part of the proof. -/
import Derived.Test.YtmkllimamejcgaaGreatQEngD
import Derived.StillTail
namespace Go.Proofs.YtmkllimamejcgaaGreat
set_option linter.all false
open Go.RowKit
theorem Kt{a b:Nat}:vR a b=true↔∀k,a.testBit k=true->b.testBit k=true:=by
 unfold vR
 rw[beq_iff]
 constructor
 ·intro h k hk
  have:(Nat.land a b).testBit k=true:=by rw[h];exact hk
  have e:(a &&& b).testBit k=true:=this
  rw[Nat.testBit_and]at e
  simp only[Bool.and_eq_true]at e
  exact e.2
 ·intro h
  show a &&& b=a
  apply Nat.eq_of_testBit_eq
  intro k
  rw[Nat.testBit_and]
  cases hk:a.testBit k with
  | true=>simp[h k hk]
  | false=>rfl
theorem Vh{l:List Nat}{k:Nat}:(xL l).testBit k=true↔k∈l:=by
 induction l with
 | nil=>simp[xL]
 | cons j r ih=>
  simp only[xL,Nat.testBit_or,Bool.or_eq_true,ih,List.mem_cons,Nat.testBit_two_pow,decide_eq_true_eq]
  constructor
  ·rintro (h|h)
   ·exact .inl h.symm
   ·exact .inr h
  ·rintro (h|h)
   ·exact .inl h.symm
   ·exact .inr h
theorem wO(f:Nat->Bool):∀l:List Nat,oQ f l=l.filter f
 | []=>rfl
 | j::r=>by
  simp only[oQ,wO f r,List.filter_cons]
  cases f j<;>simp
theorem awn{f:Nat->Bool}{l:List Nat}:B3 f l=true↔∃c∈l,f c=true:=by
 induction l with
 | nil=>simp[B3]
 | cons j r ih=>
  simp only[B3]
  cases h:f j<;>simp[h,ih]
theorem FC{f:Oper->Bool}:∀{l:List Oper} {s k:Nat},k∈idxs f l s↔∃o,s<=k/\l[k-s]?=some o/\f o=true
 | [],s,k=>by simp[idxs]
 | o::r,s,k=>by
  have ih:=@FC f r (s+1) k
  have step:(∃o',s<=k/\(o::r)[k-s]?=some o'/\f o'=true)↔(k=s/\f o=true)\/∃o',s+1<=k/\r[k-(s+1)]?=some o'/\f o'=true:=by
   constructor
   ·rintro ⟨o',h1,h2,h3⟩
    by_cases hk:k=s
    ·subst hk;simp at h2;subst h2;exact .inl ⟨rfl,h3⟩
    ·refine .inr ⟨o',by omega,?_,h3⟩
     rw[show k-s=(k-(s+1))+1 by omega]at h2
     simpa using h2
   ·rintro (⟨rfl,h⟩|⟨o',h1,h2,h3⟩)
    ·exact⟨o,Nat.le_refl _,by simp,h⟩
    ·refine⟨o',by omega,?_,h3⟩
     rw[show k-s=(k-(s+1))+1 by omega]
     simpa using h2
  rw[step]
  simp only[idxs]
  cases h:f o with
  | true=>simp[ih]
  | false=>simp[ih]
theorem Jk{f:Oper->Bool}:∀{l:List Oper} {s:Nat},(idxs f l s).Pairwise (· < ·)
 | [],s=>by simp[idxs]
 | o::r,s=>by
  simp only[idxs]
  split
  ·refine List.pairwise_cons.2 ⟨λk hk=>?_,Jk⟩
   obtain⟨_,h,_⟩:=FC.1 hk
   omega
  ·exact Jk
theorem Hj{acc:List Nat}{j:Nat}:∀{es:List Edge},(rT acc es).testBit j=true↔∃e∈es,Region.binds .any e=true/\(j=e.on\/(acc.getD e.on 0).testBit j=true)
 | []=>by simp[rT]
 | e::r=>by
  simp only[rT]
  cases h:Region.binds .any e with
  | true=>
   simp only[Nat.testBit_or,Bool.or_eq_true,Hj (es:=r),Nat.testBit_two_pow,decide_eq_true_eq,List.mem_cons]
   constructor
   ·rintro ((⟨e',h1,h2⟩|h1)|h1)
    ·exact⟨e',.inr h1,h2⟩
    ·exact⟨e,.inl rfl,h,.inl h1.symm⟩
    ·exact⟨e,.inl rfl,h,.inr h1⟩
   ·rintro ⟨e',rfl|h1,h2,h3⟩
    ·rcases h3 with h3|h3
     ·exact .inl (.inr h3.symm)
     ·exact .inr h3
    ·exact .inl (.inl ⟨e',h1,h2,h3⟩)
  | false=>
   simp only[Hj (es:=r),List.mem_cons]
   constructor
   ·rintro ⟨e',h1,h2⟩;exact⟨e',.inr h1,h2⟩
   ·rintro ⟨e',rfl|h1,h2,h3⟩
    ·rw[h]at h2;cases h2
    ·exact⟨e',h1,h2,h3⟩
theorem Hk:∀(l:List Oper) (acc:List Nat),∃x,nW l acc=acc++x/\x.length=l.length
 | [],acc=>⟨[],by simp[nW],rfl⟩
 | o::r,acc=>by
  obtain⟨x,h1,h2⟩:=Hk r (acc++[rT acc o.after.toList])
  exact⟨rT acc o.after.toList::x,by rw[nW,h1];simp,by simp[h2]⟩
theorem P7:∀(l:List Oper) (acc:List Nat) (i:Nat) (o:Oper),l[i]?=some o->(nW l acc).getD (acc.length+i) 0=rT ((nW l acc).take (acc.length+i)) o.after.toList
 | [],acc,i,o,h=>by simp at h
 | o'::r,acc,i,o,h=>by
  cases i with
  | zero=>
   simp at h;subst h
   obtain⟨x,h1,h2⟩:=Hk r (acc++[rT acc o'.after.toList])
   rw[nW,h1]
   simp
  | succ i=>
   have:=P7 r (acc++[rT acc o'.after.toList]) i o (by simpa using h)
   simp only[List.length_append,List.length_cons,List.length_nil]at this
   rw[show acc.length+(0+1)+i=acc.length+(i+1) by omega]at this
   rw[nW];exact this
section
variable {P:Program} {T:List Bool} {n:Nat} {ops:Array Oper}
structure RF(P:Program)(n:Nat)(l:List Oper):Prop where
 low:∀(i:Nat) (o:Oper) (d:Nat),l[i]?=some o->o.dst=some d->d<n
 back:∀(i:Nat) (o:Oper) (e:Edge),l[i]?=some o->e∈o.after.toList->Region.binds .any e=true->e.on<i
 self:∀(i:Nat) (o:Oper) (d:Nat),l[i]?=some o->ic P o.op=true->o.dst=some d->d∉looks l o
 one:∀(i j:Nat) (oi oj:Oper) (d:Nat),l[i]?=some oi->l[j]?=some oj->i≠j->oj.dst=some d->ic P oj.op=true->oi.dst≠some d
 dep:∀(i j:Nat) (oi oj:Oper) (d:Nat),l[i]?=some oi->l[j]?=some oj->i≠j->oj.dst=some d->d∈looks l oi->((nW l []).getD i 0).testBit j=true\/(ic P oj.op=false/\((nW l []).getD j 0).testBit i=true)
theorem cw3{l:List Oper}(h:F7 P n l true=true):RF P n l:=by
 simp only[F7,fL,List.all_eq_true,List.mem_range]at h
 have key:∀i oi,l[i]?=some oi->_:=λi oi hi=>by
  have:=h i (List.getElem?_eq_some_iff.1 hi).1
  rw[hi]at this
  exact this
 refine⟨λi o d hi hd=>?_,λi o e hi he hb=>?_,λi o d hi hf hd=>?_,λi j oi oj d hi hj dO hd hf=>?_,λi j oi oj d hi hj dO hd hl=>?_⟩
 ·have:=key i o hi
  simp only[Bool.and_eq_true,List.all_eq_true]at this
  have:=this.1.1.1 d (by simp[hd])
  simpa using this
 ·have:=key i o hi
  simp only[Bool.and_eq_true,List.all_eq_true]at this
  have:=this.1.1.2 e he
  simpa [hb] using this
 ·have:=key i o hi
  simp only[Bool.and_eq_true]at this
  have:=this.1.2
  simp[hf,hd]at this
  exact this
 ·have:=key i oi hi
  simp only[Bool.and_eq_true,List.all_eq_true,List.mem_range]at this
  have:=this.2 j (List.getElem?_eq_some_iff.1 hj).1
  rw[hj]at this
  simp only[hd]at this
  simp only[Bool.or_eq_true,beq_iff_eq,dO,false_or,Bool.and_eq_true,hf,Bool.not_true,Bool.false_eq_true,bne_iff_ne,ne_eq]at this
  exact this.1
 ·have:=key i oi hi
  simp only[Bool.and_eq_true,List.all_eq_true,List.mem_range]at this
  have:=this.2 j (List.getElem?_eq_some_iff.1 hj).1
  rw[hj]at this
  simp only[hd]at this
  have hc:(looks l oi).contains d=true:=by simpa using hl
  simp only[Bool.or_eq_true,beq_iff_eq,dO,false_or,Bool.and_eq_true,hc,Bool.not_true,Bool.false_eq_true,Bool.not_eq_true']at this
  exact this.2
def Bt(l:List Oper)(i j:Nat):Prop:=((nW l []).getD i 0).testBit j=true
theorem Bt.iff{l:List Oper}(rf:RF P n l){i j:Nat}{o:Oper}(hi:l[i]?=some o):Bt l i j↔∃e∈o.after.toList,Region.binds .any e=true/\(j=e.on\/Bt l e.on j):=by
 unfold Bt
 have h1:=P7 l [] i o hi
 simp only[List.length_nil,Nat.zero_add]at h1
 rw[h1,Hj]
 have hg:∀e∈o.after.toList,Region.binds .any e=true->((nW l []).take i).getD e.on 0=(nW l []).getD e.on 0:=λe he hb=>by
  have:=rf.back i o e hi he hb
  simp[this]
 constructor
 ·rintro ⟨e,h1,h2,h3⟩;exact⟨e,h1,h2,h3.imp id (λh=>by rw[<- hg e h1 h2];exact h)⟩
 ·rintro ⟨e,h1,h2,h3⟩;exact⟨e,h1,h2,h3.imp id (λh=>by rw[hg e h1 h2];exact h)⟩
theorem Bt.op{l:List Oper}{i j:Nat}(h:Bt l i j):∃o,l[i]?=some o:=by
 unfold Bt at h
 obtain⟨x,h1,h2⟩:=Hk l []
 by_cases hi:i<l.length
 ·exact⟨l[i],List.getElem?_eq_getElem hi⟩
 ·have:(nW l []).getD i 0=0:=by
   rw[List.getD_eq_getElem?_getD,List.getElem?_eq_none (by rw[h1];simp;omega)];rfl
  rw[this]at h;simp at h
theorem Bt.lt{l:List Oper}(rf:RF P n l):∀(i:Nat) {j:Nat},Bt l i j->j<i:=by
 intro i
 induction i using Nat.strongRecOn with
 | _ i ih=>
  intro j h
  obtain⟨o,ho⟩:=h.op
  obtain⟨e,h1,h2,h3⟩:=(Bt.iff rf ho).1 h
  have hb:=rf.back i o e ho h1 h2
  rcases h3 with rfl|h3
  ·exact hb
  ·have:=ih e.on hb h3;omega
theorem Bt.trans{l:List Oper}(rf:RF P n l):∀(i:Nat) {j k:Nat},Bt l i j->Bt l j k->Bt l i k:=by
 intro i
 induction i using Nat.strongRecOn with
 | _ i ih=>
  intro j k h hk
  obtain⟨o,ho⟩:=h.op
  obtain⟨e,h1,h2,h3⟩:=(Bt.iff rf ho).1 h
  have hb:=rf.back i o e ho h1 h2
  refine (Bt.iff rf ho).2 ⟨e,h1,h2,.inr ?_⟩
  rcases h3 with rfl|h3
  ·exact hk
  ·exact ih e.on hb h3 hk
end
open Go.RowKit
section
variable {P:Program} {T:List Bool} {n:Nat} {l:List Oper}
def Xs(P:Program)(l:List Oper)(listed:Array Bool):List Nat:=
 ((List.range l.length).filter λj=>!listed.getD j false && (match l[j]? with|some o=>ic P o.op|none=>false)).filterMap λj=>(l[j]?).bind (·.dst)
theorem we{listed:Array Bool}{t:Nat}:t∈Xs P l listed↔∃j o,l[j]?=some o/\listed.getD j false=false/\ic P o.op=true/\o.dst=some t:=by
 unfold Xs
 simp only[List.mem_filterMap,List.mem_filter,List.mem_range,Bool.and_eq_true,Bool.not_eq_true']
 constructor
 ·rintro ⟨j,⟨h1,h2,h3⟩,h4⟩
  have hj:l[j]?=some l[j]:=List.getElem?_eq_getElem h1
  rw[hj]at h3 h4
  exact⟨j,_,hj,h2,h3,h4⟩
 ·rintro ⟨j,o,h1,h2,h3,h4⟩
  exact⟨j,⟨(List.getElem?_eq_some_iff.1 h1).1,h2,by rw[h1];exact h3⟩,by rw[h1];exact h4⟩
theorem fy.same{X X':List Nat}{E E':Env}{a:Act}(h:fy X n E a)(hX:∀t,t∉X'->t∉X)(hs:∀t,t∉X'->valOf E' t=valOf E t):fy X' n E' a:=by
 refine⟨h.size,h.defers,λt e ht he=>?_⟩
 have h1:=hs t ht
 unfold valOf at h1
 rw[he]at h1
 cases h2:E.get t with
 | none=>rw[h2]at h1;cases h1
 | some e'=>
  rw[h2]at h1
  simp at h1
  rw[h.get t e' (hX t ht) h2,h1]
theorem KM{ops:Array Oper}{o:Oper}{X:List Nat}{E:Env}{a:Act}{r:Bool}(h:ny ops.toList o E r)(hA:fy X n E a)(hX:∀t∈looks ops.toList o,t∉X):Region.wanted o (yielded ops a.tmps)=r:=by
 unfold ny at h
 cases hg:o.guard with
 | none=>simp only[hg]at h;simp[Region.wanted,hg,h]
 | some p=>
  obtain⟨j,want⟩:=p
  simp only[hg]at h
  obtain⟨s,b,h1,h2,h3⟩:=h
  have hs:=hX s (Vc hg h1)
  unfold valOf at h2
  cases he:E.get s with
  | none=>rw[he]at h2;cases h2
  | some e=>
   rw[he]at h2
   simp at h2
   have:=hA.get s e hs he
   rw[h2]at this
   simp only[Region.wanted,hg,yielded]
   rw[show ((ops[j]?).bind (·.dst))=some s by simpa using h1]
   simp only[Option.bind_some,this]
   rw[h3]
   cases b<;>cases want<;>first|rfl|(rename_i b;cases b<;>rfl)
def Next(P:Program)(T:List Bool)(n:Nat)(l:List Oper)(K:Env->World->Prop)(k done en:Nat)(E:Env)(w:World):Prop:=
 match vR (fL P l).cm done with
 | true=>K E w
 | false=>Ec (λc=>match l[c]? with
   | some o=>ui l o.guard E (λE2=>sI P T n o E2 w λE3 w3=>(fL P l).go P T n K k (done ||| 2 ^ c) en E3 w3)
     (λE2=>(fL P l).go P T n K k (done ||| 2 ^ c) en (E2.put n o.dst .u) w)
   | none=>False)
  (oQ (λc=>!Nat.testBit done c && (fL P l).enabled done c) (fL P l).jy)
theorem PX{F:Nat->Prop}:∀{r:List Nat},Ec F r->∀c∈r,F c
 | [],_,c,hc=>by cases hc
 | [x],h,c,hc=>by simp at hc;subst hc;exact h
 | x::y::r,h,c,hc=>by
  rcases List.mem_cons.1 hc with rfl|hc
  ·exact h.1
  ·exact PX h.2 c hc
theorem Hq{c:Nat}:c∈(fL P l).jy↔∃o,l[c]?=some o/\ic P o.op=false:=by
 have:=@FC (λo=>!ic P o.op) l 0 c
 simpa [fL] using this
theorem Co{c:Nat}:c∈(fL P l).s7↔∃o,l[c]?=some o/\ic P o.op=true:=by
 have:=@FC (λo=>ic P o.op) l 0 c
 simpa [fL] using this
theorem Em{c:Nat}:(fL P l).cm.testBit c=true↔c∈(fL P l).jy:=Vh
theorem wG{done j:Nat}:(fL P l).enabled done j=true↔∀c,Bt l j c->c∈(fL P l).jy->done.testBit c=true:=by
 unfold RS.enabled
 rw[Kt]
 constructor
 ·intro h c hb hc
  refine h c ?_
  show (((fL P l).B.getD j 0) &&& (fL P l).cm).testBit c=true
  rw[Nat.testBit_and,Bool.and_eq_true]
  exact⟨hb,Em.2 hc⟩
 ·intro h c hc
  have AH:(((fL P l).B.getD j 0) &&& (fL P l).cm).testBit c=true:=hc
  rw[Nat.testBit_and,Bool.and_eq_true]at AH
  exact h c AH.1 (Em.1 AH.2)
theorem bY1{done j:Nat}:(fL P l).Dr done j=true↔∃c∈(fL P l).jy,done.testBit c=true/\Bt l c j:=by
 unfold RS.Dr
 rw[awn]
 constructor
 ·rintro ⟨c,h1,h2⟩
  split at h2
  ·rename_i hd;exact⟨c,h1,hd,h2⟩
  ·cases h2
 ·rintro ⟨c,h1,h2,h3⟩
  exact⟨c,h1,by rw[h2];exact h3⟩
structure DI(P:Program)(T:List Bool)(n:Nat)(l:List Oper)(K:Env->World->Prop)(a0:Act)(listed:Array Bool)(a:Act)(w:World)(done:Nat)(E:Env):Prop where
 size:listed.size=l.length
 closed:∀i j,listed.getD i false=true->Bt l i j->listed.getD j false=true
 chain:∀c,c∈(fL P l).jy->(listed.getD c false=true↔done.testBit c=true)
 agree:fy (Xs P l listed) n E a
 keep:jk (rY l) a0 a
 J3:∀j o,l[j]?=some o->ic P o.op=true->listed.getD j false=false->(fL P l).enabled done j=true->∃r v,uT P l n o E w r v
 next:∃k en,(∀j o,l[j]?=some o->ic P o.op=true->(en.testBit j=true↔(fL P l).enabled done j=true))/\Next P T n l K k done en E w
theorem SK(hT:Calls.pk P T)(rf:RF P n l){K:Env->World->Prop}{a0:Act}{listed:Array Bool}{a:Act}{w:World}{k done en:Nat}{was:Nat->Prop}{E:Env}(size:listed.size=l.length)
  (closed:∀i j,listed.getD i false=true->Bt l i j->listed.getD j false=true) (chain:∀c,c∈(fL P l).jy->(listed.getD c false=true↔done.testBit c=true))
  (agree:fy (Xs P l listed) n E a) (keep:jk (rY l) a0 a) (sub:∀j,was j->(fL P l).enabled done j=true) (down:∀j k,was j->Bt l j k->was k)
  (kX:∀j o,l[j]?=some o->ic P o.op=true->(en.testBit j=true↔was j))
  (bUh:∀j o,l[j]?=some o->ic P o.op=true->listed.getD j false=true->was j)
  (b_8:∀j o,l[j]?=some o->ic P o.op=true->listed.getD j false=false->was j->∃r v w0,uT P l n o E w0 r v)
  (h:(fL P l).go P T n K k done en E w):∃E',DI P T n l K a0 listed a w done E':=by
 cases k with
 | zero=>exact h.elim
 | succ k=>
  unfold RS.go at h
  have hR:(fL P l).ops=l:=rfl
  rw[hR]at h
  obtain⟨h1,h2⟩:=Zc _ (λj hj o ho=>by
   rw[wO]at hj
   obtain⟨o',h1,h2⟩:=Co.1 (List.mem_filter.1 hj).1
   rw[ho]at h1;cases h1;exact h2) h
  have tu:∀j,j∈oQ (λj=>!Nat.testBit en j && (fL P l).enabled done j) (fL P l).s7↔∃o,l[j]?=some o/\ic P o.op=true/\en.testBit j=false/\(fL P l).enabled done j=true:=by
   intro j
   rw[wO,List.mem_filter,Co]
   simp only[Bool.and_eq_true,Bool.not_eq_true']
   constructor
   ·rintro ⟨⟨o,a,b⟩,c,d⟩;exact⟨o,a,b,c,d⟩
   ·rintro ⟨o,a,b,c,d⟩;exact⟨⟨o,a,b⟩,c,d⟩
  obtain⟨E',k1,k2,k3⟩:=ZG (n:=n) hT _ E (λj hj o ho=>by
   obtain⟨o',q1,q2,_⟩:=(tu j).1 hj
   rw[ho]at q1;cases q1
   exact⟨q2,λd hd=>rf.self j o d ho q2 hd⟩) (by
    rw[wO]
    refine List.Pairwise.imp_of_mem ?_ (List.Pairwise.filter _ (Jk (f:=λo=>ic P o.op) (l:=l) (s:=0)))
    intro j k hj hk dd oj ok d TW cG hd
    have TF:ic P ok.op=true:=by
     have pO:=(List.mem_filter.1 hk).1
     obtain⟨o',q1,q2⟩:=Co.1 pO
     rw[cG]at q1;cases q1;exact q2
    refine⟨λjW=>?_,rf.one j k oj ok d TW cG (by omega) hd TF⟩
    rcases rf.dep j k oj ok d TW cG (by omega) hd jW with q|⟨q,_⟩
    ·have:=Bt.lt rf j (show Bt l j k from q);omega
    ·rw[TF]at q;cases q) h1
  have AV:∀j o,l[j]?=some o->ic P o.op=true->j∈oQ (λj=>!Nat.testBit en j && (fL P l).enabled done j) (fL P l).s7->listed.getD j false=false:=λj o ho hf hj=>by
   obtain⟨o',q1,q2,q3,q4⟩:=(tu j).1 hj
   cases hl:listed.getD j false with
   | false=>rfl
   | true=>rw[(kX j o ho hf).2 (bUh j o ho hf hl)]at q3;cases q3
  refine⟨E',size,closed,chain,agree.same (λt ht=>ht) (λt ht=>k2 t (λj hj o ho hd=>ht ?_)),keep,λj o ho hf hl he=>?_,k,_,?_,k1⟩
  ·obtain⟨o',q1,q2,q3,q4⟩:=(tu j).1 hj
   rw[ho]at q1;cases q1
   exact we.2 ⟨j,o,ho,AV j o ho q2 hj,q2,hd⟩
  ·
   by_cases hold:was j
   ·obtain⟨r,v,w0,hp⟩:=b_8 j o ho hf hl hold
    have base:∃v,uT P l n o E w r v:=by
     cases r with
     | false=>exact⟨v,hp.DQ,hp.val,λh=>(by cases h),hp.skip,λh=>(by cases h)⟩
     | true=>
      by_cases dH:ow P o.op=true
      ·have xk:j∈oQ (λj=>Nat.testBit en j && !(fL P l).Dr done j && (match l[j]? with|some o=>ow P o.op|none=>false)) (fL P l).s7:=by
        rw[wO,List.mem_filter]
        refine⟨Co.2 ⟨o,ho,hf⟩,?_⟩
        simp only[Bool.and_eq_true,Bool.not_eq_true',ho]
        refine⟨⟨(kX j o ho hf).2 hold,?_⟩,dH⟩
        cases hn:(fL P l).Dr done j with
        | false=>rfl
        | true=>
         obtain⟨c,c1,c2,c3⟩:=bY1.1 hn
         rw[closed c j ((chain c c1).2 c2) c3]at hl;cases hl
       obtain⟨d,e,d1,d2,d3⟩:=h2 j xk o ho hp.DQ
       obtain⟨u,u1,u2⟩:=HU o.op hf d3
       subst u1
       refine⟨e.val,hp.DQ,λd' mR _=>?_,hp.all,λh=>(by cases h),λ_ w' xC ρ hF hρ=>?_⟩
       ·rw[d1]at mR;cases mR;simp[valOf,d2]
       ·exact JS hT hF (λx hx=>hρ x hx (hp.all rfl dH x hx)) (u2 w' xC)
      ·exact⟨v,hp.mono (λ_ _=>rfl) (λ_ _=>rfl) (λh=>absurd h dH)⟩
    obtain⟨v,hp⟩:=base
    have P5:∀k ok,k∈oQ (λj=>!Nat.testBit en j && (fL P l).enabled done j) (fL P l).s7->l[k]?=some ok->k≠j/\∀d,ok.dst=some d->d∉looks l o:=λk ok hk cG=>by
     obtain⟨o',q1,q2,q3,q4⟩:=(tu k).1 hk
     rw[cG]at q1;cases q1
     have IE:k≠j:=λe=>by subst e;rw[(kX k o ho hf).2 hold]at q3;cases q3
     refine⟨IE,λd hd jW=>?_⟩
     rcases rf.dep j k o ok d ho cG (Ne.symm IE) hd jW with q|⟨q,_⟩
     ·rw[(kX k ok cG q2).2 (down j k hold q)]at q3;cases q3
     ·rw[q2]at q;cases q
    refine⟨r,v,hp.mono (λt ht=>k2 t (λk hk ok cG hd=>?_)) (λd hd=>k2 d (λk hk ok cG mR=>?_)) (λ_=>rfl)⟩
    ·exact (P5 k ok hk cG).2 t hd ht
    ·obtain⟨o',q1,q2,_⟩:=(tu k).1 hk
     rw[cG]at q1;cases q1
     exact rf.one j k o ok d ho cG (Ne.symm (P5 k ok hk cG).1) mR q2 hd
   ·exact k3 j ((tu j).2 ⟨o,ho,hf,by
     cases hb:en.testBit j with
     | false=>rfl
     | true=>exact absurd ((kX j o ho hf).1 hb) hold,he⟩) o ho
  ·intro j o ho hf
   rw[Nat.testBit_or,Bool.or_eq_true,Vh,wO,List.mem_filter,Co]
   constructor
   ·rintro (q|⟨_,q⟩)
    ·exact sub j ((kX j o ho hf).1 q)
    ·exact q
   ·intro q;exact .inr ⟨⟨o,ho,hf⟩,q⟩
end
open Go.RowKit
section
variable {P:Program} {T:List Bool} {n:Nat} {ops:Array Oper}
def left(listed:Array Bool)(m:Nat):Nat:=((List.range m).filter λj=>!listed.getD j false).length
theorem bXc{listed:Array Bool}{i:Nat}(hu:listed.getD i false=false)(hs:i<listed.size):∀m,left listed m=left (listed.setIfInBounds i true) m+(if i<m then 1 else 0):=by
 intro m
 induction m with
 | zero=>simp[left]
 | succ m ih=>
  unfold left at ih ⊢
  rw[List.range_succ,List.filter_append,List.filter_append,List.length_append,List.length_append,ih]
  by_cases nF:m=i
  ·subst nF
   have e1:(listed.setIfInBounds m true).getD m false=true:=by simp[hs]
   rw[List.filter_cons,List.filter_cons,hu,e1]
   simp
  ·rw[List.filter_cons,List.filter_cons,getD_set_ne false (λe=>nF e.symm),List.filter_nil,List.filter_nil]
   by_cases lC:i<m
   ·have h2:i<m+1:=by omega
    simp only[lC,h2,if_true];omega
   ·have h2:¬i<m+1:=by omega
    simp only[lC,h2,if_false];omega
theorem bXd{listed:Array Bool}{m:Nat}(h:left listed m=0){j:Nat}(hj:j<m):listed.getD j false=true:=by
 have h0:=List.eq_nil_of_length_eq_zero h
 cases hb:listed.getD j false with
 | true=>rfl
 | false=>
  have:j∈(List.range m).filter λi=>!listed.getD i false:=List.mem_filter.2 ⟨List.mem_range.2 hj,by rw[hb];rfl⟩
  rw[h0]at this;cases this
theorem bXb{listed:Array Bool}{m k:Nat}(h:left listed m=k+1):∃j,j<m/\listed.getD j false=false:=by
 unfold left at h
 cases hl:(List.range m).filter λj=>!listed.getD j false with
 | nil=>rw[hl]at h;simp at h
 | cons j r=>
  have:j∈(List.range m).filter λj=>!listed.getD j false:=by rw[hl];simp
  obtain⟨h1,h2⟩:=List.mem_filter.1 this
  exact⟨j,List.mem_range.1 h1,by simpa using h2⟩
theorem awp(hT:Calls.pk P T)(rf:RF P n ops.toList){K:Env->World->Prop}{Q:Exit->Act->World->Prop}{a0:Act}(hn:∀E' a' w',fy [] n E' a'->jk (rY ops.toList) a0 a'->K E' w'->Q .normal a' w'):
  ∀(f:Nat) (listed:Array Bool) (a:Act) (w:World) (done:Nat) (E:Env),DI P T n ops.toList K a0 listed a w done E->left listed ops.size=f->wpAny P .any ops Q f listed a w:=by
 have AO:∀(i:Nat) (o:Oper),ops.toList[i]?=some o↔ops[i]?=some o:=λi o=>by simp
 intro f
 induction f with
 | zero=>
  intro listed a w done E di hf
  have fS:listed.size=ops.size:=by simpa using di.size
  have eE:∀j,j<ops.size->listed.getD j false=true:=λj hj=>bXd hf hj
  refine⟨?_,?_⟩
  ·cases hr:Region.ready .any ops listed with
   | nil=>rfl
   | cons i r=>
    have hi:i∈Region.ready .any ops listed:=by rw[hr];simp
    obtain⟨xB,oi,xr,_⟩:=mem_ready.1 hi
    have dd:i<ops.size:=(Array.getElem?_eq_some_iff.1 xr).1
    have:=eE i dd
    rw[getD_both xB]at this;cases this
  ·obtain⟨k,en,_,hx⟩:=di.next
   unfold Next at hx
   have rm:vR (fL P ops.toList).cm done=true:=Kt.2 λc hc=>by
    have AH:=Em.1 hc
    obtain⟨o,ho,_⟩:=Hq.1 AH
    have dd:c<ops.size:=by have:=(List.getElem?_eq_some_iff.1 ho).1;simpa using this
    exact (di.chain c AH).1 (eE c dd)
   rw[rm]at hx
   refine hn E a w (di.agree.same (λt _ ht=>?_) (λ_ _=>rfl)) di.keep hx
   obtain⟨j,o,ho,hl,_⟩:=we.1 ht
   have dd:j<ops.size:=by have:=(List.getElem?_eq_some_iff.1 ho).1;simpa using this
   rw[eE j dd]at hl;cases hl
 | succ f ih=>
  intro listed a w done E di hf
  have fS:listed.size=ops.size:=by simpa using di.size
  refine⟨λh0=>?_,λi hi=>?_⟩
  ·
   exfalso
   obtain⟨j0,tq,Jb⟩:=bXb hf
   have xm:∀(m:Nat),m<ops.size->listed.getD m false=false->False:=by
    intro m
    induction m using Nat.strongRecOn with
    | _ m ihm=>
     intro hm hu
     have TZ:ops[m]?=some ops[m]:=Array.getElem?_eq_getElem hm
     have:m∈Region.ready .any ops listed:=mem_ready.2 ⟨getD_in (by omega) hu,_,TZ,λe he hb=>by
      have dd:=rf.back m _ e ((AO m _).2 TZ) (by simpa using he) hb
      cases hx:listed.getD e.on false with
      | true=>rfl
      | false=>exact (ihm e.on dd (by omega) hx).elim⟩
     rw[h0]at this;cases this
   exact xm j0 tq Jb
  ·obtain⟨xB,o,xr,bRi⟩:=mem_ready.1 hi
   have hu:listed.getD i false=false:=getD_both xB
   have dd:i<ops.size:=(Array.getElem?_eq_some_iff.1 xr).1
   have ho:ops.toList[i]?=some o:=(AO i o).2 xr
   have hB:∀j,Bt ops.toList i j->listed.getD j false=true:=λj hj=>by
    obtain⟨e,h1,h2,h3⟩:=(Bt.iff rf ho).1 hj
    have:=bRi e (by simpa using h1) h2
    rcases h3 with rfl|h3
    ·exact this
    ·exact di.closed e.on j this h3
   have kX:(fL P ops.toList).enabled done i=true:=wG.2 λc hb hc=>(di.chain c hc).1 (hB c hb)
   have TI:left (listed.setIfInBounds i true) ops.size=f:=by
    have:=bXc hu (by omega) ops.size
    rw[if_pos dd]at this;omega
   have Iz:(listed.setIfInBounds i true).getD i false=true:=by
    have:i<listed.size:=by omega
    simp[this]
   have TR:∀j,listed.getD j false=true->(listed.setIfInBounds i true).getD j false=true:=λj hj=>by
    by_cases e:i=j
    ·subst e;exact Iz
    ·rw[getD_set_ne false e];exact hj
   have mQ:∀j,(listed.setIfInBounds i true).getD j false=false->listed.getD j false=false/\j≠i:=λj hj=>by
    by_cases e:i=j
    ·subst e;rw[Iz]at hj;cases hj
    ·rw[getD_set_ne false e]at hj;exact⟨hj,Ne.symm e⟩
   have Tf:∀x y,(listed.setIfInBounds i true).getD x false=true->Bt ops.toList x y->(listed.setIfInBounds i true).getD y false=true:=λx y hx hb=>by
    by_cases e:i=x
    ·subst e;exact TR y (hB y hb)
    ·rw[getD_set_ne false e]at hx;exact TR y (di.closed x y hx hb)
   have AR:∀t∈looks ops.toList o,t∉Xs P ops.toList listed:=λt ht hx=>by
    obtain⟨j,oj,hj,hl,oZ,hd⟩:=we.1 hx
    by_cases e:i=j
    ·subst e;rw[ho]at hj;cases hj;exact rf.self i o t ho oZ hd ht
    ·rcases rf.dep i j o oj t ho hj e hd ht with q|⟨q,_⟩
     ·rw[hB j q]at hl;cases hl
     ·rw[oZ]at q;cases q
   have iu:∀x∈dX o.op,vZ (Xs P ops.toList listed) x:=λx hx t ht=>AR t (FL hx ht)
   have Tq:∀t,o.dst=some t->t∈rY ops.toList:=λt ht=>List.mem_filterMap.2 ⟨o,List.mem_of_getElem? ho,ht⟩
   have bI1:∀t,t∉Xs P ops.toList (listed.setIfInBounds i true)->o.dst≠some t->t∉Xs P ops.toList listed:=λt h1 h2 h3=>by
    obtain⟨j,oj,hj,hl,oZ,hd⟩:=we.1 h3
    by_cases e:i=j
    ·subst e;rw[ho]at hj;cases hj;exact h2 hd
    ·exact h1 (we.2 ⟨j,oj,hj,by rw[getD_set_ne false e];exact hl,oZ,hd⟩)
   by_cases mT:ic P o.op=true
   ·
    obtain⟨r,v,hp⟩:=di.J3 i o ho mT hu kX
    have hw:=KM hp.DQ di.agree AR
    have pP:wpAny P .any ops Q f (listed.setIfInBounds i true) (a.put o.dst v) w:=by
     refine ih _ _ w done E ⟨by simpa using di.size,Tf,λc hc=>?_,?_,di.keep.trans (jk.put a o.dst v _ Tq),λj oj hj oZ hl he=>?_,di.next⟩ TI
     ·have uu:c≠i:=λe=>by
       obtain⟨oc,h1,h2⟩:=Hq.1 hc
       subst e;rw[ho]at h1;cases h1;rw[mT]at h2;cases h2
      rw[getD_set_ne false (Ne.symm uu)]
      exact di.chain c hc
     ·refine⟨by cases o.dst<;>simp[Act.put,di.agree.size],by cases o.dst<;>exact di.agree.defers,λt e ht he=>?_⟩
      by_cases hd:o.dst=some t
      ·have TN:=rf.low i o t ho hd
       have:=hp.val t hd TN
       unfold valOf at this
       rw[he]at this
       simp at this
       rw[this,hd]
       simp[Act.put,di.agree.size,TN]
      ·have:=di.agree.get t e (bI1 t ht hd) he
       cases hdd:o.dst with
       | none=>exact this
       | some d=>
        have dO:d≠t:=λe=>hd (by rw[hdd,e])
        simp[Act.put,Array.getElem?_setIfInBounds_ne dO,this]
     ·exact di.J3 j oj hj oZ (mQ j hl).1 he
    unfold wpOp
    rw[xr]
    show if Region.wanted o (yielded ops a.tmps)=true then _ else _
    rw[hw]
    cases r with
    | true=>
     rw[if_pos rfl]
     refine .inl (fG.upon (hp.run rfl w (λ_=>rfl) a.eval (λ_=>rfl) (λx hx hh=>di.agree.ev (iu x hx) hh)) ?_)
     rintro u w' ⟨rfl,rfl⟩
     exact pP
    | false=>
     rw[if_neg Bool.false_ne_true]
     rw[<- hp.skip rfl]
     exact pP
   ·
    have bRt:ic P o.op=false:=by simpa using mT
    have Fh:i∈(fL P ops.toList).jy:=Hq.2 ⟨o,ho,bRt⟩
    have CH:done.testBit i=false:=by
     cases hb:done.testBit i with
     | false=>rfl
     | true=>rw[(di.chain i Fh).2 hb]at hu;cases hu
    obtain⟨k,en,bRn,hx⟩:=di.next
    unfold Next at hx
    have rm:vR (fL P ops.toList).cm done=false:=by
     cases hb:vR (fL P ops.toList).cm done with
     | false=>rfl
     | true=>rw[Kt.1 hb i (Em.2 Fh)]at CH;cases CH
    rw[rm]at hx
    have hx:=PX hx i (by
     rw[wO,List.mem_filter]
     exact⟨Fh,by rw[CH,kX];rfl⟩)
    rw[ho]at hx
    have enter:∀(E3:Env) (v:Value) (w3:World),fZ o.dst E E3->fy (Xs P ops.toList listed) n E3 (a.put o.dst v)->(fL P ops.toList).go P T n K k (done ||| 2 ^ i) en E3 w3 ->
      wpAny P .any ops Q f (listed.setIfInBounds i true) (a.put o.dst v) w3:=by
     intro E3 v w3 hs hA hg
     have bI0:∀t,t∉Xs P ops.toList (listed.setIfInBounds i true)->t∉Xs P ops.toList listed:=λt h1 h3=>by
      obtain⟨j,oj,hj,hl,oZ,hd⟩:=we.1 h3
      have iX:i≠j:=λe=>by subst e;rw[ho]at hj;cases hj;exact mT oZ
      exact h1 (we.2 ⟨j,oj,hj,by rw[getD_set_ne false iX];exact hl,oZ,hd⟩)
     have bI8:∀c,c∈(fL P ops.toList).jy->((listed.setIfInBounds i true).getD c false=true↔(done ||| 2 ^ i).testBit c=true):=λc hc=>by
      rw[Nat.testBit_or,Bool.or_eq_true,Nat.testBit_two_pow,decide_eq_true_eq]
      by_cases e:i=c
      ·subst e;exact⟨λ_=>.inr rfl,λ_=>Iz⟩
      ·rw[getD_set_ne false e,di.chain c hc]
       exact⟨.inl,λh=>h.elim id (λh=>absurd h e)⟩
     obtain⟨E',di'⟩:=SK (n:=n) hT rf (K:=K) (a0:=a0) (was:=λj=>(fL P ops.toList).enabled done j=true) (by simpa using di.size) Tf bI8 (hA.same bI0 (λ_ _=>rfl)) (di.keep.trans (jk.put a o.dst v _ Tq))
      (λj hj=>wG.2 λc hb hc=>by rw[Nat.testBit_or,wG.1 hj c hb hc];rfl)
      (λj k hj hb=>wG.2 λc hc hm=>wG.1 hj c (Bt.trans rf j hb hc) hm) bRn
      (λj oj hj oZ hl=>wG.2 λc hb hc=>by
       have iX:i≠j:=λe=>by subst e;rw[ho]at hj;cases hj;exact mT oZ
       rw[getD_set_ne false iX]at hl
       exact (di.chain c hc).1 (di.closed j c hl hb))
      (λj oj hj oZ hl he=>by
       obtain⟨hl,iX⟩:=mQ j hl
       obtain⟨r,v,hp⟩:=di.J3 j oj hj oZ hl he
       have TD:j≠i:=iX
       refine⟨r,v,w,hp.mono (λt ht=>hs t (λhd=>?_)) (λd hd=>hs d (λmR=>?_)) (λ_=>rfl)⟩
       ·rcases rf.dep j i oj o t hj ho TD hd ht with q|⟨_,q⟩
        ·rw[wG.1 he i q Fh]at CH;cases CH
        ·rw[hB j q]at hl;cases hl
       ·exact rf.one i j o oj d ho hj (Ne.symm TD) hd oZ mR)
      hg
     exact ih _ _ w3 _ E' di' TI
    obtain⟨E2,h0,⟨A5,h⟩|⟨A5,h⟩⟩:=HW hx
    ·have hw:=KM A5 di.agree AR
     unfold wpOp
     rw[xr]
     show if Region.wanted o (yielded ops a.tmps)=true then _ else _
     rw[hw,if_pos rfl]
     refine .inl (Xb hT (cAs h) (di.agree.same (λt ht=>ht) (λt _=>h0 t (by simp))) iu ?_)
     rintro E3 v w3 hA ⟨hs,hg⟩
     exact enter E3 v w3 (h0.BD.trans hs) hA hg
    ·have hw:=KM A5 di.agree AR
     unfold wpOp
     rw[xr]
     show if Region.wanted o (yielded ops a.tmps)=true then _ else _
     rw[hw,if_neg Bool.false_ne_true]
     exact enter _ undef w (h0.BD.trans (fZ.put n E2 o.dst _)) ((di.agree.same (λt ht=>ht) (λt _=>h0 t (by simp))).put o.dst .u) h
theorem a_b(hT:Calls.pk P T)(hm:P.follows .mixedOrders=true){id:Nat}{K:Env->World->Prop}{Q:Exit->Act->World->Prop}{a:Act}{E:Env}{w:World}
  (cG:F7 P n ops.toList true=true) (hA:fy [] n E a) (h:HE P T n ops.toList K E w.drew) (hn:∀E' a' w',fy [] n E' a'->jk (rY ops.toList) a a'->K E' w'->Q .normal a' w') :
  (Code.region id ops true).wp P Q a w:=by
 have rf:=cw3 cG
 refine wp_region_any hm ?_
 have hr:∀j,(Array.replicate ops.size false).getD j false=false:=λj=>getD_replicate_false _ _
 unfold HE at h
 obtain⟨E',di⟩:=SK (n:=n) hT rf (K:=K) (a0:=a) (listed:=Array.replicate ops.size false) (a:=a) (was:=λ_=>False) (by simp) (λi j hi=>by rw[hr]at hi;cases hi) (λc _=>by rw[hr];simp)
  (hA.same (λt _=>by simp) (λ_ _=>rfl)) (.refl _ a) (λ_ h=>h.elim) (λ_ _ h=>h.elim) (λj o ho hf=>by simp) (λj o ho hf hl=>by rw[hr]at hl;cases hl) (λj o ho hf hl he=>he.elim) h
 refine awp hT rf hn ops.size _ a w.drew 0 E' di ?_
 unfold left
 rw[List.filter_eq_self.2 (λi _=>by rw[hr];rfl)]
 simp
end
