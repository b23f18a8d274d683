/-
  Texts of the proof, joined: StrS, SigS, RqR, RqS, Cfg, MuxS, MuxS2, DrrS, SrcS5, SnpS, WinR, WinR2, SigR, MuxR, TxnR, ImgR, RefD, RefD2, RefD3, RefD4, SetR, SinkM, LogSt, SinkP, RLogG, SrcS3, SrcS4.
-/
import Derived.Test.YtfenmffiidchcaaGreatJ10
import Derived.Lib.ConvBytes
import Derived.Laws.AppendOwn
import Derived.Test.YtfenmffiidchcaaGreatQVcW
import Derived.Test.YtfenmffiidchcaaGreatQVcY
import Derived.Test.YtfenmffiidchcaaGreatQVcF
namespace Go.Proofs.YtfenmffiidchcaaGreat
set_option linter.unusedVariables false
open Go.RowKit
section
variable {W w:World} {l:List Chunk} {P:Program}
end
set_option maxRecDepth 100000
theorem VM(s:ByteArray):s=iQ s.data.toList:=by cases s;simp[iQ]
theorem VL(l:List UInt8):(iQ l).data.toList=l:=by simp[iQ]
theorem TS{l:List UInt8}{k:Nat}{kk:IntKind}{K:Value->Prop}(hk:k<=l.length)(h:K (.string (iQ (l.take k)))):Zu (.string (iQ l)) none (some (.int kk (k:Int))) K:=by
 refine⟨iQ l,0,k,rfl,⟨kk,rfl⟩,rfl,Nat.zero_le _,by rw[pF];exact hk,?_⟩
 have:(iQ l).extract 0 k=iQ (l.take k):=by apply ByteArray.ext;simp[iQ,ByteArray.data_extract]
 rw[this];exact h
theorem TT{l:List UInt8}{k:Nat}{kk:IntKind}{K:Value->Prop}(hk:k<=l.length)(h:K (.string (iQ (l.drop k)))):Zu (.string (iQ l)) (some (.int kk (k:Int))) none K:=by
 refine⟨iQ l,k,(iQ l).size,rfl,rfl,⟨kk,rfl⟩,by rw[pF];exact hk,Nat.le_refl _,?_⟩
 have:(iQ l).extract k (iQ l).size=iQ (l.drop k):=by
  apply ByteArray.ext
  rw[pF]
  simp[iQ,ByteArray.data_extract]
  rw[List.take_of_length_le (by rw[List.length_drop];omega)]
 rw[this];exact h
theorem QD{P:Program}{w:World}{t:TypeId}{l:List UInt8}{j:Nat}{k:IntKind}{K:Value->Prop}(ht:P.underlying t=some .string)(hj:j<l.length)(h:K (.int .u8 (l[j]).toNat)):kg P (Instr.index t (.string (iQ l)) (.int k (j:Int))) w K:=by
 have e:(iQ l)[j]'(by rw[pF];exact hj)=l[j]:=by simp[iQ,ByteArray.getElem_eq_getElem_data]
 exact bI5 ht (by rw[pF];exact hj) (by rw[e];exact h)
theorem ZT(l p:List UInt8):SP 369 [.string (iQ l),.string (iQ p)] [] (dW (.bool (decide (l.take p.length=p))) []):=by
 intro W F w hS;apply b8b;delta MD aF b7;(try simp only[app]at hS)
 refine Gp ?_
 rw[pF,pF]
 refine za (λh=>?_) (λh=>?_)
 ·refine Gp ?_
  rw[pF]
  refine TS (by omega) ?_
  refine Gp ?_
  rw[show decide (iQ (l.take p.length)=iQ p)=decide (l.take p.length=p) by rw[decide_eq_decide];exact N4]
  (exact eF hS)
 ·rw[decide_eq_false λe=>by
   have:=congrArg List.length e
   rw[List.length_take]at this
   omega]
  (exact eF hS)
theorem ZM(l p:List UInt8):SP 354 [.string (iQ l),.string (iQ p)] [] (dW (.tuple #[.string (iQ (if l.take p.length=p then l.drop p.length else l)),.bool (decide (l.take p.length=p))]) []):=by
 intro W F w hS;apply b76;delta Mz c_;(try simp only[app]at hS)
 refine Cg (ZT l p) λw hS=>?_
 refine zA (λh=>?_) (λh=>?_)
 ·have h:=of_decide_eq_false h
  rw[if_neg h,decide_eq_false h]
  (exact eF hS)
 ·have h:=of_decide_eq_true h
  rw[if_pos h,decide_eq_true h]
  refine Gp ?_
  rw[pF]
  refine TT ?_ ?_
  ·have:=congrArg List.length h
   rw[List.length_take]at this
   omega
  ·(exact eF hS)
theorem ZR(l p:List UInt8):SP 307 [.string (iQ l),.string (iQ p)] [] (dW (.tuple #[.string (iQ (if l.take p.length=p then l.drop p.length else l)),.bool (decide (l.take p.length=p))]) []):=by
 intro W F w hS;apply b7l;unfold Mi;(try simp only[app]at hS)
 refine Cg (ZM l p) λw hS=>?_
 (exact eF hS)
theorem Xf(l:List UInt8)(c:UInt8):firstIdx (iQ l) c=oy (l.findIdx? λx=>decide (x=c)):=by
 have kG:∀i,i<l.length->(iQ l)[i]! = l[i]!:=λi hi=>by
  have h2:i<(iQ l).size:=by rw[pF];exact hi
  rw[getElem!_pos (iQ l) i h2,getElem!_pos l i hi]
  simp[iQ,ByteArray.getElem_eq_getElem_data]
 unfold firstIdx
 rw[pF]
 cases hf:l.findIdx? (λx=>decide (x=c)) with
 | none=>
  have h1:=List.findIdx?_eq_none_iff.1 hf
  have:(List.range l.length).find? (λi=>(iQ l)[i]! == c)=none:=by
   rw[List.find?_range_eq_none]
   intro i hi
   rw[kG i hi,getElem!_pos l i hi]
   have:=of_decide_eq_false (h1 _ (List.getElem_mem hi))
   simpa using this
  rw[this];rfl
 | some j=>
  obtain⟨hj,hk,wa⟩:=List.findIdx?_eq_some_iff_getElem.1 hf
  have:(List.range l.length).find? (λi=>(iQ l)[i]! == c)=some j:=by
   rw[List.find?_range_eq_some]
   refine⟨?_,List.mem_range.2 hj,λi hi=>?_⟩
   ·rw[kG j hj,getElem!_pos l j hj];simpa using hk
   ·rw[kG i (by omega),getElem!_pos l i (by omega)]
    have:=wa i hi
    simpa using this
  rw[this];rfl
theorem ZU(l:List UInt8)(c:UInt8):SP 375 [.string (iQ l),.int .u8 c.toNat] [] (dW (.int .i64 (oy (l.findIdx? λx=>decide (x=c)))) []):=by
 intro W F w hS;apply b8e;unfold MG;(try simp only[app]at hS)
 refine⟨.int .i64 (oy (l.findIdx? λx=>decide (x=c))),w,?_,?_⟩
 ·have:=run_callFunc_extern Tryz.func379 (by kernel_rfl) (by kernel_rfl) (by kernel_rfl) (e:=Extern.BytealgIndexByte.indexByte) (by kernel_rfl) #[.string (iQ l),.int .u8 c.toNat] w
  rw[this,run_indexByte_string,Xf,show ((c.toNat:Int).toNat.toUInt8)=c by simp]
  rfl
 ·(exact eF hS)
theorem Y5(l:List UInt8)(c:UInt8):SP 370 [.string (iQ l),.string (iQ [c])] [] (dW (.int .i64 (oy (l.findIdx? λx=>decide (x=c)))) []):=by
 intro W F w hS;apply b8c;delta ME aF ai;(try simp only[app]at hS)
 refine Gp ?_
 refine⟨λ_ _=>False,?_,λw h=>h.elim⟩
 rw[pF]
 refine Gp ?_
 refine za (λh=>absurd h (by simp)) (λ_=>?_)
 refine bW (λh=>?_) (λ_=>?_)
 ·have h:=N4.1 h
  rw[<- h]
  exact⟨_,⟨by simp[oy],rfl⟩,hS⟩
 ·refine Gp ?_
  refine za (λ_=>?_) (λh=>absurd (by simp) h)
  refine QD (j:=0) Tryz.underlying9 (by simp) ?_
  refine Cg (ZU l c) λw hS=>?_
  (exact eF hS)
def nS(l:List UInt8)(c:UInt8):List UInt8 × List UInt8 × Bool:=match l.findIdx? (λx=>decide (x=c)) with
 | none=>(l,[],false)
 | some i=>(l.take i,l.drop (i+1),true)
theorem QP(l:List UInt8)(c:UInt8)(hl:l.length<=4611686018427387904):SP 355 [.string (iQ l),.string (iQ [c])] [] (dW (.tuple #[.string (iQ (nS l c).1),.string (iQ (nS l c).2.1),.bool (nS l c).2.2]) []):=by
 intro W F w hS;apply b77;delta MA aF ai;(try simp only[app]at hS)
 refine Cg (Y5 l c) λw hS=>?_
 unfold nS
 cases hf:l.findIdx? (λx=>decide (x=c)) with
 | none=>
  simp only[oy]
  refine za (λh=>absurd h (by decide)) (λ_=>?_)
  exact⟨_,⟨rfl,rfl⟩,hS⟩
 | some i=>
  have hi:=(List.findIdx?_eq_some_iff_getElem.1 hf).1
  simp only[oy]
  refine za (λ_=>?_) (λh=>by omega)
  refine Gn λw hS=>?_
  refine TS (by omega) ?_
  refine Gp ?_
  rw[pF]
  have e:([c]:List UInt8).length=1:=rfl
  rw[e]
  refine Gp ?_
  refine TT (by omega) ?_
  exact⟨_,⟨rfl,rfl⟩,hS⟩
theorem QO(l:List UInt8)(c:UInt8)(hl:l.length<=4611686018427387904):SP 308 [.string (iQ l),.string (iQ [c])] [] (dW (.tuple #[.string (iQ (nS l c).1),.string (iQ (nS l c).2.1),.bool (nS l c).2.2]) []):=by
 intro W F w hS;apply b7m;unfold Mj;(try simp only[app]at hS)
 refine Cg (QP l c hl) λw hS=>?_
 (exact eF hS)
def ph(l:List UInt8)(a b:Nat):Int:=match l with
 | [d]=>if a<=d.toNat/\d.toNat<=b then (d.toNat:Int)-48 else -1
 | _=>-1
theorem bRy:∀n:Fin 256,48<=n.1->IntKind.i64.wrap (IntKind.u8.wrap ((n.1:Int)-48))=(n.1:Int)-48:=by decide
theorem bI7{d:UInt8}{K:Value->Prop}(hd:48<=d.toNat)(h:K (.int .i64 ((d.toNat:Int)-48))):zc .sub (.int .u8 d.toNat) (.int .u8 48) λv=>zG .i64 v K:=by
 refine⟨_,rfl,_,_,rfl,?_⟩
 rw[bRy ⟨d.toNat,d.toNat_lt⟩ hd];exact h
theorem ZS(l:List UInt8)(a b:Nat)(ha:48<=a):SP 309 [.string (iQ l),.int .u8 a,.int .u8 b] [] (dW (.int .i64 (ph l a b)) []):=by
 intro W F w hS;apply b7n;delta Mk aF ai;(try simp only[app]at hS)
 refine Gp ?_
 rw[pF]
 refine za (λh=>?_) (λh=>?_)
 ·have e:ph l a b = -1:=by
   unfold ph
   split
   ·simp at h
   ·rfl
  rw[e];(exact eF hS)
 ·obtain⟨d,rfl⟩:∃d,l=[d]:=List.length_eq_one_iff.1 (by omega)
  refine QD (j:=0) Tryz.underlying9 (by simp) ?_
  show zc .lss (.int .u8 d.toNat) (.int .u8 a) _
  refine bW (λh1=>?_) (λh1=>?_)
  ·rw[show ph [d] a b = -1 from if_neg (by omega)]
   (exact eF hS)
  refine QD (j:=0) Tryz.underlying9 (by simp) ?_
  show zc .gtr (.int .u8 d.toNat) (.int .u8 b) _
  refine bW (λh2=>?_) (λh2=>?_)
  ·rw[show ph [d] a b = -1 from if_neg (by omega)]
   (exact eF hS)
  refine QD (j:=0) Tryz.underlying9 (by simp) ?_
  refine bI7 (d:=d) (by omega) ?_
  rw[show ph [d] a b=(d.toNat:Int)-48 from if_pos (by omega)]
  (exact eF hS)
theorem OD{l:List UInt8}{a b:Nat}(h:l.length≠1):ph l a b = -1:=by
 unfold ph
 split
 ·simp at h
 ·rfl
theorem F2{d:UInt8}{a b:Nat}(h:48<=a):ph [d] a b<0↔¬(a<=d.toNat/\d.toNat<=b):=by
 show (if a<=d.toNat/\d.toNat<=b then (d.toNat:Int)-48 else -1)<0↔_
 split<;>omega
def A4(r:List UInt8):Option (Int × Int):=
 let c:=nS r 32
 if ph c.1 48 55<0\/(if c.2.2=true then ph c.2.1 49 56 else 1)<0 then none else some (ph c.1 48 55,if c.2.2=true then ph c.2.1 49 56 else 1)
theorem Dv{d:UInt8}{a b:Nat}(h:a<=d.toNat/\d.toNat<=b):ph [d] a b=(d.toNat:Int)-48:=if_pos h
theorem Ut{d:UInt8}:d.toNat=32↔d=32:=⟨λh=>UInt8.toNat_inj.1 h,λh=>by rw[h];rfl⟩
theorem CT{r:List UInt8}(h:(nS r 32).1.length≠1\/((nS r 32).2.2=true/\(nS r 32).2.1.length≠1)):A4 r=none:=by
 unfold A4
 simp only
 rw[if_pos]
 rcases h with h|⟨h,h2⟩
 ·left;rw[OD h];decide
 ·right;rw[if_pos h,OD h2];decide
theorem tY(d:UInt8)(r:List UInt8):nS (d::r) 32=if d=32 then ([],r,true) else (d::(nS r 32).1,(nS r 32).2.1,(nS r 32).2.2):=by
 unfold nS
 rw[List.findIdx?_cons]
 by_cases hd:d=32
 ·simp[hd]
 ·rw[if_neg (by simpa using hd),if_neg hd]
  cases r.findIdx? (λx=>decide (x=32))<;>simp
theorem a77(r:List UInt8):wu r=A4 r:=by
 match r with
 | []=>rw[CT (.inl (by decide))];rfl
 | [d]=>
  by_cases hd:d=32
  ·subst hd;decide
  ·have hc:nS [d] 32=([d],[],false):=by rw[tY,if_neg hd];rfl
   unfold A4 wu
   rw[hc]
   simp only
   have:=F2 (d:=d) (a:=48) (b:=55) (by decide)
   by_cases h:48<=d.toNat/\d.toNat<=55
   ·rw[if_pos h,if_neg (λx=>x.elim (λh2=>by rw[Dv h]at h2;omega) (λh2=>absurd h2 (by decide))),Dv h];rfl
   ·rw[if_neg h,if_pos (.inl (this.2 h))]
 | [d,s]=>
  have e:wu [d,s]=none:=rfl
  rw[e,CT]
  rw[tY]
  by_cases hd:d=32
  ·rw[if_pos hd];left;simp
  ·rw[if_neg hd,tY]
   by_cases hs:s=32
   ·rw[if_pos hs];right;exact⟨rfl,by simp⟩
   ·rw[if_neg hs];left;simp
 | [d,s,e]=>
  by_cases hd:d=32
  ·have e1:wu [d,s,e]=none:=if_neg (by rw[hd];simp)
   rw[e1,CT]
   rw[tY,if_pos hd];left;simp
  ·by_cases hs:s=32
   ·have hc:nS [d,s,e] 32=([d],[e],true):=by rw[tY,if_neg hd,tY,if_pos hs]
    unfold A4 wu
    rw[hc]
    simp only[if_true]
    have h1:=F2 (d:=d) (a:=48) (b:=55) (by decide)
    have h2:=F2 (d:=e) (a:=49) (b:=56) (by decide)
    by_cases h:(48<=d.toNat/\d.toNat<=55)/\49<=e.toNat/\e.toNat<=56
    ·rw[if_pos ⟨h.1,Ut.2 hs,h.2⟩,if_neg (by omega),Dv h.1,Dv h.2]
    ·rw[if_neg (λx=>h ⟨x.1,x.2.2⟩),if_pos (by omega)]
   ·have e1:wu [d,s,e]=none:=if_neg (λx=>hs (Ut.1 x.2.1))
    rw[e1,CT]
    rw[tY,if_neg hd,tY,if_neg hs];left;simp
 | d::s::e::f::t=>
  have e1:wu (d::s::e::f::t)=none:=rfl
  rw[e1,CT]
  rw[tY]
  by_cases hd:d=32
  ·rw[if_pos hd];left;simp
  ·rw[if_neg hd,tY]
   by_cases hs:s=32
   ·rw[if_pos hs];right;exact⟨rfl,by simp⟩
   ·rw[if_neg hs];left;simp
def TY(o:Option (Int × Int)):Value:=.tuple #[agg [.int .i64 (o.getD (0,0)).1,.int .i64 (o.getD (0,0)).2],.bool o.isSome]
theorem qP(s:ByteArray)(hs:s.size<=4611686018427387904):SP 257 [.string s] [] (dW (TY (A5 s)) []):=by
 intro W F w hS;apply b6l;delta LD aF a7 c_ ai;(try simp only[app]at hS)
 rw[VM s]at hs ⊢
 generalize hl:s.data.toList=l at *
 rw[pF]at hs
 unfold A5
 rw[VL]
 refine Gb λrb w hS=>?_
 refine Cg (ZR l rF) λw hS=>?_
 by_cases hp:l.take rF.length=rF
 ·rw[if_pos hp,decide_eq_true hp,show l.take 9=rF from hp,if_pos rfl]
  refine zq ?_
  refine Cg (QO (l.drop rF.length) 32 (by rw[List.length_drop];omega)) λw hS=>?_
  rw[a77,show l.drop 9=l.drop rF.length from rfl]
  generalize l.drop rF.length=r at *
  unfold A4
  generalize nS r 32=c at *
  obtain⟨A,B,q⟩:=c
  simp only at hS ⊢
  refine Cc (ZS A 48 55 (by decide)) ?_;clear hS
  rintro _ post ⟨rfl,rfl⟩ w hS
  try simp only[app]at hS
  refine Gm λnb w hS=>?_
  refine⟨λus w=>us=[]/\SL W (.pt nb [.int .i64 (ph A 48 55),.int .i64 (if q=true then ph B 49 56 else 1)] 351::.pt rb [.int .i64 0,.int .i64 0] 351::F) w,?_,?_⟩
  ·refine y3 (λhq=>?_) (λhq=>?_)
   ·rw[if_pos hq]
    refine Cg (ZS B 49 56 (by decide)) λw hS=>?_
    (first|exact aR hS|exact⟨rfl,aR hS⟩)
   ·rw[if_neg (by simp[hq])]
    exact⟨rfl,aR hS⟩
  clear hS
  rintro w ⟨-,hS⟩
  refine bW (λh=>?_) (λh=>?_)
  ·rw[if_pos (.inl h)]
   refine Gn λw hS=>?_
   exact eF hS
  refine bW (λh2=>?_) (λh2=>?_)
  ·rw[if_pos (.inr h2)]
   refine Gn λw hS=>?_
   exact eF hS
  rw[if_neg (by omega)]
  refine Gn λw hS=>?_
  exact eF hS
 ·rw[decide_eq_false hp,if_neg (show ¬l.take 9=rF from hp)]
  refine zw ?_
  refine Gn λw hS=>?_
  exact eF hS
theorem YE(H:bw)(v:Value)(L:List Rq)(hv:nR H v L)(hn:L.length<=140737488351232):
  SP 195 [v] [.mem H] (λu post=>∃q:Bool,u= .bool q/\(q=true↔kx L)/\post=[.mem H]):=by
 intro W F w hS;apply b47;delta KP aF a7 c_ b7 ai;(try simp only[app]at hS)
 have iR:∀{w:World} {l:List Chunk},¬kx L->SL W (.mem H::F) w->∃post,(∃q:Bool,(.bool false:Value)= .bool q/\(q=true↔kx L)/\post=[.mem H])/\SL W (app post F) w:=λh hS=>
  ⟨_,⟨false,rfl,⟨λe=>(by cases e),λe=>absurd e h⟩,rfl⟩,hS⟩
 refine zo hv ?_
 refine Gp ?_
 refine za (λh=>iR (l:=[]) (λhp=>by have:=hp.1;omega) hS) (λh64=>?_)
 refine⟨λus w=>∃i:Nat,us=[.int .i64 i]/\i<=L.length/\(∀j,j<i->vE L j)/\SL W (.mem H::F) w,
  λus _=>match us with|[.int _ i]=>(L.length-i).toNat|_=>0,⟨0,rfl,by omega,λj h=>by omega,aR hS⟩,?_⟩
 clear hS
 rintro v3 w ⟨i,cW,hi,iz,hS⟩
 cases cW
 refine zo hv ?_
 refine bW (λh=>?_) (λh=>?_)
 ·have b3:i<L.length:=by omega
  have g9:∀{w:World},¬vE L i->SL W (.mem H::F) w->∃post,(∃q:Bool,(.bool false:Value)= .bool q/\(q=true↔kx L)/\post=[.mem H])/\SL W (app post F) w:=λh hS=>iR (l:=[]) (λhp=>h (hp.2 i)) hS
  have lW:uE i L[i]->(∀h0:0<i,L[i-1].at_<=L[i].at_)->(∀k (hk:k<i),¬(L[k].table=L[i].table/\L[k].done=false))->vE L i:=λh1 h2 h3 _=>⟨h1,h2,h3⟩
  have mT:vE L i->uE i L[i]/\(∀h0:0<i,L[i-1].at_<=L[i].at_)/\∀k (hk:k<i),¬(L[k].table=L[i].table/\L[k].done=false):=λh=>h b3
  refine zS hS Xh lU hv (x:=L[i]) (by simp[b3]) b3 ?_
  refine zJ hS ?_
  clear hS;intro b w hS
  refine zD (vs:=kT L[i]) hS .hd rfl rfl (Ak _) ?_
  clear hS;intro w hS
  have XT:L[i]?=some L[i]:=List.getElem?_eq_getElem b3
  generalize hr:L[i]=r at *
  obtain⟨EM,rt,vu,rat,xQ,xP,rd⟩:=r
  unfold kT at hS
  simp only at hS
  unfold uE at lW mT
  simp only at lW mT
  refine⟨λus w=>us=[]/\EM=(i:Int)+1/\0<=rt/\rt<8/\1<=vu/\vu<=8/\1<=rat/\rat<=1099511627776/\(∀h0:0<i,L[i-1].at_<=rat)/\SL W (.pt b [.int .i64 EM,.int .i64 rt,.int .i64 vu,.int .i64 rat,.int .i64 xQ,.int .i64 xP,.bool rd] 125::.mem H::F) w,?_,?_⟩
  ·refine Gn λw hS=>?_
   refine za (λc1=>g9 (λhp=>by have:=(mT hp).1.1;omega) (aR hS)) (λc1=>?_)
   refine Gp ?_
   refine za (λc2=>g9 (λhp=>by have:=(mT hp).1.2.1;omega) (aR hS)) (λc2=>?_)
   refine Gp ?_
   refine za (λc3=>g9 (λhp=>by have:=(mT hp).1.2.2.1;omega) (aR hS)) (λc3=>?_)
   refine Gp ?_
   refine za (λc4=>g9 (λhp=>by have:=(mT hp).1.2.2.2.1;omega) (aR hS)) (λc4=>?_)
   refine Gp ?_
   refine za (λc5=>g9 (λhp=>by have:=(mT hp).1.2.2.2.2.1;omega) (aR hS)) (λc5=>?_)
   refine Gp ?_
   refine za (λc6=>g9 (λhp=>by have:=(mT hp).1.2.2.2.2.2.1;omega) (aR hS)) (λc6=>?_)
   refine Gp ?_
   refine za (λc7=>g9 (λhp=>by have:=(mT hp).1.2.2.2.2.2.2.1;omega) (aR hS)) (λc7=>?_)
   refine bW (λc8=>?_) (λc8=>?_)
   ·have G2:i-1<L.length:=by omega
    have e1:(i:Int)-1=((i-1:Nat):Int):=by omega
    refine Gp ?_
    rw[e1]
    refine zH hS Xh lU hv (x:=L[i-1]) (by simp[G2]) G2 (i:=3) rfl ?_
    refine Gp ?_
    refine za (λc9=>g9 (λhp=>by have:=(mT hp).2.1 (by omega);omega) (aR hS)) (λc9=>?_)
    exact⟨rfl,by omega,by omega,by omega,by omega,by omega,by omega,by omega,λ_=>by omega,aR hS⟩
   ·exact⟨rfl,by omega,by omega,by omega,by omega,by omega,by omega,by omega,λh=>by omega,aR hS⟩
  ·clear hS
   rintro w ⟨-,c1,c2,c3,c4,c5,c6,c7,c8,hS⟩
   refine Gp ?_
   refine za (λd=>g9 (λhp=>by have:=(mT hp).1;omega) (aR hS)) (λd1=>?_)
   refine Gp ?_
   refine za (λd=>g9 (λhp=>by have:=(mT hp).1;omega) (aR hS)) (λd2=>?_)
   refine Gp ?_
   refine za (λd=>g9 (λhp=>by have:=(mT hp).1;omega) (aR hS)) (λd3=>?_)
   refine Gp ?_
   refine za (λd=>g9 (λhp=>by have:=(mT hp).1;omega) (aR hS)) (λd4=>?_)
   refine⟨λus w=>∃k:Nat,us=[.int .i64 k]/\k<=i/\(∀j (hj:j<k) (hl:j<L.length),¬(L[j].table=rt/\L[j].done=false))/\SL W (.pt b [.int .i64 EM,.int .i64 rt,.int .i64 vu,.int .i64 rat,.int .i64 xQ,.int .i64 xP,.bool rd] 125::.mem H::F) w,
    λus _=>match us with|[.int _ k]=>(i-k).toNat|_=>0,⟨0,rfl,by omega,λj h=>by omega,hS⟩,?_⟩
   clear hS
   rintro v5 w ⟨k,cW,hk,AG,hS⟩
   cases cW
   refine bW (λCi=>?_) (λCi=>?_)
   ·have rn:k<i:=by omega
    have lV:k<L.length:=by omega
    refine Gn λw hS=>?_
    refine zH hS Xh lU hv (x:=L[k]) (by simp[lV]) lV (i:=1) rfl ?_
    refine bW (λht=>?_) (λht=>?_)
    ·refine zH hS Xh lU hv (x:=L[k]) (by simp[lV]) lV (i:=6) rfl ?_
     refine Gp ?_
     refine zA (λhd=>?_) (λhd=>?_)
     ·exact g9 (λhp=>(mT hp).2.2 k rn ⟨ht,hd⟩) (aR hS)
     ·refine Gp ?_
      refine⟨⟨k+1,by simp,by omega,λj h1 h2=>?_,hS⟩,by dsimp only;omega⟩
      by_cases e:j=k
      ·subst e;rintro ⟨_,h3⟩;rw[hd]at h3;cases h3
      ·exact AG j (by omega) h2
    ·refine Gp ?_
     refine⟨⟨k+1,by simp,by omega,λj h1 h2=>?_,hS⟩,by dsimp only;omega⟩
     by_cases e:j=k
     ·subst e;rintro ⟨h3,_⟩;exact ht h3
     ·exact AG j (by omega) h2
   ·have Ci:k=i:=by omega
    subst Ci
    refine Gp ?_
    refine⟨⟨k+1,by simp,by omega,λj h1=>?_,aR hS⟩,by dsimp only;omega⟩
    by_cases e:j=k
    ·subst e;exact lW ⟨c1,c2,c3,c4,c5,c6,c7,by omega,by omega,by omega,by omega⟩ c8 λk' Ch=>AG k' Ch (by omega)
    ·exact iz j (by omega)
 ·have mS:i=L.length:=by omega
  subst mS
  refine⟨_,⟨true,rfl,⟨λ_=>⟨by omega,λj hj=>?_⟩,λ_=>rfl⟩,rfl⟩,aR hS⟩
  exact iz j hj hj
def Fq(H:bw)(u:Value)(post:List Chunk)(o:Option (List Rq)):Prop:=∃H',H.le H'/\post=[.mem H']/\match o with
 | none=>u= .tuple #[.slice none 0 0,.bool false]
 | some L'=>∃x,u= .tuple #[x,.bool true]/\nR H' x L'
def Fj(r:Rq)(a:Int):Prop:=0<=r.table/\r.table<8/\1<=r.weight/\r.weight<=8/\max a 1<=r.at_/\r.at_<=1099511627776/\0<=r.h_/\r.h_<=1099511627776/\0<=r.chunks/\r.chunks<=1099511627776
theorem a7n(r:Rq)(a:Int):SP 353 [agg (kT r),.int .i64 a] [] (λv post=>∃q:Bool,v= .bool q/\(q=true↔Fj r a)/\post=[]):=by
 intro W F w hS;apply b75;delta My aF a7 b7 ai;(try simp only[app]at hS)
 obtain⟨EM,rt,vu,rat,xQ,xP,rd⟩:=r
 unfold kT Fj
 simp only
 refine⟨_,rfl,zJ hS ?_⟩
 clear hS;intro b w hS
 have iR:∀{w:World},¬(0<=rt/\rt<8/\1<=vu/\vu<=8/\max a 1<=rat/\rat<=1099511627776/\0<=xQ/\xQ<=1099511627776/\0<=xP/\xP<=1099511627776)->SL W F w->∃post,(∃q:Bool,(.bool false:Value)= .bool q/\(q=true↔0<=rt/\rt<8/\1<=vu/\vu<=8/\max a 1<=rat/\rat<=1099511627776/\0<=xQ/\xQ<=1099511627776/\0<=xP/\xP<=1099511627776)/\post=[])/\SL W (app post F) w:=λh hS=>⟨_,⟨false,rfl,⟨λe=>(by cases e),λe=>absurd e h⟩,rfl⟩,hS⟩
 refine Gp ?_
 refine za (λc1=>?_) (λc=>iR (by omega) (aR hS))
 refine Gp ?_
 refine za (λc2=>?_) (λc=>iR (by omega) (aR hS))
 refine Gp ?_
 refine za (λc3=>?_) (λc=>iR (by omega) (aR hS))
 refine Gp ?_
 refine za (λc4=>?_) (λc=>iR (by omega) (aR hS))
 refine Gp ?_
 refine za (λc5=>?_) (λc=>iR (by omega) (aR hS))
 refine Gp ?_
 refine za (λc6=>?_) (λc=>iR (by omega) (aR hS))
 refine Gp ?_
 refine za (λc7=>?_) (λc=>iR (by omega) (aR hS))
 refine Gp ?_
 refine za (λc8=>?_) (λc=>iR (by omega) (aR hS))
 refine Gp ?_
 refine za (λc9=>?_) (λc=>iR (by omega) (aR hS))
 refine Gp ?_
 refine⟨_,⟨_,rfl,?_,rfl⟩,aR hS⟩
 rw[decide_eq_true_eq]
 exact⟨λc=>⟨c1,c2,c3,c4,c5,c6,c7,c8,c9,c⟩,λc=>c.2.2.2.2.2.2.2.2.2⟩
def vr(L:List Rq)(i t:Nat):Bool:=(L.take i).any λr=>decide (r.table=(t:Int)) && !r.done
theorem S'{L:List Rq}{i t:Nat}:vr L i t=true↔∃k,∃h:k<L.length,k<i/\L[k].table=(t:Int)/\L[k].done=false:=by
 unfold vr
 rw[List.any_eq_true]
 constructor
 ·rintro ⟨r,hr,hx⟩
  obtain⟨k,hk,rfl⟩:=List.mem_iff_getElem.1 hr
  rw[List.length_take]at hk
  refine⟨k,by omega,by omega,?_⟩
  simpa using hx
 ·rintro ⟨k,h,hk,h1,h2⟩
  refine⟨L[k],List.mem_iff_getElem.2 ⟨k,by rw[List.length_take];omega,by simp⟩,by simp[h1,h2]⟩
def wq(L:List Rq)(i:Nat):List Value:=(List.range 8).map λt=>.bool (vr L i t)
theorem S_(L:List Rq)(i:Nat){t:Nat}(h:t<8){o:Nat}(ho:o=t):(wq L i)[o]?=some (.bool (vr L i t)):=by
 subst ho;unfold wq;simp[h]
theorem a7o{L:List Rq}{i t:Nat}(hi:i<L.length)(ht:L[i].table=(t:Int))(h:vr L i t=false){o:Nat}(ho:o=t):(wq L i).set o (.bool !L[i].done)=wq L (i+1):=by
 subst ho
 unfold wq
 refine List.ext_getElem (by simp) λj h1 h2=>?_
 have hj:j<8:=by simpa using h2
 rw[List.getElem_set]
 have hs:∀t:Nat,vr L (i+1) t=(vr L i t || (decide (L[i].table=(t:Int)) && !L[i].done)):=λt=>by
  unfold vr
  rw[List.take_succ_eq_append_getElem hi,List.any_append];simp
 split
 ·rename_i e;subst e
  simp only[List.getElem_map,List.getElem_range]
  rw[hs,h,ht];simp
 ·rename_i e
  simp only[List.getElem_map,List.getElem_range]
  rw[hs,ht]
  have:¬((o:Int)=(j:Int)):=by omega
  simp[this]
theorem a7p(L:List Rq):wq L 0=[.bool false,.bool false,.bool false,.bool false,.bool false,.bool false,.bool false,.bool false]:=by
 simp[wq,vr,List.range,List.range.loop]
def wM(L:List Rq)(i:Nat):Int:=if i=0 then 0 else (L[i-1]?.map (·.at_)).getD 0
theorem Q3(H:bw)(v:Value)(L:List Rq)(hv:nR H v L)(hn:L.length<=140737488351232):
  SP 306 [v] [.mem H] (λu post=>∃q:Bool,u= .bool q/\(q=true↔kx L)/\post=[.mem H]):=by
 intro W F w hS;apply b7k;delta Mh aF a7 aW c_ b7 ai;(try simp only[app]at hS)
 have iR:∀{w:World},¬kx L->SL W (.mem H::F) w->∃post,(∃q:Bool,(.bool false:Value)= .bool q/\(q=true↔kx L)/\post=[.mem H])/\SL W (app post F) w:=λh hS=>
  ⟨_,⟨false,rfl,⟨λe=>(by cases e),λe=>absurd e h⟩,rfl⟩,hS⟩
 refine zJ hS ?_
 clear hS;intro ob w hS
 refine zo hv ?_
 rw[<- a7p L]at hS
 refine⟨λus w=>∃i:Nat,us=[.int .i64 (wM L i),.int .i64 i]/\i<=L.length/\(∀j,j<i->vE L j)/\SL W (.pt ob (wq L i) 428::.mem H::F) w,
  λus _=>match us with|[_,.int _ i]=>(L.length-i).toNat|_=>0,⟨0,rfl,by omega,λj h=>by omega,aR hS⟩,?_⟩
 clear hS
 rintro v4 v9 w ⟨i,cW,hi,iz,hS⟩
 cases cW
 refine bW (λh=>?_) (λh=>?_)
 ·have b3:i<L.length:=by omega
  have g9:∀{w:World},¬vE L i->SL W (.mem H::F) w->∃post,(∃q:Bool,(.bool false:Value)= .bool q/\(q=true↔kx L)/\post=[.mem H])/\SL W (app post F) w:=λh hS=>iR (λhp=>h (hp.2 i)) hS
  refine zS hS Xh lU hv (x:=L[i]) (by simp[b3]) b3 ?_
  refine zJ hS ?_
  clear hS;intro b w hS
  refine zD (vs:=kT L[i]) hS .hd rfl rfl (Ak _) ?_
  clear hS;intro w hS
  have mT:vE L i->uE i L[i]/\(∀h0:0<i,L[i-1].at_<=L[i].at_)/\∀k (hk:k<i),¬(L[k].table=L[i].table/\L[k].done=false):=λh=>h b3
  have PS:max (wM L i) 1<=L[i].at_↔1<=L[i].at_/\∀h0:0<i,L[i-1].at_<=L[i].at_:=by
   unfold wM
   by_cases h0:i=0
   ·rw[if_pos h0];exact⟨λe=>⟨by omega,λh=>by omega⟩,λe=>by have:=e.1;omega⟩
   ·rw[if_neg h0,List.getElem?_eq_getElem (by omega)]
    simp only[Option.map_some,Option.getD_some]
    exact⟨λe=>⟨by omega,λ_=>by omega⟩,λe=>by have:=e.1;have:=e.2 (by omega);omega⟩
  unfold kT at hS
  refine Gp ?_
  refine za (λc=>g9 (λhp=>by have:=(mT hp).1.1;omega) (aR hS)) (λc1=>?_)
  refine yj hS Xh rfl ?_
  refine Cc (a7n L[i] (wM L i)) ?_;clear hS
  rintro _ post ⟨q1,rfl,uy,rfl⟩ w hS
  (try simp only[app]at hS);refine Gp ?_
  refine zA (λhe=>g9 (λhp=>?_) (aR hS)) (λhe=>?_)
  ·have hp:=mT hp
   have h1:Fj L[i] (wM L i):=⟨hp.1.2.1,hp.1.2.2.1,hp.1.2.2.2.1,hp.1.2.2.2.2.1,PS.2 ⟨hp.1.2.2.2.2.2.1,hp.2.1⟩,hp.1.2.2.2.2.2.2.1,hp.1.2.2.2.2.2.2.2.1,hp.1.2.2.2.2.2.2.2.2.1,hp.1.2.2.2.2.2.2.2.2.2.1,hp.1.2.2.2.2.2.2.2.2.2.2⟩
   rw[uy.2 h1]at he;cases he
  ·have hQ:=uy.1 he
   have kG:=PS.1 hQ.2.2.2.2.1
   obtain⟨t,ht⟩:∃t:Nat,L[i].table=(t:Int):=⟨L[i].table.toNat,by have:=hQ.1;omega⟩
   have CA:t<8:=by have:=hQ.2.1;omega
   have xG:Value.int .i64 L[i].table= .int .i64 (t:Int):=by rw[ht]
   refine Gp ?_
   rw[xG]at hS ⊢
   refine TM CA (zX hS Xh (S_ L i CA (by omega)) ?_)
   refine y3 (λho=>g9 (λhp=>?_) (aR hS)) (λho=>?_)
   ·obtain⟨k,hk,Ci,h1,h2⟩:=S'.1 ho
    exact (mT hp).2.2 k Ci ⟨by rw[h1,ht],h2⟩
   ·refine Gn λw hS=>?_
    refine TM CA ?_
    refine Zb hS Xu (S_ L i CA (by omega)) rfl ?_
    clear hS;intro w hS
    rw[a7o b3 ht ho (by omega)]at hS
    refine Gp ?_
    have ea:wM L (i+1)=L[i].at_:=by
     unfold wM;rw[if_neg (by omega),Nat.add_sub_cancel,List.getElem?_eq_getElem b3];rfl
    refine⟨⟨i+1,by rw[ea],by omega,λj hj=>?_,aR hS⟩,by dsimp only;omega⟩
    by_cases e:j=i
    ·subst e
     refine λ_=>⟨⟨by omega,hQ.1,hQ.2.1,hQ.2.2.1,hQ.2.2.2.1,kG.1,hQ.2.2.2.2.2.1,hQ.2.2.2.2.2.2.1,hQ.2.2.2.2.2.2.2.1,hQ.2.2.2.2.2.2.2.2.1,hQ.2.2.2.2.2.2.2.2.2⟩,kG.2,λk hk hx=>?_⟩
     have:=S'.2 ⟨k,by omega,hk,by rw[hx.1,ht],hx.2⟩
     rw[ho]at this;cases this
    ·exact iz j (by omega)
 ·have mS:i=L.length:=by omega
  subst mS
  refine zo hv ?_
  refine Gp ?_
  refine⟨_,⟨_,rfl,?_,rfl⟩,aR hS⟩
  rw[decide_eq_true_eq]
  exact⟨λh=>⟨by omega,λj hj=>iz j hj hj⟩,λhp=>by have:=hp.1;omega⟩
theorem Zl(H:bw)(v:Value)(L:List Rq)(hv:nR H v L)(hn:L.length<=140737488351232):
  SP 256 [v] [.mem H] (λu post=>∃q:Bool,u= .bool q/\(q=true↔kx L)/\post=[.mem H]):=by
 intro W F w hS;apply b6k;unfold LC;(try simp only[app]at hS)
 refine Cc (Q3 H v L hv hn) ?_;clear hS
 rintro _ post ⟨q,rfl,hq,rfl⟩ w hS
 try simp only[app]at hS
 exact⟨_,⟨q,rfl,hq,rfl⟩,aR hS⟩
def tM(L:List Rq)(id:Int):Bool:=decide (1<=id/\id<=L.length) && (match L[(id-1).toNat]? with|some r=>!r.done|none=>false)
theorem bI8{a b:Int}{K:Value->Prop}(h:K (.int .i64 (IntKind.i64.wrap (a-b)))):zc .sub (.int .i64 a) (.int .i64 b) K:=⟨_,rfl,h⟩
theorem UE{n:Int}(h : -9223372036854775808<=n/\n<=9223372036854775807):IntKind.i64.wrap n=n:=IntWalk.i64_in _ h
theorem qQ(H:bw)(v:Value)(L:List Rq)(id:Int)(hv:nR H v L)(hn:L.length<=1000)(hid : -9223372036854775808<=id/\id<=9223372036854775807):
  SP 263 [v,.int .i64 id] [.mem H] (dW (.tuple #[.int .i64 (IntKind.i64.wrap (id-1)),.bool (tM L id)]) [.mem H]):=by
 intro W F w hS;apply b6r;delta LK aF aW ai;(try simp only[app]at hS)
 refine Gn λw hS=>?_
 refine bI8 ?_
 refine bW (λh1=>?_) (λh1=>?_)
 ·refine zo hv ?_
  refine bW (λh2=>?_) (λh2=>?_)
  ·obtain⟨j,rfl⟩:∃j:Nat,id=((j+1:Nat):Int):=⟨(id-1).toNat,by omega⟩
   have hj:j<L.length:=by omega
   have ej:((j+1:Nat):Int)-1=(j:Int):=by omega
   have hp:tM L ((j+1:Nat):Int) = !L[j].done:=by
    unfold tM
    rw[decide_eq_true (by omega),show (((j+1:Nat):Int)-1).toNat=j by omega,List.getElem?_eq_getElem hj];rfl
   rw[hp,UE (by omega),ej]
   refine Gp ?_
   rw[ej]
   have hd:=rS lU L j 6 L[j] (.bool L[j].done) (by simp[hj]) rfl
   refine ZB hv hj λb o hb=>zR (ZJ hS Xh (hb 6 _ (by decide) hd) ?_)
   refine Gp ?_
   refine ZJ hS Xh (hb 6 _ (by decide) hd) ?_
   exact⟨rfl,_,⟨rfl,rfl⟩,aR hS⟩
  ·have hp:tM L id=false:=by unfold tM;rw[decide_eq_false (by omega)];rfl
   rw[hp]
   exact eF hS
 ·have hp:tM L id=false:=by unfold tM;rw[decide_eq_false (by omega)];rfl
  rw[hp]
  exact eF hS
theorem yz(H:bw)(v:Value)(L:List Rq)(hv:nR H v L)(hn:L.length<=1000):
  SP 126 [v] [.mem H] (λu post=>post=[.ob (a_ u 125 7 L.length (L.map kT).flatten),.mem H]):=by
 exact Ob b3q rfl (by decide) hv (bFs L) (by omega) (by omega)
theorem YH(H:bw)(v:Value)(L:List Rq)(table weight at_:Int)(hv:nR H v L)(hn:L.length<=1000):
  SP 258 [v,.int .i64 table,.int .i64 weight,.int .i64 at_] [.mem H] (λu post=>Fq H u post (su L table weight at_)):=by
 intro W F w hS;apply b6m;delta LF c_ ai bI;(try simp only[app]at hS)
 refine Cc (yz H v L hv hn) ?_;clear hS
 rintro v1 post rfl w hS;(try simp only[app]at hS)
 refine zo hv ?_
 refine Gm λb w hS=>?_
 refine zx (n:=L.length) (m:=1) (cells:=(L.map kT).flatten) hS Xr (lP (cs:=kT ⟨((L.length+1:Nat):Int),table,weight,at_,0,0,false⟩) hS .hd rfl) rfl rfl (Ak _) (by omega) (by omega) ?_
 clear hS;intro v2 w hS
 rw[<- Gq]at hS
 obtain⟨H1,iw,sD,hS⟩:=zE (H:=H) (v:=v2) (n:=L.length+1) (sz:=7) (t:=125) (cells:=((L++[(⟨((L.length+1:Nat):Int),table,weight,at_,0,0,false⟩:Rq)]).map kT).flatten) hS Xp
 have hlen:(L++[(⟨((L.length+1:Nat):Int),table,weight,at_,0,0,false⟩:Rq)]).length=L.length+1:=by simp
 have sD:nR H1 v2 (L++[(⟨((L.length+1:Nat):Int),table,weight,at_,0,0,false⟩:Rq)]):=by unfold nR;rw[hlen];exact sD
 have hN:CQ L table weight at_=⟨((L.length+1:Nat):Int),table,weight,at_,0,0,false⟩:=rfl
 unfold su
 rw[hN]
 generalize PI:L++[(⟨((L.length+1:Nat):Int),table,weight,at_,0,0,false⟩:Rq)]=L2 at sD hlen ⊢
 refine Cc (Zl H1 v L (hv.mono iw) (by omega)) ?_;clear hS
 rintro _ post ⟨q1,rfl,uy,rfl⟩ w hS
 (try simp only[app]at hS);refine Gp ?_
 refine zA (λhe=>?_) (λhe=>?_)
 ·rw[if_neg λh=>by rw[uy.2 h.1]at he;cases he]
  exact⟨_,⟨H1,iw,rfl,rfl⟩,aR hS⟩
 ·skip
  refine Cc (Zl H1 v2 L2 sD (by omega)) ?_;clear hS
  rintro _ post ⟨q2,rfl,kI,rfl⟩ w hS
  (try simp only[app]at hS);refine Gp ?_
  refine zA (λDU=>?_) (λDU=>?_)
  ·rw[if_neg λh=>by rw[kI.2 h.2]at DU;cases DU]
   exact⟨_,⟨H1,iw,rfl,rfl⟩,aR hS⟩
  ·rw[if_pos ⟨uy.1 he,kI.1 DU⟩]
   exact⟨_,⟨H1,iw,rfl,v2,rfl,sD⟩,aR hS⟩
theorem a79{L:List Rq}{id:Int}(h:tM L id=true):∃j:Nat,∃hj:j<L.length,id=((j+1:Nat):Int)/\L[j].done=false:=by
 unfold tM at h
 rw[Bool.and_eq_true,decide_eq_true_eq]at h
 obtain⟨⟨h1,h2⟩,h3⟩:=h
 have hj:(id-1).toNat<L.length:=by omega
 rw[List.getElem?_eq_getElem hj]at h3
 exact⟨(id-1).toNat,hj,by omega,by simpa using h3⟩
theorem V8{L:List Rq}{id c:Int}{dn:Bool}(h:tM L id=false):pI L id c dn=none:=by
 unfold pI
 split
 ·rename_i hc
  have hj:(id-1).toNat<L.length:=by omega
  unfold tM at h
  rw[decide_eq_true hc.2,List.getElem?_eq_getElem hj]at h
  rw[List.getElem?_eq_getElem hj]
  simp only[Bool.true_and,Bool.not_eq_false']at h
  simp only[h,true_or,if_true]
 ·rfl
theorem IE{L:List Rq}{rest:List Value}{j i:Nat}(hj:j<L.length)(hi:i<7){v:Value}{y:Rq}(hy:(kT L[j]).set i v=kT y):((L.map kT).flatten++rest).set (0+j*7+i) v=((L.set j y).map kT).flatten++rest:=by
 rw[Nat.zero_add,List.set_append_left _ _ (by rw[mH lU];omega),Gl lU L j i hj y v hi hy]
theorem EO{L:List Rq}{rest:List Value}{j i:Nat}(hj:j<L.length){u:Value}(hu:(kT L[j])[i]?=some u):((L.map kT).flatten++rest)[0+j*7+i]?=some u:=by
 have h:=rS lU L j i L[j] u (List.getElem?_eq_getElem hj) hu
 rw[Nat.zero_add,List.getElem?_append_left (List.getElem?_eq_some_iff.1 h).1];exact h
theorem qc(H:bw)(v:Value)(L:List Rq)(id h_:Int)(dn:Bool)(hv:nR H v L)(hn:L.length<=1000)(hid : -9223372036854775808<=id/\id<=9223372036854775807):
  SP 201 [v,.int .i64 id,.int .i64 h_,.bool dn] [.mem H] (λu post=>Fq H u post (pI L id h_ dn)):=by
 intro W F w hS;apply b5d;delta KW aF a7 c_ ai bI;(try simp only[app]at hS)
 have iR:∀{w:World},pI L id h_ dn=none->SL W (.mem H::F) w->∃post,Fq H (.tuple #[.slice none 0 0,.bool false]) post (pI L id h_ dn)/\SL W (app post F) w:=λe hS=>⟨_,⟨H,bw.le_refl H,rfl,by rw[e]⟩,hS⟩
 refine Cg (qQ H v L id hv hn hid) λw hS=>?_
 refine Cc (Zl H v L hv (by omega)) ?_;clear hS
 rintro _ post ⟨q1,rfl,uy,rfl⟩ w hS
 (try simp only[app]at hS);refine Gp ?_
 refine zA (λhe=>iR (V7 λh=>by rw[uy.2 h.1]at he;cases he) (aR hS)) (λhe=>?_)
 have hM:=uy.1 he
 refine Gp ?_
 refine zA (λh=>iR (V8 h) (aR hS)) (λh1=>?_)
 obtain⟨j,hj,rfl,hd⟩:=a79 h1
 have ew:IntKind.i64.wrap (((j+1:Nat):Int)-1)=(j:Int):=by rw[UE (by omega)];omega
 rw[ew]
 have DT:=Oa hM hj h_ dn
 have b5:=(hM.2 j hj).1
 unfold uE at b5
 have hx:L[j]?=some L[j]:=List.getElem?_eq_getElem hj
 refine zH hS Xh lU hv hx hj (i:=4) rfl ?_
 refine Gp ?_
 refine za (λh=>iR (by rw[DT,if_pos (.inr (.inl h))]) (aR hS)) (λh4=>?_)
 refine Gp ?_
 refine za (λh=>iR (by rw[DT,if_pos (.inr (.inr (.inl h)))]) (aR hS)) (λh5=>?_)
 refine zH hS Xh lU hv hx hj (i:=5) rfl ?_
 refine Gp ?_
 refine za (λh=>iR (by rw[DT,if_pos (.inr (.inr (.inr h)))]) (aR hS)) (λh6=>?_)
 rw[DT,if_neg (by rw[hd];rintro (h|h|h|h);exact Bool.false_ne_true h;exact h4 h;exact h5 h;exact h6 h)]
 refine Cc (yz H v L hv hn) ?_;clear hS
 rintro v1 post rfl w hS;(try simp only[app]at hS)
 rcases a_.open hS with ⟨_,h0,_⟩|⟨ob,cap,rest,rfl,hc,hl,nc,hS⟩
 ·omega
 refine zB hj (zR (Zb hS Xu (EO hj (i:=4) rfl) rfl ?_))
 clear hS;intro w hS
 rw[IE hj (by decide) (y:={L[j] with h_:=h_}) rfl]at hS
 have uq:j<(L.set j {L[j] with h_:=h_}).length:=by rw[List.length_set];exact hj
 have e1:(L.set j {L[j] with h_:=h_})[j]={L[j] with h_:=h_}:=by simp
 refine zB hj (zR (Zb hS Xu (EO uq (i:=6) (u:=.bool L[j].done) (by rw[e1];rfl)) rfl ?_))
 clear hS;intro w hS
 rw[IE uq (by decide) (y:={L[j] with h_:=h_,done:=dn}) (by rw[e1];rfl),List.set_set]at hS
 have o5:j<(L.set j {L[j] with h_:=h_,done:=dn}).length:=by rw[List.length_set];exact hj
 have e2:(L.set j {L[j] with h_:=h_,done:=dn})[j]={L[j] with h_:=h_,done:=dn}:=by simp
 refine zB hj (zR (zX hS .hd (EO o5 (i:=5) (u:=.int .i64 L[j].chunks) (by rw[e2];rfl)) ?_))
 refine Gp ?_
 refine zB hj (zR (Zb hS Xu (EO o5 (i:=5) (u:=.int .i64 L[j].chunks) (by rw[e2];rfl)) rfl ?_))
 clear hS;intro w hS
 rw[IE o5 (by decide) (y:={L[j] with h_:=h_,chunks:=L[j].chunks+1,done:=dn}) (by rw[e2];rfl),List.set_set]at hS
 generalize PI:L.set j {L[j] with h_:=h_,chunks:=L[j].chunks+1,done:=dn}=L2 at *
 have hlen:L2.length=L.length:=by rw[<- PI,List.length_set]
 have hS:=a_.mk (n:=L2.length) (cap:=cap) (sz:=7) (rest:=rest) (by omega) (mH lU L2) (by rw[hlen];exact nc) hS
 obtain⟨H1,iw,sD,hS⟩:=zE (H:=H) (v:=.slice (some ⟨ob,0,none⟩) L2.length cap) (n:=L2.length) (sz:=7) (t:=125) (cells:=(L2.map kT).flatten) hS Xp
 exact⟨_,⟨H1,iw,rfl,_,rfl,by rw[<- hlen];exact sD⟩,aR hS⟩
structure oM where
 tables:Int
 late:Int
 size:Int
 queue:Int
 chunk:Int
 batch:Int
 base:Int
 lG:Int
 CJ:Int
 every:Int
def rR(c:oM):List Value:=[.int .i64 c.tables,.int .i64 c.late,.int .i64 c.size,.int .i64 c.queue,.int .i64 c.chunk,.int .i64 c.batch,.int .i64 c.base,.int .i64 c.lG,.int .i64 c.CJ,.int .i64 c.every]
theorem WM(c:oM):∀v∈rR c,v.oneCell'=true:=by simp[rR,Value.oneCell']
def uT(j:Nat):Int:=([64,128,256,1024]:List Int)[j]!
theorem V0{j:Nat}(h:j<4):([.int .i64 64,.int .i64 128,.int .i64 256,.int .i64 1024]:List Value)[0+j*1]?=some (.int .i64 (uT j)):=by
 match j,h with
 | 0,_=>rfl
 | 1,_=>rfl
 | 2,_=>rfl
 | 3,_=>rfl
theorem V1{j:Nat}(h:j<4):64<=uT j/\uT j<=1024:=by
 match j,h with
 | 0,_=>decide
 | 1,_=>decide
 | 2,_=>decide
 | 3,_=>decide
def BD(c:oM):oM:=
 ⟨1+(md c.tables 4:Int),(md c.late (2 ^ (1+md c.tables 4)):Int),uT (md c.size 4),1+(md c.queue 5:Int),1+(md c.chunk 4:Int),1+(md c.batch 4:Int),1+(md c.base 4:Int),1+(md c.base 4:Int)+(md c.lG 12:Int),(md c.CJ 4:Int),1+(md c.every 8:Int)⟩
theorem Qn{a:Int}{k:IntKind}{n:Nat}{K:Value->Prop}(hn:n<=60)(hr : -9223372036854775808<=a*2 ^ n/\a*2 ^ n<=9223372036854775807)(h:K (.int .i64 (a*2 ^ n))):zc .shl (.int .i64 a) (.int k (n:Int)) K:=by
 refine⟨.int .i64 (a*2 ^ n),?_,h⟩
 have He:min n 64=n:=Nat.min_eq_left (by omega)
 show (if ((n:Nat):Int)<0 then none else some (Value.int .i64 (IntKind.i64.wrap (a*2 ^ (min ((n:Nat):Int).toNat 64)))))=_
 rw[if_neg (by omega),Int.toNat_natCast,He,IntWalk.i64_in _ hr]
theorem TJ{j:IntKind}{n:Nat}{K:Value->Prop}(hr:n<=9223372036854775807)(h:K (.int .u64 (n:Int))):zG .u64 (.int j (n:Int)) K:=zL (by rw[show IntKind.u64.wrap (n:Int)=n by rw[IntKind.wrap_u64];omega];exact h)
def mz(v n:Int):Int:=(md v n.toNat:Int)
theorem aWw(v n:Int)(h:0<n/\n<=9223372036854775807):SP 16 [.int .i64 v,.int .i64 n] [] (dW (.int .i64 (mz v n)) []):=by
 have:=Zm v n.toNat (by omega) (by omega)
 rw[show ((n.toNat:Nat):Int)=n by omega]at this
 exact this
theorem bIh{b o len cap sz:Nat}{k:IntKind}{j:Int}{K:Value->Prop}(h0:0<=j)(hj:j<len)(h:K (.pointer (some ⟨b,o+j.toNat*sz,none⟩))):ze sz (.slice (some ⟨b,o,none⟩) len cap) (.int k j) K:=by
 obtain⟨m,rfl⟩:∃m:Nat,j=m:=⟨j.toNat,by omega⟩
 rw[Int.toNat_natCast]at h
 exact zB (by omega) h
theorem VZ{j:Int}(h0:0<=j)(h:j<4):([.int .i64 64,.int .i64 128,.int .i64 256,.int .i64 1024]:List Value)[0+j.toNat*1]?=some (.int .i64 (uT j.toNat)):=V0 (by omega)
set_option maxHeartbeats 4000000 in
theorem Y0(c:oM):SP 50 [agg (rR c)] [] (dW (agg (rR (BD c))) []):=by
 intro W F w hS;apply b8p;delta MR a7 aW ai iG;(try simp only[app]at hS)
 refine zK hS λcb w hS=>?_
 unfold rR at hS
 refine Gb λxb w hS=>?_
 obtain⟨ct,cl,cs,cq,cc,oh,pH,cm,cj,ce⟩:=c
 simp only at hS
 have h1:=nh ct 4 (by decide)
 have h2:=nh cs 4 (by decide)
 have h3:=nh cq 5 (by decide)
 have h4:=nh cc 4 (by decide)
 have h5:=nh oh 4 (by decide)
 have h6:=nh pH 4 (by decide)
 have h7:=nh cm 12 (by decide)
 have h8:=nh cj 4 (by decide)
 have h9:=nh ce 8 (by decide)
 have g1:0<=mz ct 4/\mz ct 4<4:=⟨Int.natCast_nonneg _,by show (md ct 4:Int)<4;omega⟩
 have g2:0<=mz cs 4:=Int.natCast_nonneg _
 have Pf:mz cs 4<((4:Nat):Int):=by show (md cs 4:Int)<4;omega
 have Xo:mz cs 4<4:=Pf
 have g3:0<=mz cq 5/\mz cq 5<5:=⟨Int.natCast_nonneg _,by show (md cq 5:Int)<5;omega⟩
 have g4:0<=mz cc 4/\mz cc 4<4:=⟨Int.natCast_nonneg _,by show (md cc 4:Int)<4;omega⟩
 have g5:0<=mz oh 4/\mz oh 4<4:=⟨Int.natCast_nonneg _,by show (md oh 4:Int)<4;omega⟩
 refine⟨λus w=>∃yb:Nat,us=[.pointer (some ⟨yb,0,none⟩)]/\SL W (.pt yb [.int .i64 (1+mz ct 4),.int .i64 0,.int .i64 (uT (mz cs 4).toNat),.int .i64 (1+mz cq 5),.int .i64 (1+mz cc 4),.int .i64 (1+mz oh 4),.int .i64 0,.int .i64 0,.int .i64 0,.int .i64 0] 87 ::
   .pt xb [.int .i64 0,.int .i64 0,.int .i64 0,.int .i64 0,.int .i64 0,.int .i64 0,.int .i64 0,.int .i64 0,.int .i64 0,.int .i64 0] 87::.pt cb [.int .i64 ct,.int .i64 cl,.int .i64 cs,.int .i64 cq,.int .i64 cc,.int .i64 oh,.int .i64 pH,.int .i64 cm,.int .i64 cj,.int .i64 ce] 87::F) w,?_,?_⟩
 ·repeat' (first
   | refine Gp ?_
   | refine Gw λw hS=>?_
   | refine Gb λb w hS=>?_
   | ((with_reducible refine yI (aWw _ _ (by decide)) hS (.nil) ?_);clear hS;(rintro v post ⟨rfl,rfl⟩ w hS);(try simp only[app]at hS))
   | (with_reducible refine bIh (by assumption) (by assumption) ?_)
   | (with_reducible refine zX hS (t:=3) Xh (VZ (by assumption) (by assumption)) ?_)
   | with_reducible refine And.intro ?_ ?_
   | exact⟨_,rfl,aR hS⟩)
 ·clear hS
  rintro _ w ⟨yb,cW,hS⟩
  cases cW
  clear g1 g2 Pf Xo g3 g4 g5
  have hS:SL W (.pt yb [.int .i64 (1+(md ct 4:Int)),.int .i64 0,.int .i64 (uT (md cs 4)),.int .i64 (1+(md cq 5:Int)),.int .i64 (1+(md cc 4:Int)),.int .i64 (1+(md oh 4:Int)),.int .i64 0,.int .i64 0,.int .i64 0,.int .i64 0] 87::_) w:=hS
  refine Gp ?_
  rw[show (1:Int)+(md ct 4:Int)=((1+md ct 4:Nat):Int) by omega]at hS ⊢
  refine TJ (by omega) ?_
  have hp:2 ^ (1+md ct 4)<=16:=Nat.pow_le_pow_right (by decide) (show 1+md ct 4<=4 by omega)
  have D4:0<2 ^ (1+md ct 4):=Nat.pow_pos (by decide)
  have RE:(1:Int)*2 ^ (1+md ct 4)=((2 ^ (1+md ct 4):Nat):Int):=by simp
  refine Qn (by omega) (by rw[RE];omega) ?_
  rw[RE]
  have uw:=nh cl (2 ^ (1+md ct 4)) D4
  have e:BD ⟨ct,cl,cs,cq,cc,oh,pH,cm,cj,ce⟩=⟨((1+md ct 4:Nat):Int),(md cl (2 ^ (1+md ct 4)):Int),uT (md cs 4),1+(md cq 5:Int),1+(md cc 4:Int),1+(md oh 4:Int),1+(md pH 4:Int),1+(md pH 4:Int)+(md cm 12:Int),(md cj 4:Int),1+(md ce 8:Int)⟩:=by
   unfold BD
   simp only
   rw[show (1:Int)+(md ct 4:Int)=((1+md ct 4:Nat):Int) by omega]
  rw[e]
  generalize hP:2 ^ (1+md ct 4)=P at *
  refine Cg (Zm cl P D4 (by omega)) λw hS=>?_
  refine Cg (yh pH 4 (by decide) (by decide)) λw hS=>?_
  refine Cg (yh cm 12 (by decide) (by decide)) λw hS=>?_
  refine Cg (yh cj 4 (by decide) (by decide)) λw hS=>?_
  refine Cg (yh ce 8 (by decide) (by decide)) λw hS=>?_
  (exact eF hS)
theorem aIj{P:Program}{T:List Bool}{f g:FuncId}{sz:Nat}{α:Type}{enc:α->List Value}(hn:∀x,(enc x).length=sz)(hT:T.getD g false=true){cap:Array Value}{c:Chunk}{q:α->Bool}{H:bw}
  (vc:∀v0 v1 w R,Df P T sz v0 v1 w R->zU P f [v0,v1] w R) (one:∀x,Spec P g ([agg (enc x)]++cap.toList) [c] (dW (.bool (q x)) [c]))
  (v:Value) (xs:List α) (hv:gi H sz v xs.length (xs.map enc).flatten) (hl:xs.length<=9223372036854775806) :
  Spec P f [v,.func (.func g) #[] cap] [c,.mem H] (dW (.int .i64 (oy (xs.findIdx? q))) [c,.mem H]):=by
 intro W F w hS;apply vc;unfold Df
 have hS:SL W (c::.mem H::F) w:=hS
 refine zo hv ?_
 refine⟨λvs w=>∃k:Nat,vs=[.int .i64 k]/\k<=xs.length/\(∀j (h:j<xs.length),j<k->q xs[j]=false)/\SL W (c::.mem H::F) w,λvs _=>match vs with|[.int _ k]=>(xs.length-k).toNat|_=>0,⟨0,rfl,by omega,λj h hj=>by omega,hS⟩,?_⟩
 clear hS
 rintro v8 w ⟨k,hv,hk,hq,hS⟩
 cases hv
 refine bW (λh=>?_) (λh=>?_)
 ·have lV:k<xs.length:=by omega
  refine zS hS Xh hn ‹_› (x:=xs[k]) (by simp[lV]) lV ?_
  refine QE (args':=[agg (enc xs[k])]++cap.toList) hT (one xs[k]) (by simp) hS Xp ?_
  clear hS
  rintro _ post ⟨rfl,rfl⟩ w hS
  try simp only[app]at hS
  cases Cs:q xs[k] with
  | true=>
   refine zw ?_
   have e:xs.findIdx? q=some k:=List.findIdx?_eq_some_iff_getElem.2 ⟨lV,Cs,λj hj=>by rw[hq j (by omega) hj];decide⟩
   rw[e]
   exact⟨_,⟨rfl,rfl⟩,hS⟩
  | false=>
   refine zq ?_
   refine Gp ?_
   refine⟨⟨k+1,rfl,by omega,λj h hj=>?_,hS⟩,by dsimp only;omega⟩
   rcases Nat.lt_or_ge j k with Ce|Ce
   ·exact hq j h Ce
   ·obtain rfl:j=k:=by omega
    exact Cs
 ·have e:xs.findIdx? q=none:=List.findIdx?_eq_none_iff.2 λx hx=>by
   obtain⟨j,hj,rfl⟩:=List.mem_iff_getElem.1 hx
   exact hq j hj (by omega)
  rw[e]
  exact⟨_,⟨rfl,rfl⟩,hS⟩
structure g7.Ok(m:g7):Prop where
 reqs:kx m.reqs
 t1:1<=m.tables/\m.tables<=8
 rows:m.b8.rows.length<=1000
 mZ:0<=m.at_/\m.at_<=1099511627776
abbrev A0(m:g7)(wp:Nat)(rv:Value):List Value:=[dF wp,.int .i64 m.tables,.int .i64 m.late,.int .i64 m.at_,rv]
def e_(mp wp:Nat)(H:bw)(m:g7):zC:=mX λrv:Value=>zQ (nR H rv m.reqs) [.pt mp (A0 m wp rv) 111,.ob (iC wp m.b8)]
section
variable {W w:World} {l F:List Chunk} {mp wp:Nat} {H H':bw}
theorem e_.iff{m:g7}:SL W (.ob (e_ mp wp H m)::l) w↔∃rv,nR H rv m.reqs/\SL W (.pt mp (A0 m wp rv) 111::.ob (iC wp m.b8)::l) w:=by
 unfold e_
 simp only[SL.ex,SL.fact,List.cons_append,List.nil_append]
theorem e_.put(m:g7)(rv:Value)(hr:nR H rv m.reqs)(hS:SL W l w)(p:ky [.pt mp (A0 m wp rv) 111,.ob (iC wp m.b8)] l F):SL W (.ob (e_ mp wp H m)::F) w:=e_.iff.2 ⟨rv,hr,hS.pick p⟩
theorem e_.lh{m:g7}(hh:H.le H')(hS:SL W l w)(r:kL (.ob (e_ mp wp H m)) l F):SL W (.ob (e_ mp wp H' m)::F) w:=by
 obtain⟨rv,h1,h2⟩:=e_.iff.1 (hS.perm r.perm)
 exact e_.iff.2 ⟨rv,h1.mono hh,h2⟩
end
theorem Yc(H:bw)(v:Value)(L:List Rq)(tables aI:Int)(hv:nR H v L)(hn:L.length<=1000):
  SP 193 [v,.int .i64 tables,.int .i64 aI] [.mem H] (λu post=>∃q:Bool,u= .bool q/\(q=true↔kx L/\∀r∈L,r.table<tables/\r.at_<=aI)/\post=[.mem H]):=by
 intro W F w hS;apply b45;delta KN aF a7 b7 ai;(try simp only[app]at hS)
 refine zo hv ?_
 refine⟨λus w=>∃i:Nat,us=[.int .i64 i]/\i<=L.length/\(∀j (h:j<L.length),j<i->L[j].table<tables/\L[j].at_<=aI)/\SL W (.mem H::F) w,λus _=>match us with|[.int _ i]=>(L.length-i).toNat|_=>0,⟨0,rfl,by omega,λj h hj=>by omega,hS⟩,?_⟩
 clear hS
 rintro v11 w ⟨i,cW,hi,iz,hS⟩
 cases cW
 refine bW (λh=>?_) (λh=>?_)
 ·have b3:i<L.length:=by omega
  have hx:L[i]?=some L[i]:=List.getElem?_eq_getElem b3
  have hm:=List.getElem_mem b3
  refine zS hS Xh lU hv hx b3 ?_
  have o7:L[i].table<tables/\L[i].at_<=aI->∀j (h:j<L.length),j<i+1->L[j].table<tables/\L[j].at_<=aI:=λh j hj k9=>by
   rcases Nat.lt_or_ge j i with h2|h2
   ·exact iz j hj h2
   ·obtain rfl:j=i:=by omega
    exact h
  generalize L[i]=r at *
  refine Gb λxb w hS=>?_
  refine za (λh2=>⟨_,⟨false,rfl,⟨(λe=>by cases e),λx=>by have:=(x.2 r hm).1;omega⟩,rfl⟩,aR hS⟩) (λh2=>?_)
  refine Gp ?_
  refine za (λh3=>⟨_,⟨false,rfl,⟨(λe=>by cases e),λx=>by have:=(x.2 r hm).2;omega⟩,rfl⟩,aR hS⟩) (λh3=>?_)
  refine Gp ?_
  exact⟨⟨i+1,rfl,by omega,o7 ⟨by omega,by omega⟩,aR hS⟩,by dsimp only;omega⟩
 ·refine Cc (Zl H v L hv (by omega)) ?_;clear hS
  rintro _ post ⟨q,rfl,hq,rfl⟩ w hS
  try simp only[app]at hS
  refine⟨_,⟨q,rfl,hq.trans ⟨λx=>⟨x,λr hr=>?_⟩,λx=>x.1⟩,rfl⟩,hS⟩
  obtain⟨j,hj,rfl⟩:=List.getElem_of_mem hr
  exact iz j hj (by omega)
def Js(H:bw)(tables late chunk aI:Int)(L:List Rq)(v:Value)(post:List Chunk):Prop:=
 (sM tables late chunk aI L/\(∃e:Int,e≠0/\v= .tuple #[.pointer none,.int .i64 e])/\post=[.mem H]) \/
 (¬sM tables late chunk aI L/\∃(mp wp:Nat) (H':bw),H.le H'/\v= .tuple #[dF mp,.int .i64 0]/\post=[.ob (e_ mp wp H' ⟨tables,late,aI,L,ko chunk⟩),.mem H'])
theorem Q7(H:bw)(tables late chunk aI:Int)(v:Value)(L:List Rq)(hv:nR H v L)(hn:L.length<=1000):
  SP 113 [.int .i64 tables,.int .i64 late,.int .i64 chunk,.int .i64 aI,v] [.mem H] (Js H tables late chunk aI L):=by
 intro W F w hS;apply b3c;delta JN aF c_ ai eI bI;(try simp only[app]at hS)
 have g9:∀{e:Int} {w:World},e≠0->sM tables late chunk aI L->SL W (.mem H::F) w->∃post,Js H tables late chunk aI L (.tuple #[.pointer none,.int .i64 e]) post/\SL W (app post F) w:=λhe h hS=>⟨_,.inl ⟨h,⟨_,he,rfl⟩,rfl⟩,hS⟩
 refine Gp ?_
 refine za (λh=>g9 (by decide) (.inl h) hS) (λh1=>?_)
 refine Gp ?_
 refine za (λh=>g9 (by decide) (.inr (.inl h)) hS) (λh2=>?_)
 refine Gp ?_
 refine za (λh=>g9 (by decide) (.inr (.inr (.inl h))) hS) (λh3=>?_)
 obtain⟨n,rfl⟩:∃n:Nat,tables=n:=⟨tables.toNat,by omega⟩
 have aww:(2:Int) ^ n<=256:=by
  have:n<=8:=by omega
  match n,this with
  | 0,_=>decide
  | 1,_=>decide
  | 2,_=>decide
  | 3,_=>decide
  | 4,_=>decide
  | 5,_=>decide
  | 6,_=>decide
  | 7,_=>decide
  | 8,_=>decide
 have xC:(0:Int)<2 ^ n:=Int.pow_pos (by decide)
 refine Qn (by omega) (by omega) ?_
 rw[Int.one_mul]
 refine Gp ?_
 refine za (λh=>g9 (by decide) (.inr (.inr (.inr (.inl (by rw[Int.toNat_natCast];exact h))))) hS) (λh4=>?_)
 refine Gp ?_
 refine za (λh=>g9 (by decide) (.inr (.inr (.inr (.inr (.inl h))))) hS) (λh5=>?_)
 refine Gp ?_
 refine za (λh=>g9 (by decide) (.inr (.inr (.inr (.inr (.inr (.inl h)))))) hS) (λh6=>?_)
 refine Cc (Yc H v L n aI hv hn) ?_;clear hS
 rintro _ post ⟨q,rfl,hq,rfl⟩ w hS
 (try simp only[app]at hS);refine Gp ?_
 refine zA (λhe=>?_) (λhe=>?_)
 ·refine g9 (by decide) (.inr (.inr (.inr (.inr (.inr (.inr (.inr (.inr ?_)))))))) hS
  by_cases hm:kx L
  ·right
   refine Classical.byContradiction λhx=>?_
   have:q=true:=hq.2 ⟨hm,λr hr=>by
    refine⟨Int.not_le.1 λh=>hx ⟨r,hr,.inl h⟩,Int.not_lt.1 λh=>hx ⟨r,hr,.inr h⟩⟩⟩
   rw[he]at this;cases this
  ·exact .inl hm
 obtain⟨hm,iz⟩:=hq.1 he
 refine Cc (b9z chunk) ?_;clear hS
 rintro r post kI w hS
 rcases kI with ⟨h7,rfl,rfl⟩|⟨h7,wp,rfl,rfl⟩
 ·(try simp only[app]at hS);refine Gp ?_
  refine za (λ_=>?_) (λh=>absurd (by decide) h)
  exact g9 (by decide) (.inr (.inr (.inr (.inr (.inr (.inr (by omega))))))) hS
 ·(try simp only[app]at hS);refine Gp ?_
  refine za (λh=>absurd rfl h) (λ_=>?_)
  refine yx (cells:=[dF wp]) (by simp[lx,Value.cells,dF]) ?_
  refine Cc (yz H v L hv hn) ?_;clear hS
  rintro u post rfl w hS
  try simp only[app]at hS
  obtain⟨H1,iw,hR,hS⟩:=zE (H:=H) (v:=u) hS Xp
  have hu:u.oneCell'=true:=hR.one
  refine yx (cells:=[dF wp,.int .i64 n,.int .i64 late,.int .i64 aI,u]) (by simp[lx,show ∀n,(Value.int .i64 n).cells = #[.int .i64 n] from λ_=>rfl,show ∀v,(Value.agg #[v]).cells = #[v] from λ_=>rfl,vq hu]) ?_
  refine⟨_,rfl,zJ hS λmp w hS=>?_⟩
  have b5:¬sM n late chunk aI L:=by
   rintro (h|h|h|h|h|h|h|h|h|⟨r,hr,h⟩)
   ·exact h1 h
   ·exact h2 h
   ·exact h3 h
   ·rw[Int.toNat_natCast]at h;exact h4 h
   ·exact h5 h
   ·exact h6 h
   ·omega
   ·omega
   ·exact h hm
   ·have:=iz r hr;omega
  have hS:=e_.put (wp:=wp) ⟨n,late,aI,L,ko chunk⟩ u hR hS Xp
  exact⟨_,.inr ⟨b5,mp,wp,H1,iw,rfl,rfl⟩,aR hS⟩
section
variable (mp wp:Nat) (H:bw) (m:g7)
theorem Y9:SP 44 [dF mp] [.ob (e_ mp wp H m)] (dW (.int .i64 m.at_) [.ob (e_ mp wp H m)]):=by
 intro W F w hS;apply b8j;delta ML bF;(try simp only[app]at hS)
 obtain⟨rv,hr,hS⟩:=e_.iff.1 hS
 refine Gp ?_
 exact⟨_,⟨rfl,rfl⟩,SL.b4 (e_.put m rv hr hS Xp) Xi⟩
theorem yE(hn:m.reqs.length<=1000):SP 49 [dF mp] [.ob (e_ mp wp H m),.mem H] (λu post=>post=[.ob (a_ u 125 7 m.reqs.length (m.reqs.map kT).flatten),.ob (e_ mp wp H m),.mem H]):=by
 intro W F w hS;apply b8o;delta MQ bF;(try simp only[app]at hS)
 obtain⟨rv,hr,hS⟩:=e_.iff.1 hS
 refine Gp ?_
 refine Cc (yz H rv m.reqs hr hn) ?_;clear hS
 rintro u post rfl w hS
 try simp only[app]at hS
 exact⟨_,rfl,SL.b4 (e_.put m rv hr hS Xp) Xi⟩
theorem Yn:SP 47 [agg [dF wp]] [] (dW (dF wp) []):=by
 intro W F w hS;apply b8m;delta MO a7;(try simp only[app]at hS)
 refine zK hS λxb w hS=>?_
 refine Gp ?_
 exact eF hS
theorem ZH(k:ik)(x:oP):SP 53 [agg [dF wp],agg (iU x)] [.ob (iC wp k)] (dW (.bool (k.waits x.kind x.mark)) [.ob (iC wp k)]):=by
 intro W F w hS;apply b8q;delta MT a7;(try simp only[app]at hS)
 refine zK hS λxb w hS=>?_
 refine zK hS λyb w hS=>?_
 refine Gp ?_
 refine Cg (qC wp k x) λw hS=>?_
 exact eF hS
theorem QN(b:Nat)(t:Int)(r:Rq):SP 260 ([agg (kT r)]++(#[dF b]:Array Value).toList) [.pt b [.int .i64 t] 3] (dW (.bool (decide (r.table=t))) [.pt b [.int .i64 t] 3]):=by
 intro W F w hS;apply b6o;delta LH a7;(try simp only[app]at hS)
 refine zK hS λxb w hS=>?_
 unfold kT at hS
 refine Gp ?_
 exact eF hS
theorem Vd{α:Type}{l:List α}{q:α->Bool}:decide (0<=oy (l.findIdx? q))=l.any q:=by
 cases h:l.findIdx? q with
 | none=>
  have:=List.findIdx?_eq_none_iff.1 h
  rw[show l.any q=false by rw[List.any_eq_false];exact λx hx=>by rw[this x hx];decide];rfl
 | some i=>
  obtain⟨hi,hk,_⟩:=List.findIdx?_eq_some_iff_getElem.1 h
  rw[show l.any q=true from List.any_eq_true.2 ⟨_,List.getElem_mem hi,hk⟩]
  exact decide_eq_true (by simp only[oy];omega)
theorem Ya(hn:m.reqs.length<=1000)(t:Int):SP 198 [dF mp,.int .i64 t] [.ob (e_ mp wp H m),.mem H] (dW (.bool (m.captured t)) [.ob (e_ mp wp H m),.mem H]):=by
 intro W F w hS;apply b5a;delta KT aF bF b7 ai;(try simp only[app]at hS)
 obtain⟨rv,hr,hS⟩:=e_.iff.1 hS
 unfold g7.captured
 refine⟨rfl,zJ hS λb w hS=>?_⟩
 refine Gn λw hS=>?_
 refine za (λh=>?_) (λh1=>?_)
 ·rw[decide_eq_false (by omega),Bool.false_and]
  exact⟨_,⟨rfl,rfl⟩,SL.b4 (e_.put m rv hr hS Xp) Xi⟩
 refine bW (λh=>?_) (λh2=>?_)
 ·rw[decide_eq_false (by omega),Bool.false_and]
  exact⟨_,⟨rfl,rfl⟩,SL.b4 (e_.put m rv hr hS Xp) Xi⟩
 rw[decide_eq_true (show 0<=t/\t<m.tables by omega),Bool.true_and]
 refine Gn λw hS=>?_
 refine bFy (by omega) ?_
 refine bW (λh=>?_) (λh3=>?_)
 ·rw[decide_eq_true h,Bool.true_or]
  exact⟨_,⟨rfl,rfl⟩,SL.b4 (e_.put m rv hr hS Xp) Xi⟩
 rw[decide_eq_false h3,Bool.false_or]
 refine Gp ?_
 have hC:SP 259 [rv,.func (.func 260) #[] #[dF b]] [.pt b [.int .i64 t] 3,.mem H] (dW (.bool (m.reqs.any λr=>decide (r.table=t))) [.pt b [.int .i64 t] 3,.mem H]):=by
  intro W F w hS;apply b6n;delta LG ai;(try simp only[app]at hS)
  refine Cg (aIj lU rfl (λv0 v1 w R h=>b7p v0 v1 w R h) (λr=>QN b t r) rv m.reqs hr (by omega)) λw hS=>?_
  rw[Vd]
  exact⟨_,⟨rfl,rfl⟩,hS⟩
 refine Cg (hC) λw hS=>?_
 exact⟨_,⟨rfl,rfl⟩,SL.b4 (e_.put m rv hr hS Xp) Xi⟩
end
abbrev tS(v:Value)(l:List uJ):Chunk:=.ob (a_ v 295 7 l.length (l.map wZ).flatten)
abbrev Fk(v:Value)(l:List pd):Chunk:=.ob (a_ v 123 5 l.length (l.map sy).flatten)
theorem YD(mp wp:Nat)(H:bw)(m:g7)(hm:m.Ok)(s:ByteArray)(hs:s.size<=1000)(aI:Int):
  SP 197 [dF mp,.string s,.int .i64 aI] [.ob (e_ mp wp H m),.mem H] (λv post=>∃H',H.le H'/\post=[tS v (m.accept s aI).2,.ob (e_ mp wp H' {m with reqs:=(m.accept s aI).1}),.mem H']):=by
 intro W F w hS;apply b49;delta KR aF bF a7 fI c_ ai bI;(try simp only[app]at hS)
 have D9:=hm.reqs.1
 have iR:∀{w:World},m.accept s aI=(m.reqs,[])->SL W (.ob (e_ mp wp H m)::.mem H::F) w->∃post,(∃H',H.le H'/\post=[tS (.slice none 0 0) (m.accept s aI).2,.ob (e_ mp wp H' {m with reqs:=(m.accept s aI).1}),.mem H'])/\SL W (app post F) w:=λe hS=>by
  rw[e]
  have hS:SL W (tS (.slice none 0 0) []::.ob (e_ mp wp H m)::.mem H::F) _:=a_.nil hS
  exact⟨_,⟨H,bw.le_refl H,rfl⟩,hS⟩
 refine Cc (qP s (by omega)) ?_;clear hS
 rintro _ post ⟨rfl,rfl⟩ w hS
 try simp only[app]at hS
 unfold TY
 cases hp:A5 s with
 | none=>
  simp only[Option.getD_none,Option.isSome_none]
  refine Gm λb w hS=>?_
  refine zw ?_
  exact iR (by unfold g7.accept;rw[hp]) (aR hS)
 | some g=>
  obtain⟨t,wt⟩:=g
  simp only[Option.getD_some,Option.isSome_some]
  refine Gm λb w hS=>?_
  refine zq ?_
  obtain⟨rv,hr,hS⟩:=e_.iff.1 (SL.b4 hS (t:=.ob (e_ mp wp H m)::.pt b [.int .i64 t,.int .i64 wt] 351::.mem H::F) Xi)
  refine bW (λh=>?_) (λh1=>?_)
  ·exact iR (by unfold g7.accept;rw[hp];simp only;rw[if_pos h]) (SL.b4 (e_.put m rv hr hS Xp) Xi)
  refine Gn λw hS=>?_
  have Ax:m.accept s aI=match su m.reqs t wt aI with
   | none=>(m.reqs,[])
   | some L=>(L,[⟨1,L.length,t,wt,aI,0,false⟩]):=by
   unfold g7.accept;rw[hp];simp only;rw[if_neg h1];rfl
  refine Cc (YH H rv m.reqs t wt aI hr (by omega)) ?_;clear hS
  rintro u post ⟨H1,iw,rfl,hq⟩ w hS
  try simp only[app]at hS
  cases ha:su m.reqs t wt aI with
  | none=>
   rw[ha]at hq Ax
   subst hq
   refine Gp ?_
   refine zw ?_
   have hS:=e_.put m rv (hr.mono iw) hS Xp
   rw[Ax]
   have hS:SL W (tS (.slice none 0 0) []::.ob (e_ mp wp H1 m)::_) _:=a_.nil hS
   exact⟨_,⟨H1,iw,rfl⟩,aR hS⟩
  | some L=>
   rw[ha]at hq Ax
   obtain⟨x,rfl,hx⟩:=hq
   have ox:x.oneCell'=true:=hx.one
   refine Gp ?_
   refine zq ?_
   refine Gn λw hS=>?_
   refine zo hx ?_
   refine Gm λnb w hS=>?_
   rw[Ax]
   have hS:=e_.put (mp:=mp) (wp:=wp) {m with reqs:=L} x hx hS Xp
   have hS:SL W (tS (.slice (some ⟨nb,0,none⟩) 1 1) [⟨1,L.length,t,wt,aI,0,false⟩]::.ob (e_ mp wp H1 {m with reqs:=L})::.mem H1::F) w:=a_.full (sz:=7) rfl (SL.b4 hS (t:=.pt nb [.int .i64 1,.int .i64 L.length,.int .i64 t,.int .i64 wt,.int .i64 aI,.int .i64 0,.bool false] 295::.ob (e_ mp wp H1 {m with reqs:=L})::.mem H1::F) Xi)
   exact⟨_,⟨H1,iw,rfl⟩,aR hS⟩
theorem NF(aI:Int):∀(l:List ByteArray) (m:g7) (s:ByteArray),m.j1 aI (l++[s])=({(m.j1 aI l).1 with reqs:=((m.j1 aI l).1.accept s aI).1},(m.j1 aI l).2++((m.j1 aI l).1.accept s aI).2)
 | [],m,s=>by simp[g7.j1]
 | x::l,m,s=>by
  show (let r:=m.accept x aI;let y:=g7.j1 {m with reqs:=r.1} aI (l++[s]);(y.1,r.2++y.2))=_
  simp only
  rw[NF aI l]
  simp[g7.j1,List.append_assoc]
theorem NC{m:g7}(h:kx m.reqs)(s:ByteArray)(aI:Int):kx (m.accept s aI).1/\(m.accept s aI).2.length<=1:=by
 unfold g7.accept
 split
 ·exact⟨h,by simp⟩
 ·split
  ·exact⟨h,by simp⟩
  ·split
   ·exact⟨h,by simp⟩
   ·rename_i L hL
    exact⟨NB hL,by simp⟩
theorem Fw(aI:Int):∀(l:List ByteArray) {m:g7},m.Ok->(m.j1 aI l).1.Ok/\(m.j1 aI l).2.length<=l.length/\(m.j1 aI l).1.b8=m.b8/\(m.j1 aI l).1.tables=m.tables/\(m.j1 aI l).1.late=m.late/\(m.j1 aI l).1.at_=m.at_
 | [],m,h=>⟨h,by simp[g7.j1],rfl,rfl,rfl,rfl⟩
 | x::l,m,h=>by
  have h1:=NC h.reqs x aI
  have h2:=Fw aI l (m:={m with reqs:=(m.accept x aI).1}) ⟨h1.1,h.t1,h.rows,h.mZ⟩
  unfold g7.j1
  simp only
  refine⟨h2.1,?_,h2.2.2⟩
  rw[List.length_append,List.length_cons]
  have:=h2.2.1
  omega
theorem a74{α:Type}{enc:α->List Value}{v:Value}{t:TypeId}{sz:Nat}{A B:List α}:a_ v t sz (A.length+B.length) ((A.map enc).flatten++(B.map enc).flatten)=a_ v t sz (A++B).length ((A++B).map enc).flatten:=by
 rw[List.length_append,List.map_append,List.flatten_append]
def Jq(mp wp:Nat)(H:bw)(y:g7 × sX)(u:Value)(post:List Chunk):Prop:=∃(x:sV) (H':bw),H.le H'/\u=agg (nF x)/\tQ H' x y.2/\post=[.ob (e_ mp wp H' y.1),.mem H']
theorem YG(mp wp:Nat)(H:bw)(m:g7)(hm:m.Ok)(x:oP)(t:dR)(hx:mn H x t)(hs:t.signals.length<=2)(aw7:∀s∈t.signals,s.size<=40)(hc:t.changes.length<=16):
  SP 119 [dF mp,agg (iU x)] [.ob (e_ mp wp H m),.mem H] (Jq mp wp H (m.wU t)):=by
 intro W F w hS;apply b3i;delta JT aF a7 aW dI ai cI bI;(try simp only[app]at hS)
 refine zK hS λxb w hS=>?_
 unfold iU at hS
 rw[hx.aI]at hS
 have pq:=hx.cv
 have Cy:=hx.sv
 refine Gm λzb w hS=>?_
 refine Gm λyb w hS=>?_
 refine zo Cy ?_
 have hS:SL W (tS (.slice none 0 0) []::_) w:=a_.nil hS
 have hS:=SL.b4 hS (t:=tS (.slice none 0 0) []::.ob (e_ mp wp H m)::.pt yb [.int .i64 t.aI,.slice none 0 0,.slice none 0 0] 100::.pt zb [.int .i64 0,.slice none 0 0,.slice none 0 0] 100::.pt xb [.int .i64 t.aI,.int .i64 x.kind,x.cv,x.sv,.int .i64 x.mark] 39::.mem H::F) Xi
 refine⟨λus w=>∃(i:Nat) (nv:Value) (H1:bw),us=[.int .i64 i]/\i<=t.signals.length/\H.le H1/\SL W (tS nv (m.j1 t.aI (t.signals.take i)).2::.ob (e_ mp wp H1 (m.j1 t.aI (t.signals.take i)).1)::.pt yb [.int .i64 t.aI,.slice none 0 0,nv] 100::.pt zb [.int .i64 0,.slice none 0 0,.slice none 0 0] 100::.pt xb [.int .i64 t.aI,.int .i64 x.kind,x.cv,x.sv,.int .i64 x.mark] 39::.mem H1::F) w,
  λus _=>match us with|[.int _ i]=>(t.signals.length-i).toNat|_=>0,⟨0,.slice none 0 0,H,rfl,by omega,bw.le_refl H,hS⟩,?_⟩
 clear hS
 rintro Bf w ⟨i,nv,H1,cW,hi,iw,hS⟩
 cases cW
 refine bW (λh=>?_) (λh=>?_)
 ·have b3:i<t.signals.length:=by omega
  have BX:=Fw t.aI (t.signals.take i) hm
  have kP:t.signals.take (i+1)=t.signals.take i++[t.signals[i]]:=List.take_succ_eq_append_getElem b3
  have uz:=NF t.aI (t.signals.take i) m t.signals[i]
  rw[<- kP]at uz
  have h40:=aw7 _ (List.getElem_mem b3)
  have ix:(t.signals.take i).length<=2:=by rw[List.length_take];omega
  refine yS hS Xh (Cy.mono iw) b3 (u:=.string t.signals[i]) (by simp[b3]) ?_
  refine Gn λw hS=>?_
  refine Cc (YD mp wp H1 (m.j1 t.aI (t.signals.take i)).1 BX.1 t.signals[i] (by omega) t.aI) ?_;clear hS
  rintro v post ⟨H2,iB,rfl⟩ w hS
  try simp only[app]at hS
  have sG:=(NC BX.1.reqs t.signals[i] t.aI).2
  have Rp:=BX.2.1
  refine Gp ?_
  refine zx (n:=(m.j1 t.aI (t.signals.take i)).2.length) (m:=((m.j1 t.aI (t.signals.take i)).1.accept t.signals[i] t.aI).2.length) (cells:=((m.j1 t.aI (t.signals.take i)).2.map wZ).flatten) (cs:=(((m.j1 t.aI (t.signals.take i)).1.accept t.signals[i] t.aI).2.map wZ).flatten) hS Xr (pW hS Xh) (mH OM _) rfl (pT WO _) (by omega) (by omega) λv2 w hS=>?_
  have o1:v2.oneCell'=true:=a_.one hS
  rw[a74,show (m.j1 t.aI (t.signals.take i)).2++((m.j1 t.aI (t.signals.take i)).1.accept t.signals[i] t.aI).2=(m.j1 t.aI (t.signals.take (i+1))).2 by rw[uz]]at hS
  refine Gn λw hS=>?_
  rw[show (⟨(m.j1 t.aI (t.signals.take i)).1.tables,(m.j1 t.aI (t.signals.take i)).1.late,(m.j1 t.aI (t.signals.take i)).1.at_,((m.j1 t.aI (t.signals.take i)).1.accept t.signals[i] t.aI).1,(m.j1 t.aI (t.signals.take i)).1.b8⟩:g7)=(m.j1 t.aI (t.signals.take (i+1))).1 by rw[uz]]at hS
  exact⟨⟨i+1,v2,H2,rfl,by omega,bw.le_trans iw iB,aR hS⟩,by dsimp only;omega⟩
 have G3:t.signals.take i=t.signals:=List.take_of_length_le (by omega)
 rw[G3]at hS
 obtain⟨Cn,Hj,aFm,htb,ix,kG⟩:=Fw t.aI t.signals hm
 have kH:m.wU t=({(m.j1 t.aI t.signals).1 with b8:=(m.j1 t.aI t.signals).1.b8.vv t.changes},⟨t.aI,sO (m.j1 t.aI t.signals).1 t.aI t.changes,(m.j1 t.aI t.signals).2⟩):=rfl
 rw[kH]
 generalize m.j1 t.aI t.signals=y at *
 obtain⟨m1,N⟩:=y
 simp only at hS Cn Hj ⊢
 clear aFm htb ix kG kH
 refine Gp ?_
 refine zo (pq.mono iw) ?_
 have hS:SL W (Fk (.slice none 0 0) (sO m1 t.aI (t.changes.take 0))::_) w:=a_.nil hS
 refine⟨λus w=>∃(i:Nat) (ov:Value),us=[.int .i64 i]/\i<=t.changes.length/\SL W (Fk ov (sO m1 t.aI (t.changes.take i))::tS nv N::.ob (e_ mp wp H1 m1)::.pt yb [.int .i64 t.aI,ov,nv] 100::.pt zb [.int .i64 0,.slice none 0 0,.slice none 0 0] 100::.pt xb [.int .i64 t.aI,.int .i64 x.kind,x.cv,x.sv,.int .i64 x.mark] 39::.mem H1::F) w,
  λus _=>match us with|[.int _ i]=>(t.changes.length-i).toNat|_=>0,⟨0,.slice none 0 0,rfl,by omega,aR hS⟩,?_⟩
 clear hS
 rintro v33 w ⟨i,ov,cW,hi,hS⟩
 cases cW
 refine bW (λh=>?_) (λh=>?_)
 ·have b3:i<t.changes.length:=by omega
  have hxc:t.changes[i]?=some t.changes[i]:=List.getElem?_eq_getElem b3
  have kP:t.changes.take (i+1)=t.changes.take i++[t.changes[i]]:=List.take_succ_eq_append_getElem b3
  have iX:sO m1 t.aI (t.changes.take (i+1))=sO m1 t.aI (t.changes.take i)++(if m1.captured t.changes[i].table=true then [⟨t.aI,t.changes[i].table,t.changes[i].key,t.changes[i].gone,t.changes[i].val⟩] else []):=by
   unfold sO
   rw[kP,List.filter_append,List.map_append]
   congr 1
   rw[List.filter_cons]
   split<;>simp
  have Hm:(sO m1 t.aI (t.changes.take i)).length<=16:=by
   unfold sO
   rw[List.length_map]
   have:=List.length_filter_le (λc:ig=>m1.captured c.table) (t.changes.take i)
   rw[List.length_take]at this
   omega
  refine zS hS Xh m0 (pq.mono iw) hxc b3 ?_
  generalize t.changes[i]=c at *
  refine Gb λcb w hS=>?_
  refine Cg (Ya mp wp H1 m1 (by have:=Cn.reqs.1;omega) c.table) λw hS=>?_
  refine y3 (λhq=>?_) (λhq=>?_)
  ·rw[if_pos hq]at iX
   refine Gm λob w hS=>?_
   refine yy (n:=(sO m1 t.aI (t.changes.take i)).length) (xs:=sO m1 t.aI (t.changes.take i)) (y:=⟨t.aI,c.table,c.key,c.gone,c.val⟩) (enc:=sy) hS Xr Xh ON (λx=>OO x) rfl (by omega) (by omega) λv2 w hS=>?_
   have hS:=hS.sS (x:=(⟨t.aI,c.table,c.key,c.gone,c.val⟩:pd))
   rw[<- iX]at hS
   have o1:v2.oneCell'=true:=a_.one hS
   refine Gn λw hS=>?_
   exact⟨⟨i+1,v2,rfl,by omega,aR hS⟩,by dsimp only;omega⟩
  ·rw[if_neg (by simp[hq]),List.append_nil]at iX
   rw[<- iX]at hS
   refine Gp ?_
   exact⟨⟨i+1,ov,rfl,by omega,aR hS⟩,by dsimp only;omega⟩
 have ai7:t.changes.take i=t.changes:=List.take_of_length_le (by omega)
 rw[ai7]at hS
 obtain⟨rv,hr,hS⟩:=e_.iff.1 (SL.b4 hS (t:=.ob (e_ mp wp H1 m1)::Fk ov (sO m1 t.aI t.changes)::tS nv N::.pt yb [.int .i64 t.aI,ov,nv] 100::.pt zb [.int .i64 0,.slice none 0 0,.slice none 0 0] 100::.pt xb [.int .i64 t.aI,.int .i64 x.kind,x.cv,x.sv,.int .i64 x.mark] 39::.mem H1::F) Xi)
 refine Gn λw hS=>?_
 refine Cc (b91 wp m1.b8 H1 x.cv t.changes (pq.mono iw) (by have:=Cn.rows;omega) (by omega)) ?_;clear hS
 rintro _ post ⟨⟨q,rfl⟩,rfl⟩ w hS
 try simp only[app]at hS
 have hS:=e_.put (mp:=mp) {m1 with b8:=m1.b8.vv t.changes} rv hr hS Xp
 obtain⟨H2,iB,PM,hS⟩:=zE (H:=H1) (v:=nv) hS Xp
 obtain⟨H3,kz,PN,hS⟩:=zE (H:=H2) (v:=ov) hS Xp
 have on:nv.oneCell'=true:=PM.one
 have oo:ov.oneCell'=true:=PN.one
 refine Gp ?_
 refine zD (vs:=[.int .i64 t.aI,ov,nv]) hS Xu rfl rfl (Ij oo on) λw hS=>?_
 refine Gp ?_
 have As:=bw.le_trans iB kz
 have hS:=e_.lh (m:={m1 with b8:=m1.b8.vv t.changes}) As hS Xr
 exact⟨_,⟨⟨t.aI,ov,nv⟩,H3,bw.le_trans iw As,rfl,⟨rfl,PN,PM.mono kz⟩,rfl⟩,aR hS⟩
theorem wG.all{wp:Nat}{k:ik}{H:bw}{mark aI:Int}{u:Value}{post:List Chunk}(h:wG wp k H mark aI u post):∃(x:sV) (H':bw) (q:Bool) (k':ik),H.le H'/\u= .tuple #[agg (nF x),.bool q]/\post=[.ob (iC wp k'),.mem H']/\(∀v∈nF x,v.oneCell'=true) /\
  ((q=false/\k.high mark aI=(k',none))\/(q=true/\∃t,k.high mark aI=(k',some t)/\tQ H' x t)):=by
 unfold wG at h
 have e:k.high mark aI=(if k.vf mark aI then (k,none) else (ko k.n,some ⟨aI,mv k aI,[uD k]⟩)):=rfl
 by_cases hb:k.vf mark aI
 ·rw[if_pos hb]at e
  rw[e]at h ⊢
  obtain⟨rfl,rfl⟩:=h
  exact⟨AV,H,false,k,bw.le_refl H,rfl,rfl,by simp[nF,Value.oneCell'],.inl ⟨rfl,rfl⟩⟩
 ·rw[if_neg hb]at e
  rw[e]at h ⊢
  obtain⟨x,H',hh,rfl,hx,rfl⟩:=h
  exact⟨x,H',true,_,hh,rfl,rfl,wY hx,.inr ⟨rfl,_,rfl,hx⟩⟩
theorem ai8{k k':ik}{mark aI:Int}{t:sX}(h:k.high mark aI=(k',some t)):t=⟨aI,mv k aI,[uD k]⟩:=by
 unfold ik.high at h
 split at h
 ·cases h
 ·cases h;rfl
theorem qN(mp wp:Nat)(H:bw)(m:g7)(hm:m.Ok)(x:oP)(t:dR)(hx:mn H x t)(hid : -9223372036854775808<=m.b8.id/\m.b8.id<=9223372036854775807):
  SP 120 [dF mp,agg (iU x)] [.ob (e_ mp wp H m),.mem H] (Jq mp wp H (m.high t)):=by
 intro W F w hS;apply b3k;delta JV bF a7 fI aW dI c_ ai bI;(try simp only[app]at hS)
 have hn:=hm.rows
 have D9:=hm.reqs.1
 refine zK hS λxb w hS=>?_
 unfold iU at hS
 rw[hx.aI,hx.mark]at hS
 obtain⟨rv,hr,hS⟩:=e_.iff.1 (SL.b4 hS (t:=.ob (e_ mp wp H m)::.pt xb [.int .i64 t.aI,.int .i64 x.kind,x.cv,x.sv,.int .i64 t.mark] 39::.mem H::F) Xi)
 refine Gm λzb w hS=>?_
 refine⟨λus w=>∃(yb:Nat) (y:sV) (H1:bw) (q:Bool) (k':ik),us=[dF yb,.bool q]/\H.le H1/\(∀v∈nF y,v.oneCell'=true)/\((q=false/\m.b8.high t.mark t.aI=(k',none))\/(q=true/\∃z,m.b8.high t.mark t.aI=(k',some z)/\tQ H1 y z)) /\
   SL W (.pt yb (nF y) 100::.pt zb [.int .i64 0,.slice none 0 0,.slice none 0 0] 100::.pt xb [.int .i64 t.aI,.int .i64 x.kind,x.cv,x.sv,.int .i64 t.mark] 39::.pt mp (A0 m wp rv) 111::.ob (iC wp k')::.mem H1::F) w,?_,?_⟩
 ·refine Gn λw hS=>?_
  refine⟨?_,?_⟩
  ·refine Cc (Z9 wp m.b8 H t.mark t.aI (by omega)) ?_;clear hS
   rintro _ post hq w hS
   obtain⟨y,H1,q,k',iw,rfl,rfl,xJ,hc⟩:=hq.all
   try simp only[app]at hS
   refine Gm λyb w hS=>?_
   refine zD hS Xu rfl rfl xJ λw hS=>?_
   exact⟨yb,y,H1,q,k',rfl,iw,xJ,hc,aR hS⟩
  ·refine Gb λyb w hS=>?_
   refine Cc (Z9 wp m.b8 H t.mark t.aI (by omega)) ?_;clear hS
   rintro _ post hq w hS
   obtain⟨y,H1,q,k',iw,rfl,rfl,xJ,hc⟩:=hq.all
   (try simp only[app]at hS);refine Gp ?_
   refine zD hS Xu rfl rfl xJ λw hS=>?_
   exact⟨yb,y,H1,q,k',rfl,iw,xJ,hc,aR hS⟩
 clear hS
 rintro v5 v6 w ⟨yb,y,H1,q,k',cW,iw,xJ,hc,hS⟩
 cases cW
 rcases hc with ⟨rfl,hh⟩|⟨rfl,z,hh,hz⟩
 ·refine zP (zw ?_)
  refine Gn λw hS=>?_
  have e:m.high t=(m,⟨t.aI,[],[]⟩):=by unfold g7.high;rw[hh]
  have hk:k'=m.b8:=by
   unfold ik.high at hh
   split at hh
   ·cases hh;rfl
   ·cases hh
  subst hk
  rw[e]
  have hS:=e_.put m rv (hr.mono iw) hS Xp
  exact⟨_,⟨⟨t.aI,.slice none 0 0,.slice none 0 0⟩,H1,iw,rfl,⟨rfl,gi.nil _ _,gi.nil _ _⟩,rfl⟩,aR hS⟩
 ·refine zP (zq ?_)
  have hzn:=ai8 hh
  subst hzn
  have tI:=hz.aI
  have hnv:=hz.Ie
  have xB:=hz.ops
  have hS:SL W (.pt yb [.int .i64 y.aI,y.ov,y.nv] 100::_) w:=hS
  refine Gp ?_
  refine zS (j:=0) hS Xh OM hnv (x:=uD m.b8) rfl (by simp) ?_
  refine Gb λnb w hS=>?_
  refine Cc (qc H1 rv m.reqs m.b8.id m.b8.h_ m.b8.last (hr.mono iw) (by omega) hid) ?_;clear hS
  rintro u post ⟨H2,iB,rfl,hq⟩ w hS
  try simp only[app]at hS
  have kF:=bw.le_trans iw iB
  cases na:pI m.reqs m.b8.id m.b8.h_ m.b8.last with
  | none=>
   rw[na]at hq
   subst hq
   have e:m.high t=({m with b8:=k'},⟨t.aI,mv m.b8 t.aI,[]⟩):=by unfold g7.high;rw[hh];simp only;rw[na]
   rw[e]
   refine Gp ?_
   refine zw ?_
   refine Gn λw hS=>?_
   have oo:y.ov.oneCell'=true:=xB.one
   refine zD (vs:=[.int .i64 y.aI,y.ov,.slice none 0 0]) hS Xu rfl rfl (Ij oo rfl) λw hS=>?_
   refine Gp ?_
   have hS:=e_.put (mp:=mp) {m with b8:=k'} rv (hr.mono kF) hS Xp
   exact⟨_,⟨⟨y.aI,y.ov,.slice none 0 0⟩,H2,kF,rfl,⟨tI,xB.mono iB,gi.nil _ _⟩,rfl⟩,aR hS⟩
  | some L=>
   rw[na]at hq
   obtain⟨rx,rfl,RL⟩:=hq
   have e:m.high t=({m with b8:=k',reqs:=L},⟨t.aI,mv m.b8 t.aI,[uD m.b8]⟩):=by unfold g7.high;rw[hh];simp only;rw[na]
   rw[e]
   have ox:rx.oneCell'=true:=RL.one
   refine Gp ?_
   refine zq ?_
   refine Gn λw hS=>?_
   refine zD (vs:=[.int .i64 y.aI,y.ov,y.nv]) hS Xu rfl rfl xJ λw hS=>?_
   refine Gp ?_
   have hS:=e_.put (mp:=mp) {m with b8:=k',reqs:=L} rx RL hS Xp
   exact⟨_,⟨y,H2,kF,rfl,hz.mono iB,rfl⟩,aR hS⟩
def JD(mp wp:Nat)(H:bw)(y:g7 × (sX × Int))(u:Value)(post:List Chunk):Prop:=∃(x:sV) (H':bw),H.le H'/\u= .tuple #[agg (nF x),.int .i64 y.2.2]/\tQ H' x y.2.1/\post=[.ob (e_ mp wp H' y.1),.mem H']
theorem yO(mp wp:Nat)(H:bw)(m:g7)(hm:m.Ok)(x:oP)(t:dR)(hx:mn H x t)(hid : -9223372036854775808<=m.b8.id/\m.b8.id<=9223372036854775807):
  SP 45 [dF mp,agg (iU x)] [.ob (e_ mp wp H m),.mem H] (JD mp wp H (m.take t)):=by
 intro W F w hS;apply b8k;delta MM aF bF a7 fI dI c_ ai bI;(try simp only[app]at hS)
 have kG:=hm.mZ
 refine zK hS λxb w hS=>?_
 refine Gm λzb w hS=>?_
 refine Cg (yu H x t hx) λw hS=>?_
 unfold g7.take
 refine zA (λh=>?_) (λh=>?_)
 ·rw[if_pos h]
  refine Gn λw hS=>?_
  exact⟨_,⟨AV,H,bw.le_refl H,rfl,⟨rfl,gi.nil _ _,gi.nil _ _⟩,rfl⟩,aR hS⟩
 rw[if_neg (by simp[h])]
 obtain⟨m1,m2,m3,m4,m5,m6,m7⟩:=nW h
 have hl:=hx.aI
 have hk:=hx.kind
 have uv:=hx.mark
 obtain⟨rv,hr,hS⟩:=e_.iff.1 (SL.b4 hS (t:=.ob (e_ mp wp H m)::.pt zb [.int .i64 0,.slice none 0 0,.slice none 0 0] 100::.pt xb (iU x) 39::.mem H::F) Xi)
 refine Gn λw hS=>?_
 rw[hl]
 have Hn:∀{w:World},(t.aI≠m.at_+1\/m.b8.waits t.kind t.mark=true)->SL W (.pt mp (A0 m wp rv) 111::.ob (iC wp m.b8)::.mem H::F) w->∃post,JD mp wp H (if t.aI≠m.at_+1\/m.b8.waits t.kind t.mark=true then (m,(⟨0,[],[]⟩,10))
   else if t.kind=1 then let r:=({m with at_:=t.aI}:g7).wU t;(r.1,(r.2,0))
   else if t.kind=3 then let r:=({m with at_:=t.aI}:g7).high t;(r.1,(r.2,0))
   else ({m with at_:=t.aI,b8:=m.b8.low t.mark},(⟨t.aI,[],[]⟩,0))) (.tuple #[agg (nF AV),.int .i64 10]) post/\SL W (app post F) w:=λh hS=>by
  rw[if_pos h]
  have hS:=e_.put m rv hr hS Xp
  exact⟨_,⟨AV,H,bw.le_refl H,rfl,⟨rfl,gi.nil _ _,gi.nil _ _⟩,rfl⟩,aR hS⟩
 refine za (λh1=>?_) (λh1=>?_)
 ·refine Gn λw hS=>?_
  exact Hn (.inl h1) (aR hS)
 refine Gp ?_
 refine Z3 (vs:=[dF wp]) hS Xh rfl (λj v e=>by
  match j,e with
  | 0,e=>exact e) ?_
 refine Gp ?_
 refine Cg (ZH wp m.b8 x) λw hS=>?_
 rw[hk,uv]
 refine y3 (λh2=>?_) (λh2=>?_)
 ·refine Gn λw hS=>?_
  exact Hn (.inr h2) (aR hS)
 clear Hn
 rw[if_neg (show ¬(t.aI≠m.at_+1\/m.b8.waits t.kind t.mark=true) by rw[h2];simp;omega)]
 refine Gn λw hS=>?_
 rw[hl]at hS
 have hS:SL W (.pt mp (A0 {m with at_:=t.aI} wp rv) 111::.ob (iC wp m.b8)::.pt zb [.int .i64 0,.slice none 0 0,.slice none 0 0] 100::.pt xb (iU x) 39::.mem H::F) w:=aR hS
 have b5:({m with at_:=t.aI}:g7).Ok:=⟨hm.reqs,hm.t1,hm.rows,by show 0<=t.aI/\t.aI<=1099511627776;omega⟩
 rw[hk]
 refine za (λh3=>?_) (λh3=>?_)
 ·rw[if_pos h3]
  have hS:=e_.put (mp:=mp) {m with at_:=t.aI} rv hr hS Xp
  refine Gp ?_
  refine Cc (YG mp wp H {m with at_:=t.aI} b5 x t hx m5 m7 m4) ?_;clear hS
  rintro _ post ⟨y,H1,iw,rfl,hy,rfl⟩ w hS
  try simp only[app]at hS
  refine zD hS Xu rfl rfl (wY hy) λw hS=>?_
  refine Gp ?_
  exact⟨_,⟨y,H1,iw,rfl,hy,rfl⟩,aR hS⟩
 rw[if_neg h3]
 refine bW (λh4=>?_) (λh4=>?_)
 ·rw[if_pos h4]
  have hS:=e_.put (mp:=mp) {m with at_:=t.aI} rv hr hS Xp
  refine Gp ?_
  refine Cc (qN mp wp H {m with at_:=t.aI} b5 x t hx hid) ?_;clear hS
  rintro _ post ⟨y,H1,iw,rfl,hy,rfl⟩ w hS
  try simp only[app]at hS
  refine zD hS Xu rfl rfl (wY hy) λw hS=>?_
  refine Gp ?_
  exact⟨_,⟨y,H1,iw,rfl,hy,rfl⟩,aR hS⟩
 ·rw[if_neg h4]
  refine Gn λw hS=>?_
  rw[uv]
  refine Cc (b9y wp m.b8 t.mark) ?_;clear hS
  rintro _ post ⟨⟨q,rfl⟩,rfl⟩ w hS
  refine Gn λw hS=>?_
  rw[hl]
  have hS:=e_.put (mp:=mp) (wp:=wp) {m with at_:=t.aI,b8:=m.b8.low t.mark} rv hr hS Xp
  exact⟨_,⟨⟨t.aI,.slice none 0 0,.slice none 0 0⟩,H,bw.le_refl H,rfl,⟨rfl,gi.nil _ _,gi.nil _ _⟩,rfl⟩,aR hS⟩
def q'(m:Int × Int):List Value:=[.int .i64 m.2,.int .i64 m.1]
theorem Ai(m:Int × Int):(q' m).length=2:=rfl
theorem OL(m:Int × Int):∀v∈q' m,v.oneCell'=true:=by simp[q',Value.oneCell']
structure Fp(d:g_)(a:Nat)(oJ:Bool)(lf:Int):Prop where
 t:oJ=true->d.at_=a/\d.left=lf/\a<d.l.length
 f:oJ=false->d.at_=(a:Int)-1/\d.left=0/\a<=d.l.length
structure C7 where
 v:Value
 a:Nat
 oJ:Bool
 lf:Int
abbrev vo(x:C7):List Value:=[x.v,.int .i64 x.a,.bool x.oJ,.int .i64 x.lf]
abbrev tR(v:Value)(l:List (Int × Int)):Chunk:=.ob (a_ v 363 2 l.length (l.map q').flatten)
def jS(p:Nat)(d:g_):zC:=mX λx:C7=>zQ (Fp d x.a x.oJ x.lf) [.pt p (vo x) 289,tR x.v d.l]
theorem jS.iff{W w:World}{l:List Chunk}{p:Nat}{d:g_}:SL W (.ob (jS p d)::l) w↔∃x:C7,Fp d x.a x.oJ x.lf/\SL W (.pt p (vo x) 289::tR x.v d.l::l) w:=by
 unfold jS
 simp only[SL.ex,SL.fact,List.cons_append,List.nil_append]
theorem jS.A8{W w:World}{l F:List Chunk}{p:Nat}{d:g_}(v:Value)(a:Nat)(oJ:Bool)(lf:Int)(h:Fp d a oJ lf)(hS:SL W l w)(k:ky [.pt p [v,.int .i64 a,.bool oJ,.int .i64 lf] 289,tR v d.l] l F):SL W (.ob (jS p d)::F) w:=jS.iff.2 ⟨⟨v,a,oJ,lf⟩,h,hS.pick k⟩
theorem QU:SP 116 [] [] (λv post=>∃p:Nat,v= .pointer (some ⟨p,0,none⟩)/\post=[.ob (jS p lT)]):=by
 intro W F w hS;apply b3f;delta JQ ai bI;(try simp only[app]at hS)
 refine yx rfl ?_
 refine⟨_,rfl,zJ hS λp w hS=>?_⟩
 have hS:SL W (tR (.slice none 0 0) []::.pt p (vo ⟨.slice none 0 0,0,false,0⟩) 289::F) w:=a_.nil hS
 exact⟨_,⟨p,rfl,rfl⟩,SL.b4 (jS.A8 (d:=lT) (.slice none 0 0) 0 false 0 ⟨(λh=>by cases h),λ_=>⟨rfl,rfl,Nat.le_refl _⟩⟩ hS Xp) Xi⟩
theorem YC(b:Nat)(id:Int)(m:Int × Int):SP 357 [agg (q' m),.pointer (some ⟨b,0,none⟩)] [.pt b [.int .i64 id] 3] (dW (.bool (decide (m.1=id))) [.pt b [.int .i64 id] 3]):=by
 intro W F w hS;apply b79;delta MB a7;(try simp only[app]at hS)
 refine zK hS λxb w hS=>?_
 unfold q' at hS
 refine Gp ?_
 (exact eF hS)
theorem ZE(p:Nat)(x:C7)(l:List (Int × Int))(id:Int)(hn:l.length<=1000):
  SP 312 [.pointer (some ⟨p,0,none⟩),.int .i64 id] [.pt p (vo x) 289,tR x.v l] (dW (.int .i64 (oy (l.findIdx? λm=>decide (m.1=id)))) [.pt p (vo x) 289,tR x.v l]):=by
 intro W F w hS;apply b7r;delta Mm bF;(try simp only[app]at hS)
 refine⟨rfl,zJ hS λb w hS=>?_⟩
 unfold vo at hS
 refine Gp ?_
 have hC:=RZ (t:=363) Ai rfl (λv0 v1 w R h=>b78 v0 v1 w R h) (λm=>YC b id m) x.v l (by omega)
 simp only[List.cons_append,List.nil_append]at hC
 refine Cg (hC) λw hS=>?_
 (exact eF hS)
theorem QR(p:Nat)(d:g_)(id weight:Int)(hn:d.l.length<=1000):SP 265 [.pointer (some ⟨p,0,none⟩),.int .i64 id,.int .i64 weight] [.ob (jS p d)] (λv post=>(∃e:Int,v= .int .i64 e)/\post=[.ob (jS p (d.add id weight))]):=by
 intro W F w hS;apply b6t;delta LM aF bF fI ai;(try simp only[app]at hS)
 have g9:∀{e:Int} {w:World},(id<1\/64<id\/weight<1\/8<weight)->SL W (.ob (jS p d)::F) w->∃post,((∃e':Int,Value.int .i64 e= .int .i64 e')/\post=[.ob (jS p (d.add id weight))])/\SL W (app post F) w:=λh hS=>by
  rw[show d.add id weight=d by unfold g_.add;rw[if_pos h]]
  exact⟨_,⟨⟨_,rfl⟩,rfl⟩,hS⟩
 refine Gp ?_
 refine za (λh=>g9 (by omega) hS) (λh1=>?_)
 refine Gp ?_
 refine za (λh=>g9 (by omega) hS) (λh2=>?_)
 refine Gp ?_
 refine za (λh=>g9 (by omega) hS) (λh3=>?_)
 refine Gp ?_
 refine za (λh=>g9 (by omega) hS) (λh4=>?_)
 clear g9
 obtain⟨x,hr,hS⟩:=jS.iff.1 hS
 refine Cg (ZE p x d.l id hn) λw hS=>?_
 have ha:d.add id weight=match AS d id with|some _=>d|none=>{d with l:=d.l++[(id,weight)]}:=by
  unfold g_.add;rw[if_neg (by omega)];rfl
 rw[ha]
 unfold AS
 cases hf:d.l.findIdx? (λm=>decide (m.1=id)) with
 | some i=>
  refine za (λ_=>?_) (λh=>by simp only[oy]at h;omega)
  exact⟨_,⟨⟨_,rfl⟩,rfl⟩,jS.iff.2 ⟨x,hr,aR hS⟩⟩
 | none=>
  refine za (λh=>by simp only[oy]at h;omega) (λ_=>?_)
  unfold vo at hS
  refine Gm λb w hS=>?_
  refine yy (n:=d.l.length) (xs:=d.l) (y:=(id,weight)) (enc:=q') hS Xr Xh Ai OL rfl (by omega) (by omega) λv2 w hS=>?_
  have hS:=hS.sS (x:=(id,weight))
  have o1:v2.oneCell'=true:=a_.one hS
  refine Gn λw hS=>?_
  refine⟨_,⟨⟨_,rfl⟩,rfl⟩,SL.b4 (jS.A8 (d:={d with l:=d.l++[(id,weight)]}) v2 x.a x.oJ x.lf ⟨λh=>?_,λh=>?_⟩ hS Xp) Xi⟩
  ·have:=hr.t h
   exact⟨this.1,this.2.1,by show x.a<(d.l++[_]).length;rw[List.length_append];omega⟩
  ·have:=hr.f h
   exact⟨this.1,this.2.1,by show x.a<=(d.l++[_]).length;rw[List.length_append];omega⟩
theorem QS(p:Nat)(d:g_)(id:Int)(hn:d.l.length<=1000):SP 264 [.pointer (some ⟨p,0,none⟩),.int .i64 id] [.ob (jS p d)] (λv post=>(∃e:Int,v= .int .i64 e)/\post=[.ob (jS p (d.del id))]):=by
 intro W F w hS;apply b6s;delta LL aF bF fI ai;(try simp only[app]at hS)
 obtain⟨x,hr,hS⟩:=jS.iff.1 hS
 refine Cg (ZE p x d.l id hn) λw hS=>?_
 unfold g_.del AS
 cases hf:d.l.findIdx? (λm=>decide (m.1=id)) with
 | none=>
  refine za (λ_=>?_) (λh=>by simp only[oy]at h;omega)
  exact⟨_,⟨⟨_,rfl⟩,rfl⟩,jS.iff.2 ⟨x,hr,aR hS⟩⟩
 | some i=>
  have hi:i<d.l.length:=(List.findIdx?_eq_some_iff_getElem.1 hf).1
  have hxa:x.a<=d.l.length:=by
   cases ht:x.oJ with
   | true=>have:=hr.t ht;omega
   | false=>exact (hr.f ht).2.2
  simp only[oy]
  refine za (λh=>by omega) (λ_=>?_)
  unfold vo at hS
  refine Gp ?_
  refine Cc (Oz (sz:=2) (lD:=16) (z:=[.int .i64 0,.int .i64 0]) (zv:=.agg #[.int .i64 0,.int .i64 0]) (λv0 v1 v2 w R h=>b7s v0 v1 v2 w R h) Tryz.underlying287 (λw=>by kernel_rfl) rfl rfl (by simp[Value.oneCell']) x.v d.l.length i (d.l.map q').flatten hi (pT OL _) (by omega) (by omega)) ?_;clear hS
  rintro v post rfl w hS
  try simp only[app]at hS
  have ef:List.take (i*2) (d.l.map q').flatten++List.drop ((i+1)*2) (d.l.map q').flatten=((d.l.eraseIdx i).map q').flatten:=by
   rw[sC Ai,rT Ai,List.eraseIdx_eq_take_drop_succ];simp
  have el:d.l.length-1=(d.l.eraseIdx i).length:=by rw[List.length_eraseIdx,if_pos hi]
  rw[ef,el]at hS
  have o1:v.oneCell'=true:=a_.one hS
  refine Gn λw hS=>?_
  refine za (λh1=>?_) (λh1=>?_)
  ·refine Gn λw hS=>?_
   have hx:((x.a:Int)-1)=((x.a-1:Nat):Int):=by omega
   rw[hx]at hS
   refine⟨_,⟨⟨_,rfl⟩,rfl⟩,SL.b4 (jS.A8 (d:=⟨d.l.eraseIdx i,if (i:Int)<=d.at_ then d.at_-1 else d.at_,if (i:Int)=d.at_ then 0 else d.left⟩) v (x.a-1) x.oJ x.lf ⟨λh=>?_,λh=>?_⟩ hS Xp) Xi⟩
   ·obtain⟨h2,h3,h4⟩:=hr.t h
    refine⟨?_,?_,by show x.a-1<(d.l.eraseIdx i).length;omega⟩
    ·show (if (i:Int)<=d.at_ then d.at_-1 else d.at_)=_
     rw[if_pos (by omega)];omega
    ·show (if (i:Int)=d.at_ then 0 else d.left)=_
     rw[if_neg (by omega)];exact h3
   ·obtain⟨h2,h3,h4⟩:=hr.f h
    refine⟨?_,?_,by show x.a-1<=(d.l.eraseIdx i).length;omega⟩
    ·show (if (i:Int)<=d.at_ then d.at_-1 else d.at_)=_
     rw[if_pos (by omega)];omega
    ·show (if (i:Int)=d.at_ then 0 else d.left)=_
     rw[h3];simp
  ·refine bW (λh2=>?_) (λh2=>?_)
   ·refine Gn λw hS=>?_
    refine⟨_,⟨⟨_,rfl⟩,rfl⟩,SL.b4 (jS.A8 (d:=⟨d.l.eraseIdx i,if (i:Int)<=d.at_ then d.at_-1 else d.at_,if (i:Int)=d.at_ then 0 else d.left⟩) v x.a false x.lf ⟨(λh=>by cases h),λ_=>?_⟩ hS Xp) Xi⟩
    cases ht:x.oJ with
    | true=>
     obtain⟨h3,h4,h5⟩:=hr.t ht
     refine⟨?_,?_,by show x.a<=(d.l.eraseIdx i).length;omega⟩
     ·show (if (i:Int)<=d.at_ then d.at_-1 else d.at_)=_
      rw[if_pos (by omega)];omega
     ·show (if (i:Int)=d.at_ then 0 else d.left)=_
      rw[if_pos (by omega)]
    | false=>
     obtain⟨h3,h4,h5⟩:=hr.f ht
     refine⟨?_,?_,by show x.a<=(d.l.eraseIdx i).length;omega⟩
     ·show (if (i:Int)<=d.at_ then d.at_-1 else d.at_)=_
      rw[if_neg (by omega)];omega
     ·show (if (i:Int)=d.at_ then 0 else d.left)=_
      rw[h4];simp
   ·refine⟨_,⟨⟨_,rfl⟩,rfl⟩,SL.b4 (jS.A8 (d:=⟨d.l.eraseIdx i,if (i:Int)<=d.at_ then d.at_-1 else d.at_,if (i:Int)=d.at_ then 0 else d.left⟩) v x.a x.oJ x.lf ⟨λh=>?_,λh=>?_⟩ hS Xp) Xi⟩
    ·obtain⟨h3,h4,h5⟩:=hr.t h
     refine⟨?_,?_,by show x.a<(d.l.eraseIdx i).length;omega⟩
     ·show (if (i:Int)<=d.at_ then d.at_-1 else d.at_)=_
      rw[if_neg (by omega)];exact h3
     ·show (if (i:Int)=d.at_ then 0 else d.left)=_
      rw[if_neg (by omega)];exact h4
    ·obtain⟨h3,h4,h5⟩:=hr.f h
     refine⟨?_,?_,by show x.a<=(d.l.eraseIdx i).length;omega⟩
     ·show (if (i:Int)<=d.at_ then d.at_-1 else d.at_)=_
      rw[if_neg (by omega)];exact h3
     ·show (if (i:Int)=d.at_ then 0 else d.left)=_
      rw[h4];simp
theorem qG(p:Nat)(d:g_)(hd:d.Ok)(hn:d.l.length<=1000):SP 203 [.pointer (some ⟨p,0,none⟩)] [.ob (jS p d)] (λv post=>v= .tuple #[.int .i64 d.next.2,.bool (decide (d.l≠[]))]/\post=[.ob (jS p d.next.1)]):=by
 intro W F w hS;apply b5f;delta KY aF bF a7 fI c_ ai;(try simp only[app]at hS)
 have kG:=hd.Bz
 have hl8:=hd.Ep
 have G7:=hd.Eo
 obtain⟨x,hr,hS⟩:=jS.iff.1 hS
 unfold vo at hS
 refine Gp ?_
 refine zt hS (v:=x.v) (t:=363) (sz:=2) (n:=d.l.length) (cells:=(d.l.map q').flatten) Xh ?_
 refine bW (λh=>?_) (λh=>?_)
 ·have he:d.l=[]:=List.eq_nil_of_length_eq_zero (by omega)
  have e:d.next=(d,0):=by unfold g_.next;rw[if_pos he]
  rw[e,decide_eq_false (by simp[he])]
  exact⟨_,⟨rfl,rfl⟩,jS.iff.2 ⟨x,hr,aR hS⟩⟩
 have iW:d.l≠[]:=λe=>h (by rw[e];rfl)
 have jO:0<=d.place/\d.place<d.l.length:=by
  unfold g_.place
  have:=hd.neg
  have:=hd.mZ
  split
  ·split<;>omega
  ·omega
 obtain⟨j,hj⟩:∃j:Nat,d.place=j:=⟨d.place.toNat,by omega⟩
 have jX:j<d.l.length:=by omega
 have xu:d.l[j]?=some d.nX:=by
  unfold g_.nX
  rw[hj,Int.toNat_natCast,List.getElem?_eq_getElem jX];rfl
 have hw:=hd.w _ (List.mem_of_getElem? xu)
 refine⟨λus w=>∃(a:Nat) (t:Bool) (lf:Int),us=[]/\((t=true/\lf=d.left/\d.left≠0/\(a:Int)=d.at_)\/(t=false/\(a:Int)=d.at_+1/\d.left=0))/\SL W (.pt p [x.v,.int .i64 a,.bool t,.int .i64 lf] 289::tR x.v d.l::F) w,?_,?_⟩
 ·refine Gp ?_
  refine y3 (λht=>?_) (λht=>?_)
  ·obtain⟨h3,h4,h5⟩:=hr.t ht
   refine bW (λh0=>?_) (λh0=>?_)
   ·refine Gn λw hS=>?_
    exact⟨x.a+1,false,x.lf,rfl,.inr ⟨rfl,by omega,by omega⟩,aR hS⟩
   ·exact⟨x.a,true,x.lf,rfl,.inl ⟨rfl,h4.symm,by omega,h3.symm⟩,by rw[<- ht];exact aR hS⟩
  ·obtain⟨h3,h4,h5⟩:=hr.f ht
   exact⟨x.a,false,x.lf,rfl,.inr ⟨rfl,by omega,h4⟩,by rw[<- ht];exact aR hS⟩
 clear hS
 rintro w ⟨a,t,lf,-,hc,hS⟩
 refine⟨λus w=>us=[]/\SL W (.pt p [x.v,.int .i64 j,.bool true,.int .i64 (if d.left=0 then d.nX.2 else d.left)] 289::tR x.v d.l::F) w,?_,?_⟩
 ·refine Gp ?_
  rcases hc with ⟨rfl,rfl,kj,nu⟩|⟨rfl,kj,nu⟩
  ·refine zq ?_
   have e:d.place=d.at_:=by unfold g_.place;rw[if_neg kj]
   have:a=j:=by omega
   subst this
   rw[if_neg kj]
   exact⟨rfl,aR hS⟩
  ·refine zw ?_
   refine⟨λus w=>us=[]/\SL W (.pt p [x.v,.int .i64 j,.bool false,.int .i64 lf] 289::tR x.v d.l::F) w,?_,?_⟩
   ·refine Gn λw hS=>?_
    refine zt hS (v:=x.v) (t:=363) (sz:=2) (n:=d.l.length) (cells:=(d.l.map q').flatten) Xh ?_
    refine Gp ?_
    have e:d.place=if (d.l.length:Int)<=d.at_+1 then 0 else d.at_+1:=by unfold g_.place;rw[if_pos nu]
    refine za (λh0=>?_) (λh0=>?_)
    ·rw[if_pos (by omega)]at e
     have:j=0:=by omega
     subst this
     refine Gn λw hS=>?_
     have hS:SL W (.pt p [x.v,.int .i64 ((0:Nat):Int),.bool false,.int .i64 lf] 289::tR x.v d.l::F) w:=hS
     exact aR hS
    ·rw[if_neg (by omega)]at e
     have:a=j:=by omega
     subst this
     exact⟨rfl,aR hS⟩
   clear hS
   rintro w ⟨-,hS⟩
   refine Gn λw hS=>?_
   obtain⟨fa,fc,RV,_,hfx⟩:=a_.at hS (v:=x.v) (t:=363) (sz:=2) (n:=d.l.length) (cells:=(d.l.map q').flatten) Xh
   obtain⟨fb,rfl,hfc⟩:=hfx j jX
   rw[RV]
   refine zB jX (zR (zR ?_))
   have kH:=hfc _ _ (rS Ai d.l j 0 d.nX (.int .i64 d.nX.2) xu rfl)
   refine⟨_,_,rfl,by rw[Nat.zero_add];exact kH,?_⟩
   refine Gn λw hS=>?_
   rw[if_pos nu,<- RV]
   exact aR hS
 clear hS hc
 rintro w ⟨-,hS⟩
 refine Gn λw hS=>?_
 refine zy (i:=1) hS (v:=x.v) (t:=363) Xh Ai xu jX (u:=.int .i64 d.nX.1) rfl ?_
 have e:d.next=(⟨d.l,d.place,(if d.left=0 then d.nX.2 else d.left)-1⟩,d.nX.1):=by unfold g_.next;rw[if_neg iW]
 rw[e,decide_eq_true iW]
 exact⟨_,⟨rfl,rfl⟩,SL.b4 (jS.A8 (d:=⟨d.l,d.place,(if d.left=0 then d.nX.2 else d.left)-1⟩) x.v j true ((if d.left=0 then d.nX.2 else d.left)-1) ⟨λ_=>⟨hj,rfl,jX⟩,(λh=>by cases h)⟩ hS Xp) Xi⟩
theorem aWj(kind mark:Int):lx [.int .i64 0,.int .i64 0,.slice none 0 0,.slice none 0 0,.int .i64 0] [(0,1,.int .i64 1),(1,1,.int .i64 kind),(4,1,.int .i64 mark)]=some (iU ⟨1,kind,.slice none 0 0,.slice none 0 0,mark⟩):=by simp[lx,Value.cells,iU]
theorem Z6(sp tp dp lp:Nat)(k:fR)(H:bw)(kind mark:Int){N:Nat}(hk:mY k N)(hN:N<=1000000000)(iO:k.d.ops<=90000):
  SP 204 [dF sp,.int .i64 kind,.int .i64 mark] [.ob (ir sp tp dp lp k),.ob (cw dp k.d),.mem H] (xY sp tp dp lp H (k.mL kind mark)):=by
 intro W F w hS;apply b5g;delta KZ aF c_ ai bI;(try simp only[app]at hS)
 have hx:mn H ⟨1,kind,.slice none 0 0,.slice none 0 0,mark⟩ ⟨1,kind,[],[],mark⟩:=⟨rfl,rfl,rfl,gi.nil _ _,gi.nil _ _⟩
 have g9:∀{w:World},¬((kind=2\/kind=3)/\iM ⟨1,kind,[],[],mark⟩=true)->SL W (.ob (ir sp tp dp lp k)::.ob (cw dp k.d)::.mem H::F) w->∃post,xY sp tp dp lp H (k.mL kind mark) (.tuple #[.int .i64 0,.int .i64 1]) post/\SL W (app post F) w:=λh hS=>by
  rw[show k.mL kind mark=(k,(0,1)) from if_neg h]
  exact⟨_,⟨rfl,rfl⟩,hS⟩
 refine yx (aWj kind mark) ?_
 refine Gb λxb w hS=>?_
 have rY:∀{w:World},(kind=2\/kind=3)->SL W (.pt xb (iU ⟨1,kind,.slice none 0 0,.slice none 0 0,mark⟩) 39::.ob (ir sp tp dp lp k)::.ob (cw dp k.d)::.mem H::F) w->zj 5 (dF xb) w λI8=>aw 61 [I8] w λv20 C5=>Zj v20 λE9=>ic E9 (∃post,xY sp tp dp lp H (k.mL kind mark) (.tuple #[.int .i64 0,.int .i64 1]) post/\SL W (app post F) C5)
   (zj 5 (dF xb) C5 λv24=>aw 63 [dF sp,v24] C5 λv25 w_4=>zf 0 v25 λv26=>zf 1 v25 λv27=>∃post,xY sp tp dp lp H (k.mL kind mark) (.tuple #[v26,v27]) post/\SL W (app post F) w_4):=λh2 hS=>by
  refine yj hS Xh rfl ?_
  refine Cg (yu H ⟨1,kind,.slice none 0 0,.slice none 0 0,mark⟩ ⟨1,kind,[],[],mark⟩ hx) λw hS=>?_
  refine zA (λh=>g9 (λx=>by rw[x.2]at h;cases h) (aR hS)) (λh=>?_)
  rw[show k.mL kind mark=k.lJ ⟨1,kind,[],[],mark⟩ from if_pos ⟨h2,h⟩]
  refine yj hS Xh rfl ?_
  refine Cg (Yt sp tp dp lp k H ⟨1,kind,.slice none 0 0,.slice none 0 0,mark⟩ ⟨1,kind,[],[],mark⟩ hx h hk hN iO) λw hS=>?_
  exact eF hS
 refine za (λh=>?_) (λh=>rY (.inl (by omega)) (aR hS))
 refine Gp ?_
 exact za (λh2=>g9 (λx=>by omega) (aR hS)) (λh2=>rY (.inr (by omega)) (aR hS))
abbrev p6(v:Value)(l:List Rq):Chunk:=.ob (a_ v 125 7 l.length (l.map kT).flatten)
theorem a7t{L:List Rq}{i:Nat}(h:i<L.length):lz (L.take (i+1))=lz (L.take i)++(if L[i].done=false then [L[i]] else []):=by
 unfold lz
 rw[List.take_succ_eq_append_getElem h,List.filter_append,List.filter_cons]
 cases L[i].done<;>simp
theorem Il(L:List Rq)(i:Nat):(lz (L.take i)).length<=L.length:=by
 have:=List.length_filter_le (λr:Rq=>!r.done) (L.take i)
 rw[List.length_take]at this
 unfold lz;omega
theorem ZI(v:Value)(L:List Rq)(hn:L.length<=1000):SP 118 [v] [p6 v L] (λu post=>post=[p6 u (lz L),p6 v L]):=by
 intro W F w hS;apply b3h;delta JS aF a7 c_ ai bI;(try simp only[app]at hS)
 refine zt hS (v:=v) (t:=125) (sz:=7) (n:=L.length) (cells:=(L.map kT).flatten) Xh ?_
 have hS:SL W (p6 (.slice none 0 0) []::_) w:=a_.nil hS
 refine⟨λus w=>∃(i:Nat) (u:Value),us=[u,.int .i64 i]/\i<=L.length/\SL W (p6 u (lz (L.take i))::p6 v L::F) w,λus _=>match us with|[_,.int _ i]=>(L.length-i).toNat|_=>0,⟨0,.slice none 0 0,rfl,by omega,hS⟩,?_⟩
 clear hS
 rintro v3 v8 w ⟨i,u,cW,hi,hS⟩
 cases cW
 refine bW (λh=>?_) (λh=>?_)
 ·have b3:i<L.length:=by omega
  have hx:L[i]?=some L[i]:=List.getElem?_eq_getElem b3
  have iX:=a7t b3
  have hle:=Il L i
  refine zV hS (v:=v) (t:=125) Xh lU hx b3 ?_
  generalize L[i]=r at *
  refine Gb λxb w hS=>?_
  refine zA (λhd=>?_) (λhd=>?_)
  ·rw[if_pos hd]at iX
   refine yj hS Xh rfl ?_
   refine Gm λyb w hS=>?_
   refine yy (n:=(lz (L.take i)).length) (xs:=lz (L.take i)) (y:=r) (enc:=kT) hS Xr Xh lU Ak rfl (by omega) (by omega) λv2 w hS=>?_
   have hS:=hS.sS (x:=r)
   rw[<- iX]at hS
   refine Gp ?_
   exact⟨⟨i+1,v2,rfl,by omega,aR hS⟩,by dsimp only;omega⟩
  ·rw[if_neg (by simp[hd]),List.append_nil]at iX
   rw[<- iX]at hS
   refine Gp ?_
   exact⟨⟨i+1,v3,rfl,by omega,aR hS⟩,by dsimp only;omega⟩
 ·rw[List.take_of_length_le (by omega)]at hS
  exact⟨_,rfl,aR hS⟩
abbrev mi(sp mp wp gp:Nat)(n:Int):List Value:=[dF sp,dF mp,dF wp,dF gp,.int .i64 n]
theorem Qs(sp mp wp:Nat)(H:bw)(m:g7)(n:Int):SP 41 [dF sp,dF mp,.int .i64 n] [.ob (e_ mp wp H m)] (λv post=>(¬(1<=n/\n<=64)/\v= .tuple #[.pointer none,.int .i64 1]/\post=[.ob (e_ mp wp H m)]) \/
  ((1<=n/\n<=64)/\∃pp gp:Nat,v= .tuple #[dF pp,.int .i64 0]/\post=[.pt pp (mi sp mp wp gp n) 201,.ob (jS gp lT),.ob (e_ mp wp H m)])):=by
 intro W F w hS;apply b8g;delta MI aF dI ai eI;(try simp only[app]at hS)
 refine Gp ?_
 refine za (λh=>⟨_,.inl ⟨by omega,rfl,rfl⟩,hS⟩) (λh1=>?_)
 refine Gp ?_
 refine za (λh=>⟨_,.inl ⟨by omega,rfl,rfl⟩,hS⟩) (λh2=>?_)
 obtain⟨rv,hr,hS⟩:=e_.iff.1 hS
 refine Gp ?_
 refine Z3 (vs:=[dF wp]) hS Xh rfl (λj v e=>by
  match j,e with
  | 0,e=>exact e) ?_
 refine Cg (Yn wp) λw hS=>?_
 refine Cc (QU) ?_;clear hS
 rintro _ post ⟨gp,rfl,rfl⟩ w hS
 (try simp only[app]at hS);refine Gp ?_
 refine⟨_,rfl,zJ hS λpp w hS=>?_⟩
 have hS:=e_.put m rv hr hS Xp
 exact⟨_,.inr ⟨by omega,pp,gp,rfl,rfl⟩,aR hS⟩
theorem z7(sp mp wp pp gp:Nat)(n:Int)(H:bw)(m:g7)(hn:m.reqs.length<=1000):SP 43 [dF pp] [.pt pp (mi sp mp wp gp n) 201,.ob (e_ mp wp H m),.mem H] (dW (.bool (oE m)) [.pt pp (mi sp mp wp gp n) 201,.ob (e_ mp wp H m),.mem H]):=by
 intro W F w hS;apply b8i;delta MK aF bF b7 ai;(try simp only[app]at hS)
 unfold oE
 refine Gp ?_
 obtain⟨rv,hr,hS⟩:=e_.iff.1 (SL.b4 hS (t:=.ob (e_ mp wp H m)::.pt pp (mi sp mp wp gp n) 201::.mem H::F) Xi)
 refine Cg (ZL wp m.b8) λw hS=>?_
 have hS:=e_.put m rv hr hS Xp
 refine za (λh=>?_) (λh1=>?_)
 ·rw[decide_eq_true (.inl h)]
  exact eF hS
 refine bW (λh=>?_) (λh2=>?_)
 ·rw[decide_eq_true (.inr (.inl h))]
  exact eF hS
 refine bW (λh3=>?_) (λh3=>?_)
 ·refine Gp ?_
  refine Cc (yE mp wp H m hn) ?_;clear hS
  rintro u post rfl w hS
  try simp only[app]at hS
  refine Cc (ZI u m.reqs hn) ?_;clear hS
  rintro u2 post rfl w hS
  try simp only[app]at hS
  refine zt hS (v:=u2) (t:=125) (sz:=7) (n:=(lz m.reqs).length) (cells:=((lz m.reqs).map kT).flatten) Xh ?_
  refine Gp ?_
  have e:decide (m.b8.state=1\/m.b8.state=2\/m.b8.state=0/\lz m.reqs≠[])=decide ((0:Int)<((lz m.reqs).length:Int)):=by
   rw[decide_eq_decide]
   constructor
   ·rintro (h|h|h)
    ·exact absurd h h1
    ·exact absurd h h2
    ·have:=List.length_pos_iff.2 h.2;omega
   ·intro h
    exact .inr (.inr ⟨h3,λe=>by rw[e]at h;simp at h⟩)
  rw[e]
  exact eF hS
 ·rw[decide_eq_false (λh=>h.elim h1 (λh=>h.elim h2 (λh=>h3 h.1)))]
  exact eF hS
theorem Wm(d:g_)(id:Int):(d.del id).l.length<=d.l.length:=by
 unfold g_.del
 split
 ·exact Nat.le_refl _
 ·exact List.length_eraseIdx_le ..
theorem Wl(d:g_)(id w:Int):(d.add id w).l.length<=d.l.length+1:=by
 unfold g_.add
 split
 ·omega
 ·split
  ·omega
  ·simp
theorem Du:∀(L:List Rq) (d:g_),(L.foldl (λd r=>d.del r.id) d).l.length<=d.l.length
 | [],d=>Nat.le_refl _
 | r::L,d=>Nat.le_trans (Du L (d.del r.id)) (Wm d r.id)
theorem Fy:∀(L:List Rq) (d:g_),(L.foldl (λd r=>d.add r.id r.weight) d).l.length<=d.l.length+L.length
 | [],d=>Nat.le_refl _
 | r::L,d=>by
  have h1:=Fy L (d.add r.id r.weight)
  have h2:=Wl d r.id r.weight
  rw[List.foldl_cons,List.length_cons];omega
theorem WD{L:List Rq}{i:Nat}(h:i<L.length):(L.take (i+1)).filter (·.done)=(L.take i).filter (·.done)++(if L[i].done=true then [L[i]] else []):=by
 rw[List.take_succ_eq_append_getElem h,List.filter_append,List.filter_cons]
 cases L[i].done<;>simp
theorem Qt(sp mp wp pp gp:Nat)(n:Int)(H:bw)(m:g7)(d:g_)(hn:m.reqs.length<=64)(hd:d.l.length<=500):SP 202 [dF pp] [.pt pp (mi sp mp wp gp n) 201,.ob (jS gp d),.ob (e_ mp wp H m),.mem H] (λv post=>post=[.pt pp (mi sp mp wp gp n) 201,.ob (jS gp (kY d m.reqs)),.ob (e_ mp wp H m),.mem H]):=by
 intro W F w hS;apply b5e;delta KX aF bF a7 ai;(try simp only[app]at hS)
 refine Gp ?_
 refine Cc (yE mp wp H m (by omega)) ?_;clear hS
 rintro u post rfl w hS
 try simp only[app]at hS
 refine zt hS (v:=u) (t:=125) (sz:=7) (n:=m.reqs.length) (cells:=(m.reqs.map kT).flatten) Xh ?_
 refine⟨λus w=>∃i:Nat,us=[.int .i64 i]/\i<=m.reqs.length/\SL W (.ob (jS gp (((m.reqs.take i).filter (·.done)).foldl (λd r=>d.del r.id) d))::p6 u m.reqs::.ob (e_ mp wp H m)::.mem H::.pt pp (mi sp mp wp gp n) 201::F) w,λus _=>match us with|[.int _ i]=>(m.reqs.length-i).toNat|_=>0,⟨0,rfl,by omega,SL.b4 hS (t:=.ob (jS gp d)::p6 u m.reqs::.ob (e_ mp wp H m)::.mem H::.pt pp (mi sp mp wp gp n) 201::F) Xi⟩,?_⟩
 clear hS
 rintro oK w ⟨i,cW,hi,hS⟩
 cases cW
 refine bW (λh=>?_) (λh=>?_)
 ·have b3:i<m.reqs.length:=by omega
  have hx:m.reqs[i]?=some m.reqs[i]:=List.getElem?_eq_getElem b3
  have iX:=WD b3
  have hle:=Du ((m.reqs.take i).filter (·.done)) d
  refine zV hS (v:=u) (t:=125) Xh lU hx b3 ?_
  generalize m.reqs[i]=r at *
  refine Gb λxb w hS=>?_
  refine y3 (λhq=>?_) (λhq=>?_)
  ·rw[if_pos hq]at iX
   refine Gn λw hS=>?_
   refine Cc (QS gp (((m.reqs.take i).filter (·.done)).foldl (λd r=>d.del r.id) d) r.id (by omega)) ?_;clear hS
   rintro _ post ⟨⟨e,rfl⟩,rfl⟩ w hS
   (try simp only[app]at hS);refine Gp ?_
   refine⟨⟨i+1,rfl,by omega,?_⟩,by dsimp only;omega⟩
   rw[iX,List.foldl_append]
   exact SL.b4 hS (t:=.ob (jS gp ((((m.reqs.take i).filter (·.done)).foldl (λd r=>d.del r.id) d).del r.id))::p6 u m.reqs::.ob (e_ mp wp H m)::.mem H::.pt pp (mi sp mp wp gp n) 201::F) Xi
  ·rw[if_neg (by simp[hq]),List.append_nil]at iX
   rw[<- iX]at hS
   refine Gp ?_
   exact⟨⟨i+1,rfl,by omega,aR hS⟩,by dsimp only;omega⟩
 rw[List.take_of_length_le (by omega)]at hS
 have py:kY d m.reqs=(lz m.reqs).foldl (λd r=>d.add r.id r.weight) ((m.reqs.filter (·.done)).foldl (λd r=>d.del r.id) d):=rfl
 have tx:=Du (m.reqs.filter (·.done)) d
 rw[py]
 generalize (m.reqs.filter (·.done)).foldl (λd r=>d.del r.id) d=d1 at *
 refine Gp ?_
 refine Cc (yE mp wp H m (by omega)) ?_;clear hS
 rintro u1 post rfl w hS
 try simp only[app]at hS
 refine Cc (ZI u1 m.reqs (by omega)) ?_;clear hS
 rintro u2 post rfl w hS
 try simp only[app]at hS
 have Hm:(lz m.reqs).length<=64:=by
  have:=Il m.reqs m.reqs.length
  rw[List.take_length]at this;omega
 generalize lz m.reqs=L at *
 refine zt hS (v:=u2) (t:=125) (sz:=7) (n:=L.length) (cells:=(L.map kT).flatten) Xh ?_
 refine⟨λus w=>∃i:Nat,us=[.int .i64 i]/\i<=L.length/\SL W (.ob (jS gp ((L.take i).foldl (λd r=>d.add r.id r.weight) d1))::p6 u2 L::.ob (e_ mp wp H m)::.mem H::.pt pp (mi sp mp wp gp n) 201::F) w,λus _=>match us with|[.int _ i]=>(L.length-i).toNat|_=>0,⟨0,rfl,by omega,SL.b4 hS (t:=.ob (jS gp d1)::p6 u2 L::.ob (e_ mp wp H m)::.mem H::.pt pp (mi sp mp wp gp n) 201::F) Xi⟩,?_⟩
 clear hS
 rintro v33 w ⟨i,cW,hi,hS⟩
 cases cW
 refine bW (λh=>?_) (λh=>?_)
 ·have b3:i<L.length:=by omega
  have hx:L[i]?=some L[i]:=List.getElem?_eq_getElem b3
  have kP:L.take (i+1)=L.take i++[L[i]]:=List.take_succ_eq_append_getElem b3
  have hle:=Fy (L.take i) d1
  rw[List.length_take]at hle
  refine zV hS (v:=u2) (t:=125) Xh lU hx b3 ?_
  generalize L[i]=r at *
  refine Gb λxb w hS=>?_
  refine Cc (QR gp ((L.take i).foldl (λd r=>d.add r.id r.weight) d1) r.id r.weight (by omega)) ?_;clear hS
  rintro _ post ⟨⟨e,rfl⟩,rfl⟩ w hS
  (try simp only[app]at hS);refine Gp ?_
  refine⟨⟨i+1,rfl,by omega,?_⟩,by dsimp only;omega⟩
  rw[kP,List.foldl_append]
  exact SL.b4 hS (t:=.ob (jS gp (((L.take i).foldl (λd r=>d.add r.id r.weight) d1).add r.id r.weight))::p6 u2 L::.ob (e_ mp wp H m)::.mem H::.pt pp (mi sp mp wp gp n) 201::F) Xi
 ·rw[List.take_of_length_le (by omega)]at hS
  exact⟨_,rfl,aR hS⟩
structure gF.Ok(p:gF):Prop where
 m:p.m.Ok
 d:p.d.Ok
 dl:p.d.l.length<=64
 src:∃N,mY p.k N/\N<=900000000
 n:1<=p.n/\p.n<=64
 row:(kY p.d p.m.reqs).Ok
 id : -9223372036854775808<=p.m.b8.id/\p.m.b8.id<=9223372036854775807
abbrev Db(sp tp dp lp mp wp pp gp:Nat)(H:bw)(p:gF):List Chunk:=[.pt pp (mi sp mp wp gp p.n) 201,.ob (jS gp p.d),.ob (e_ mp wp H p.m),.ob (ir sp tp dp lp p.k),.ob (cw dp p.k.d),.mem H]
def Dc(sp tp dp lp mp wp pp gp:Nat)(H:bw)(y:gF × (Int × Int))(v:Value)(post:List Chunk):Prop:=∃H',H.le H'/\v= .tuple #[.int .i64 y.2.1,.int .i64 y.2.2]/\post=Db sp tp dp lp mp wp pp gp H' y.1
theorem Qr(sp tp dp lp mp wp pp gp:Nat)(H:bw)(p:gF)(hp:p.Ok)(iO:p.k.d.ops<=90000):SP 122 [dF pp] (Db sp tp dp lp mp wp pp gp H p) (Dc sp tp dp lp mp wp pp gp H p.xM):=by
 intro W F w hS;apply b3m;delta JX aF bF a7 c_ ai;(try simp only[app]at hS)
 obtain⟨N,hk,hN⟩:=hp.src
 have D9:=hp.m.reqs.1
 have tx:=hp.dl
 have py:=hp.row
 have GX:=u_ hk.g.ok.bR
 have B':=hk.g.hd
 refine Cc (Qt sp mp wp pp gp p.n H p.m p.d D9 (by omega)) ?_;clear hS
 rintro _ post rfl w hS
 (try simp only[app]at hS);refine Gp ?_
 have D':(kY p.d p.m.reqs).l.length<=1000:=by
  have h1:=Fy (lz p.m.reqs) ((p.m.reqs.filter (·.done)).foldl (λd r=>d.del r.id) p.d)
  have h2:=Du (p.m.reqs.filter (·.done)) p.d
  have h3:=Il p.m.reqs p.m.reqs.length
  rw[List.take_length]at h3
  unfold kY;omega
 unfold gF.xM
 generalize hx:kY p.d p.m.reqs=d1 at *
 refine Cc (qG gp d1 py D') ?_;clear hS
 rintro _ post ⟨rfl,rfl⟩ w hS
 (try simp only[app]at hS);refine Gp ?_
 refine Cc (yE mp wp H p.m (by omega)) ?_;clear hS
 rintro u post rfl w hS
 try simp only[app]at hS
 have iR:∀{w:World},wy p.m.reqs d1.next.2=none->SL W (.pt pp (mi sp mp wp gp p.n) 201::.ob (jS gp d1.next.1)::.ob (e_ mp wp H p.m)::.ob (ir sp tp dp lp p.k)::.ob (cw dp p.k.d)::.mem H::F) w->∃post,Dc sp tp dp lp mp wp pp gp H (p.uB d1.next) (.tuple #[.int .i64 0,.int .i64 0]) post/\SL W (app post F) w:=λe hS=>by
  rw[show p.uB d1.next=({p with d:=d1.next.1},(0,0)) by unfold gF.uB;rw[e]]
  exact⟨_,⟨H,bw.le_refl H,rfl,rfl⟩,hS⟩
 refine Gp ?_
 refine zA (λhq=>?_) (λhq=>?_)
 ·refine iR ?_ (aR hS)
  have he:d1.l=[]:=Decidable.of_not_not (of_decide_eq_false hq)
  unfold g_.next wy
  rw[if_pos he];rfl
 have iW:d1.l≠[]:=of_decide_eq_true hq
 refine zt hS (v:=u) (t:=125) (sz:=7) (n:=p.m.reqs.length) (cells:=(p.m.reqs.map kT).flatten) Xh ?_
 refine Gp ?_
 have hid:1<=d1.next.2:=by
  unfold g_.next
  rw[if_neg iW]
  have jO:0<=d1.place/\d1.place<d1.l.length:=by
   have:=py.neg
   have:=py.mZ
   have:=py.Bz
   have:0<d1.l.length:=List.length_pos_iff.2 iW
   unfold g_.place
   split
   ·split<;>omega
   ·omega
  have hm:d1.nX∈d1.l:=by
   unfold g_.nX
   rw[List.getElem?_eq_getElem (show d1.place.toNat<d1.l.length by omega)]
   exact List.getElem_mem _
  exact (py.w _ hm).1
 refine za (λh=>iR (by unfold wy;rw[if_neg (by omega),List.getElem?_eq_none (by omega)]) (aR hS)) (λh=>?_)
 clear iR
 obtain⟨j,hj⟩:∃j:Nat,d1.next.2=(j:Int)+1:=⟨(d1.next.2-1).toNat,by omega⟩
 have jX:j<p.m.reqs.length:=by omega
 have D_:wy p.m.reqs d1.next.2=some p.m.reqs[j]:=by
  unfold wy
  rw[if_neg (by omega),hj,show ((j:Int)+1-1).toNat=j by omega,List.getElem?_eq_getElem jX]
 rw[show p.uB d1.next=({p with d:=d1.next.1}:gF).wk p.m.reqs[j] by unfold gF.uB;rw[D_]]
 unfold gF.wk
 clear D_
 rw[hj]
 generalize d1.next.1=d2 at hS ⊢
 refine Gp ?_
 refine Cg (yp sp tp dp lp p.k hk.g (by omega)) λw hS=>?_
 refine Cc (Z6 sp tp dp lp p.k H 2 (b9 p.k.g.bR+1) hk (by omega) iO) ?_;clear hS
 rintro _ post ⟨rfl,rfl⟩ w hS
 (try simp only[app]at hS);refine Gp ?_
 generalize p.k.mL 2 (b9 p.k.g.bR+1)=y at hS ⊢
 obtain⟨k',a,e⟩:=y
 simp only at hS ⊢
 refine za (λhe=>?_) (λhe=>?_)
 ·rw[if_pos he]
  exact⟨_,⟨H,bw.le_refl H,rfl,rfl⟩,aR hS⟩
 rw[if_neg he]
 refine Gp ?_
 rw[show ((j:Int)+1-1)=(j:Int) by omega]
 refine zV hS (v:=u) (t:=125) Xh lU (List.getElem?_eq_getElem jX) jX ?_
 generalize p.m.reqs[j]=r
 refine Gb λxb w hS=>?_
 obtain⟨rv,hr,hS⟩:=e_.iff.1 (SL.b4 hS (t:=.ob (e_ mp wp H p.m)::.pt pp (mi sp mp wp gp p.n) 201::.ob (jS gp d2)::.ob (ir sp tp dp lp k')::.ob (cw dp k'.d)::.mem H::F) Xi)
 refine Cc (Qz wp p.m.b8 (b9 p.k.g.bR+1) r.id r.table r.h_) ?_;clear hS
 rintro _ post ⟨⟨q,rfl⟩,rfl⟩ w hS
 try simp only[app]at hS
 have hS:=e_.put (mp:=mp) {p.m with b8:=p.m.b8.pA (b9 p.k.g.bR+1) r.id r.table r.h_} rv hr hS Xp
 exact⟨_,⟨H,bw.le_refl H,rfl,rfl⟩,aR hS⟩
theorem qy(sp tp dp lp mp wp pp gp:Nat)(H:bw)(p:gF)(hp:p.Ok)(iO:p.k.d.ops<=90000):SP 125 [dF pp] (Db sp tp dp lp mp wp pp gp H p) (Dc sp tp dp lp mp wp pp gp H p.xm):=by
 intro W F w hS;apply b3p;delta J0 aF bF aW dI ai;(try simp only[app]at hS)
 obtain⟨N,hk,hN⟩:=hp.src
 refine Gn λw hS=>?_
 obtain⟨rv,hr,hS⟩:=e_.iff.1 (SL.b4 hS (t:=.ob (e_ mp wp H p.m)::.pt pp (mi sp mp wp gp p.n) 201::.ob (jS gp p.d)::.ob (ir sp tp dp lp p.k)::.ob (cw dp p.k.d)::.mem H::F) Xi)
 refine Cg (Qy wp p.m.b8) λw hS=>?_
 unfold gF.xm
 refine Cc (Z6 sp tp dp lp p.k H 3 p.m.b8.mark hk (by omega) iO) ?_;clear hS
 rintro _ post ⟨rfl,rfl⟩ w hS
 (try simp only[app]at hS);refine Gp ?_
 generalize p.k.mL 3 p.m.b8.mark=y at hS ⊢
 obtain⟨k',a,e⟩:=y
 simp only at hS ⊢
 refine za (λhe=>?_) (λhe=>?_)
 ·rw[if_pos he]
  have hS:=e_.put (mp:=mp) p.m rv hr hS Xp
  exact⟨_,⟨H,bw.le_refl H,rfl,rfl⟩,aR hS⟩
 rw[if_neg he]
 refine Gp ?_
 refine Cc (QA wp p.m.b8) ?_;clear hS
 rintro _ post ⟨⟨q,rfl⟩,rfl⟩ w hS
 try simp only[app]at hS
 have hS:=e_.put (mp:=mp) {p.m with b8:=p.m.b8.shut} rv hr hS Xp
 exact⟨_,⟨H,bw.le_refl H,rfl,rfl⟩,aR hS⟩
theorem yg(sp tp dp lp mp wp pp gp:Nat)(H:bw)(p:gF)(hp:p.Ok)(iO:p.k.d.ops<=90000):SP 46 [dF pp] (Db sp tp dp lp mp wp pp gp H p) (Dc sp tp dp lp mp wp pp gp H p.step):=by
 intro W F w hS;apply b8l;delta MN aF bF aW dI c_ ai;(try simp only[app]at hS)
 obtain⟨N,hk,hN⟩:=hp.src
 have D9:=hp.m.reqs.1
 have cwm:=hp.n
 unfold gF.step
 refine Cg (z7 sp mp wp pp gp p.n H p.m (by omega)) λw hS=>?_
 refine zA (λhq=>?_) (λhq=>?_)
 ·rw[if_pos hq]
  exact⟨_,⟨H,bw.le_refl H,rfl,rfl⟩,aR hS⟩
 rw[if_neg (by simp[hq])]
 obtain⟨rv,hr,hS⟩:=e_.iff.1 (SL.b4 hS (t:=.ob (e_ mp wp H p.m)::.pt pp (mi sp mp wp gp p.n) 201::.ob (jS gp p.d)::.ob (ir sp tp dp lp p.k)::.ob (cw dp p.k.d)::.mem H::F) Xi)
 refine Gp ?_
 refine Cg (ZL wp p.m.b8) λw hS=>?_
 refine za (λh0=>?_) (λh0=>?_)
 ·rw[if_pos h0]
  have hS:=e_.put (mp:=mp) p.m rv hr hS Xp
  refine Cc (Qr sp tp dp lp mp wp pp gp H p hp iO) ?_;clear hS
  rintro _ post ⟨H1,iw,rfl,rfl⟩ w hS
  (try simp only[app]at hS);refine Gp ?_
  exact⟨_,⟨H1,iw,rfl,rfl⟩,aR hS⟩
 rw[if_neg h0]
 refine bW (λh1=>?_) (λh1=>?_)
 ·rw[if_pos h1]
  refine Gn λw hS=>?_
  refine Cg (qB wp p.m.b8) λw hS=>?_
  refine Cg (qA wp p.m.b8) λw hS=>?_
  refine Cc (qx sp tp dp lp p.k p.m.b8.table p.m.b8.after p.n (λC hC=>by have:=hk.len C hC;omega) (λC hC=>(hk.rows C hC).sorted) (by omega) (by omega)) ?_;clear hS
  rintro u post rfl w hS
  try simp only[app]at hS
  obtain⟨H1,iw,hR,hS⟩:=zE (H:=H) (v:=u) hS Xp
  have kH:(p.k.s9 p.m.b8.table p.m.b8.after p.n).length<=64:=by
   unfold fR.s9 lK
   rw[List.length_take];omega
  generalize p.k.s9 p.m.b8.table p.m.b8.after p.n=C at hR kH ⊢
  refine Gp ?_
  refine Cc (Qx wp p.m.b8 H1 u C hR (by omega)) ?_;clear hS
  rintro _ post ⟨⟨q,rfl⟩,rfl⟩ w hS
  try simp only[app]at hS
  have hS:=e_.put (mp:=mp) {p.m with b8:=p.m.b8.fill C} rv (hr.mono iw) hS Xp
  exact⟨_,⟨H1,iw,rfl,rfl⟩,aR hS⟩
 ·rw[if_neg h1]
  have hS:=e_.put (mp:=mp) p.m rv hr hS Xp
  refine Cc (qy sp tp dp lp mp wp pp gp H p hp iO) ?_;clear hS
  rintro _ post ⟨H1,iw,rfl,rfl⟩ w hS
  (try simp only[app]at hS);refine Gp ?_
  exact⟨_,⟨H1,iw,rfl,rfl⟩,aR hS⟩
abbrev y_(H:bw)(v:Value)(l:List Int):Prop:=gi H 1 v l.length (l.map (Value.int .i64))
def sY(p:Nat)(H:bw)(d:g_):zC:=mX λx:Value × Value=>zQ (y_ H x.1 (d.l.map Prod.fst)/\y_ H x.2 (d.l.map Prod.snd)) [.pt p [x.1,x.2,.int .i64 d.at_,.int .i64 d.left] 349]
section
variable {W w:World} {l F:List Chunk} {p:Nat} {H H':bw}
theorem sY.iff{d:g_}:SL W (.ob (sY p H d)::l) w↔∃x:Value × Value,(y_ H x.1 (d.l.map Prod.fst)/\y_ H x.2 (d.l.map Prod.snd))/\SL W (.pt p [x.1,x.2,.int .i64 d.at_,.int .i64 d.left] 349::l) w:=by
 unfold sY
 simp only[SL.ex,SL.fact,List.cons_append,List.nil_append]
theorem sY.put(d:g_)(u v:Value)(h1:y_ H u (d.l.map Prod.fst))(h2:y_ H v (d.l.map Prod.snd))(hS:SL W l w)(k:kL (.pt p [u,v,.int .i64 d.at_,.int .i64 d.left] 349) l F):SL W (.ob (sY p H d)::F) w:=sY.iff.2 ⟨(u,v),⟨h1,h2⟩,hS.perm k.perm⟩
end
theorem qX(H:bw):SP 196 [] [] (λv post=>∃p:Nat,v=dF p/\post=[.ob (sY p H lT)]):=by
 intro W F w hS;apply b48;delta KQ ai bI;(try simp only[app]at hS)
 refine yx rfl ?_
 refine⟨_,rfl,zJ hS λp w hS=>?_⟩
 exact⟨_,⟨p,rfl,rfl⟩,SL.b4 (sY.put (H:=H) lT (.slice none 0 0) (.slice none 0 0) (gi.nil _ _) (gi.nil _ _) hS Xr) Xi⟩
section
variable {W w:World} {l F:List Chunk} {H:bw}
end
abbrev II(k:ik)(rv:Value):List Value:=[.int .i64 k.n,.int .i64 k.state,.int .i64 k.id,.int .i64 k.table,.int .i64 k.mark,.int .i64 k.after,.int .i64 k.h_,.bool k.last,rv]
abbrev Fo(H:bw)(v:Value)(C:List Row):Prop:=gi H 2 v C.length (C.map iq).flatten
def tT(wp:Nat)(H:bw)(k:ik):zC:=mX λrv:Value=>zQ (Fo H rv k.rows) [.pt wp (II k rv) 214]
section
variable {W w:World} {l F:List Chunk} {wp:Nat} {H H':bw} {k:ik}
theorem tT.iff:SL W (.ob (tT wp H k)::l) w↔∃rv,Fo H rv k.rows/\SL W (.pt wp (II k rv) 214::l) w:=by
 unfold tT
 simp only[SL.ex,SL.fact,List.cons_append,List.nil_append]
theorem tT.put(k:ik)(rv:Value)(h:Fo H rv k.rows)(hS:SL W l w)(p:kL (.pt wp (II k rv) 214) l F):SL W (.ob (tT wp H k)::F) w:=tT.iff.2 ⟨rv,h,hS.perm p.perm⟩
end
section
variable (wp:Nat) (k:ik) (H:bw)
end
abbrev IB(m:g7)(wp:Nat)(rv:Value):List Value:=[.int .i64 m.tables,.int .i64 m.late,.int .i64 m.at_,rv,dF wp]
def sZ(mp wp:Nat)(H:bw)(m:g7):zC:=mX λrv:Value=>zQ (nR H rv m.reqs) [.pt mp (IB m wp rv) 212,.ob (tT wp H m.b8)]
section
variable {W w:World} {l F:List Chunk} {mp wp:Nat} {H H':bw}
theorem sZ.iff{m:g7}:SL W (.ob (sZ mp wp H m)::l) w↔∃rv,nR H rv m.reqs/\SL W (.pt mp (IB m wp rv) 212::.ob (tT wp H m.b8)::l) w:=by
 unfold sZ
 simp only[SL.ex,SL.fact,List.cons_append,List.nil_append]
theorem sZ.put(m:g7)(rv:Value)(hr:nR H rv m.reqs)(hS:SL W l w)(p:ky [.pt mp (IB m wp rv) 212,.ob (tT wp H m.b8)] l F):SL W (.ob (sZ mp wp H m)::F) w:=sZ.iff.2 ⟨rv,hr,hS.pick p⟩
end
theorem q7(H:bw)(tables late chunk aI:Int)(v:Value)(L:List Rq)(hv:nR H v L)(hn:L.length<=1000):
  SP 114 [.int .i64 tables,.int .i64 late,.int .i64 chunk,.int .i64 aI,v] [.mem H] (λu post=>(sM tables late chunk aI L/\u= .pointer none/\post=[.mem H])\/(¬sM tables late chunk aI L/\∃(mp wp:Nat) (H':bw),H.le H'/\u=dF mp/\post=[.ob (sZ mp wp H' ⟨tables,late,aI,L,ko chunk⟩),.mem H'])):=by
 intro W F w hS;apply b3d;delta JO aF a7 c_ ai eI bI;(try simp only[app]at hS)
 have g9:∀{w:World},sM tables late chunk aI L->SL W (.mem H::F) w->∃post,((sM tables late chunk aI L/\(Value.pointer none)= .pointer none/\post=[.mem H])\/(¬sM tables late chunk aI L/\∃(mp wp:Nat) (H':bw),H.le H'/\(Value.pointer none)=dF mp/\post=[.ob (sZ mp wp H' ⟨tables,late,aI,L,ko chunk⟩),.mem H']))/\SL W (app post F) w:=λh hS=>⟨_,.inl ⟨h,rfl,rfl⟩,hS⟩
 refine Gp ?_
 refine za (λh=>g9 (.inl h) hS) (λh1=>?_)
 refine Gp ?_
 refine za (λh=>g9 (.inr (.inl h)) hS) (λh2=>?_)
 refine Gp ?_
 refine za (λh=>g9 (.inr (.inr (.inl h))) hS) (λh3=>?_)
 obtain⟨n,rfl⟩:∃n:Nat,tables=n:=⟨tables.toNat,by omega⟩
 have aww:(2:Int) ^ n<=256:=by
  have:n<=8:=by omega
  match n,this with
  | 0,_=>decide
  | 1,_=>decide
  | 2,_=>decide
  | 3,_=>decide
  | 4,_=>decide
  | 5,_=>decide
  | 6,_=>decide
  | 7,_=>decide
  | 8,_=>decide
 have xC:(0:Int)<2 ^ n:=Int.pow_pos (by decide)
 refine TJ (by omega) ?_
 refine Qn (by omega) (by omega) ?_
 rw[Int.one_mul]
 refine Gp ?_
 refine za (λh=>g9 (.inr (.inr (.inr (.inl (by rw[Int.toNat_natCast];exact h))))) hS) (λh4=>?_)
 refine Gp ?_
 refine za (λh=>g9 (.inr (.inr (.inr (.inr (.inr (.inr (.inl h))))))) hS) (λh5=>?_)
 refine Gp ?_
 refine za (λh=>g9 (.inr (.inr (.inr (.inr (.inr (.inr (.inr (.inl h)))))))) hS) (λh6=>?_)
 refine Gp ?_
 refine za (λh=>g9 (.inr (.inr (.inr (.inr (.inl h))))) hS) (λh7=>?_)
 refine Gp ?_
 refine za (λh=>g9 (.inr (.inr (.inr (.inr (.inr (.inl h)))))) hS) (λh8=>?_)
 refine Cc (YE H v L hv (by omega)) ?_;clear hS
 rintro _ post ⟨q,rfl,hq,rfl⟩ w hS
 (try simp only[app]at hS);refine Gp ?_
 refine zA (λhe=>g9 (.inr (.inr (.inr (.inr (.inr (.inr (.inr (.inr (.inl λh=>by rw[hq.2 h]at he;cases he))))))))) hS) (λhe=>?_)
 have hm:=hq.1 he
 refine⟨λus w=>∃i:Nat,us=[.int .i64 i]/\i<=L.length/\(∀j (h:j<L.length),j<i->L[j].table<(n:Int)/\L[j].at_<=aI)/\SL W (.mem H::F) w,λus _=>match us with|[.int _ i]=>(L.length-i).toNat|_=>0,⟨0,rfl,by omega,λj h hj=>by omega,hS⟩,?_⟩
 clear hS
 rintro v11 w ⟨i,cW,hi,iz,hS⟩
 cases cW
 refine zo hv ?_
 refine bW (λh=>?_) (λh=>?_)
 ·have b3:i<L.length:=by omega
  have hx:L[i]?=some L[i]:=List.getElem?_eq_getElem b3
  have Ry:=List.getElem_mem b3
  refine zH hS Xh lU hv hx b3 (i:=1) rfl ?_
  refine Gp ?_
  refine za (λh=>g9 (.inr (.inr (.inr (.inr (.inr (.inr (.inr (.inr (.inr ⟨_,Ry,.inl h⟩))))))))) hS) (λh9=>?_)
  refine zH hS Xh lU hv hx b3 (i:=3) rfl ?_
  refine Gp ?_
  refine za (λh=>g9 (.inr (.inr (.inr (.inr (.inr (.inr (.inr (.inr (.inr ⟨_,Ry,.inr h⟩))))))))) hS) (λvR=>?_)
  refine Gp ?_
  refine⟨⟨i+1,rfl,by omega,λj hj k9=>?_,hS⟩,by dsimp only;omega⟩
  rcases Nat.lt_or_ge j i with xa|xa
  ·exact iz j hj xa
  ·obtain rfl:j=i:=by omega
   exact⟨by omega,by omega⟩
 ·clear g9
  refine Gb λb w hS=>?_
  have hS:SL W (.ob (a_ (.slice (some ⟨b,0,none⟩) 0 0) 125 7 0 [])::_) w:=a_.full (n:=0) (sz:=7) (cells:=[]) rfl hS
  refine zx (n:=0) (m:=L.length) hS Xr (si hS Xh hv) (mH lU L) rfl (pT Ak L) (by omega) (by omega) λu w hS=>?_
  rw[List.nil_append,Nat.zero_add]at hS
  obtain⟨H1,iw,hR,hS⟩:=zE (H:=H) (v:=u) hS Xp
  have hu:u.oneCell'=true:=hR.one
  refine Gp ?_
  refine⟨_,rfl,zJ hS λwp w hS=>?_⟩
  refine yx (cells:=[.int .i64 n,.int .i64 late,.int .i64 aI,u,dF wp]) (by simp[lx,show ∀n,(Value.int .i64 n).cells = #[.int .i64 n] from λ_=>rfl,show (Value.pointer (some ⟨wp,0,none⟩)).cells = #[dF wp] from rfl,vq hu]) ?_
  refine⟨_,rfl,zJ hS λmp w hS=>?_⟩
  have b5:¬sM n late chunk aI L:=by
   rintro (h|h|h|h|h|h|h|h|h|⟨r,hr,h⟩)
   ·exact h1 h
   ·exact h2 h
   ·exact h3 h
   ·rw[Int.toNat_natCast]at h;exact h4 h
   ·exact h7 h
   ·exact h8 h
   ·exact h5 h
   ·exact h6 h
   ·exact h hm
   ·obtain⟨j,hj,rfl⟩:=List.getElem_of_mem hr
    have:=iz j hj (by omega);omega
  have hS:=tT.put (wp:=wp) (H:=H1) (ko chunk) (.slice none 0 0) (gi.nil _ _) hS Xr
  have hS:=sZ.put (wp:=wp) ⟨n,late,aI,L,ko chunk⟩ u hR hS Xp
  exact⟨_,.inr ⟨b5,mp,wp,H1,iw,rfl,rfl⟩,aR hS⟩
theorem Ww{b:List UInt8}{l:List gW}(h:lu b= .ok l)(h2:¬((n_ ⟨l,false⟩).2.bad=false/\(n_ ⟨l,false⟩).2.l=[]/\iM (n_ ⟨l,false⟩).1=true)):l6 b= .error 3:=by
 unfold l6;rw[h];simp only;rw[<- Ot];unfold Dt;simp only;rw[if_neg h2]
theorem Wv{b:List UInt8}{l:List gW}(h:lu b= .ok l)(h2:(n_ ⟨l,false⟩).2.bad=false/\(n_ ⟨l,false⟩).2.l=[]/\iM (n_ ⟨l,false⟩).1=true):l6 b= .ok (n_ ⟨l,false⟩).1:=by
 unfold l6;rw[h];simp only;rw[<- Ot];unfold Dt;simp only;rw[if_pos h2]
structure Fu(l:List gW)(aI kind mark:Int)(r3:cF):Prop where
 aI:(n_ ⟨l,false⟩).1.aI=aI
 kind:(n_ ⟨l,false⟩).1.kind=kind
 mark:(n_ ⟨l,false⟩).1.mark=mark
 ch:(n_ ⟨l,false⟩).1.changes=(iJ mF (fw 16 r3).1.toNat (fw 16 r3).2).1
 sg:∀r4,(iJ mF (fw 16 r3).1.toNat (fw 16 r3).2).2=r4->(n_ ⟨l,false⟩).1.signals=(iJ iV (fw 2 r4).1.toNat (fw 2 r4).2).1/\(n_ ⟨l,false⟩).2=(iJ iV (fw 2 r4).1.toNat (fw 2 r4).2).2
theorem Fu.is(l:List gW):Fu l (fw 1099511627776 ⟨l,false⟩).1 (fw 3 (fw 1099511627776 ⟨l,false⟩).2).1 (fw 1099511627776 (fw 3 (fw 1099511627776 ⟨l,false⟩).2).2).1 (fw 1099511627776 (fw 3 (fw 1099511627776 ⟨l,false⟩).2).2).2:=⟨rfl,rfl,rfl,rfl,λr4 h=>by subst h;exact⟨rfl,rfl⟩⟩
theorem Ql(X:Chunk)(H:bw)(v:Value)(bs:List UInt8)(hv:ie X v bs)(hN:bs.length<=140737488355328):SP 180 [v] [X,.mem H] (sj X H bs):=by
 intro W F w hS;apply b4w;delta KE aF bF aW c_ ai cI bI;(try simp only[app]at hS)
 refine Gb λzb w hS=>?_
 refine Cc (yP X v bs hv hN) ?_;clear hS
 rintro r post hq w hS
 unfold rH at hq
 cases hd:lu bs with
 | error e=>
  rw[hd]at hq
  obtain⟨rfl,rfl⟩:=hq
  have he:=Dr hd
  (try simp only[app]at hS);refine Gp ?_
  refine za (λ_=>?_) (λh=>absurd he h)
  refine Gn λw hS=>?_
  exact⟨[X,.mem H],by unfold sj;rw[Ou hd];exact⟨he,H,bw.le_refl H,rfl,rfl⟩,aR hS⟩
 | ok l=>
  rw[hd]at hq
  obtain⟨lv,rfl,rfl⟩:=hq
  try simp only[app]at hS
  refine Gp ?_
  refine za (λh=>absurd rfl h) (λ_=>?_)
  obtain⟨la,lc,rfl,_⟩:=a_.at hS (v:=lv) .hd
  refine Gp ?_
  refine zK hS λrp w hS=>?_
  have hS:=(j_.iff (r:=⟨l,false⟩)).2 ⟨_,l,0,⟨Nat.zero_le _,Oj hd,rfl⟩,hS⟩
  refine Cc (zO rp ⟨l,false⟩ 1099511627776) ?_;clear hS
  rintro v1 post ⟨rfl,rfl⟩ w hS
  try simp only[app]at hS
  refine Gp ?_
  refine Gb λxb w hS=>?_
  refine Cc (zO rp _ 3) ?_;clear hS
  rintro v1 post ⟨rfl,rfl⟩ w hS
  refine Gn λw hS=>?_
  refine Cc (zO rp _ 1099511627776) ?_;clear hS
  rintro v1 post ⟨rfl,rfl⟩ w hS
  refine Gn λw hS=>?_
  have hI:=Fu.is l
  generalize (fw 1099511627776 (fw 3 (fw 1099511627776 ⟨l,false⟩).2).2).1=mark at *
  generalize (fw 1099511627776 (fw 3 (fw 1099511627776 ⟨l,false⟩).2).2).2=r3 at *
  generalize (fw 3 (fw 1099511627776 ⟨l,false⟩).2).1=kind at *
  generalize (fw 1099511627776 ⟨l,false⟩).1=aI at *
  have tB:=Ek (m:=16) (by decide) r3
  have hS:SL W (tP (.slice none 0 0) []::_) _:=a_.nil hS
  have hS:SL W (tU (.slice none 0 0) []::_) _:=a_.nil hS
  refine Cc (zO rp r3 16) ?_;clear hS
  rintro v1 post ⟨rfl,rfl⟩ w hS
  try simp only[app]at hS
  refine⟨λus w=>us=[]/\∃cv,SL W (tP cv (iJ mF (fw 16 r3).1.toNat (fw 16 r3).2).1::.ob (j_ rp (iJ mF (fw 16 r3).1.toNat (fw 16 r3).2).2)::tU (.slice none 0 0) []::.pt xb [.int .i64 aI,.int .i64 kind,cv,.slice none 0 0,.int .i64 mark] 39::vI zb::X::.mem H::F) w,?_,?_⟩
  ·generalize (fw 16 r3).1=n1 at *
   generalize (fw 16 r3).2=r2 at *
   refine⟨λus w=>∃(i k:Nat) (kM:List ig) (r:cF) (cv:Value),us=[.int .i64 i]/\n1=((i+k:Nat):Int)/\nD mF n1.toNat r2 kM k r/\SL W (tP cv kM::.ob (j_ rp r)::tU (.slice none 0 0) []::.pt xb [.int .i64 aI,.int .i64 kind,cv,.slice none 0 0,.int .i64 mark] 39::vI zb::X::.mem H::F) w,
    λus _=>match us with|[.int _ i]=>(n1-i).toNat|_=>0,⟨0,n1.toNat,[],r2,.slice none 0 0,rfl,by omega,nD.start _ _ _,aR hS⟩,?_⟩
   clear hS
   rintro v8 w ⟨i,k,kM,r,cv,cW,hn,hM,hS⟩
   cases cW
   have hle:=hM.le
   refine bW (λh=>?_) (λh=>?_)
   ·refine Gp ?_
    refine j_.Dl (r:=r) (Has.front hS Xr) ?_
    refine Gp ?_
    refine zA (λhb=>?_) (λhb=>?_)
    ·obtain⟨k,rfl⟩:∃j,k=j+1:=⟨k-1,by omega⟩
     have hM:=hM.step hb
     refine Gn λw hS=>?_
     refine Cg (bw7 rp r) λw hS=>?_;refine Gm λb w hS=>?_
     refine yy (n:=kM.length) (xs:=kM) (y:=(mF r).1) (enc:=jA) hS Xr Xh m0 (λx=>F5 x) rfl (by omega) (by omega) λu w hS=>?_
     have h1:=a_.one hS
     refine Gn λw hS=>?_
     refine⟨⟨i+1,k,_,_,u,rfl,by omega,hM,?_⟩,by dsimp only;omega⟩
     have hS:=hS.sS (x:=(mF r).1)
     exact aR hS
    ·refine⟨rfl,cv,?_⟩
     rw[hM.stop (.inr hb)];exact aR hS
   ·refine⟨rfl,cv,?_⟩
    rw[hM.stop (.inl (by omega))];exact aR hS
  ·clear hS
   rintro w ⟨_,cv,hS⟩
   have na:=hI.ch
   obtain⟨AN,gw⟩:=hI.sg _ rfl
   generalize (iJ mF (fw 16 r3).1.toNat (fw 16 r3).2).1=kM at *
   generalize (iJ mF (fw 16 r3).1.toNat (fw 16 r3).2).2=r4 at *
   have Hh:=Ek (m:=2) (by decide) r4
   refine Cc (zO rp r4 2) ?_;clear hS
   rintro v1 post ⟨rfl,rfl⟩ w hS
   try simp only[app]at hS
   refine⟨λus w=>us=[]/\∃sv,SL W (tU sv (iJ iV (fw 2 r4).1.toNat (fw 2 r4).2).1::.ob (j_ rp (iJ iV (fw 2 r4).1.toNat (fw 2 r4).2).2)::tP cv kM::.pt xb [.int .i64 aI,.int .i64 kind,cv,sv,.int .i64 mark] 39::vI zb::X::.mem H::F) w,?_,?_⟩
   ·generalize (fw 2 r4).1=n1 at *
    generalize (fw 2 r4).2=r2 at *
    refine⟨λus w=>∃(i k:Nat) (sh:List ByteArray) (r:cF) (sv:Value),us=[.int .i64 i]/\n1=((i+k:Nat):Int)/\nD iV n1.toNat r2 sh k r/\SL W (tU sv sh::.ob (j_ rp r)::tP cv kM::.pt xb [.int .i64 aI,.int .i64 kind,cv,sv,.int .i64 mark] 39::vI zb::X::.mem H::F) w,
     λus _=>match us with|[.int _ i]=>(n1-i).toNat|_=>0,⟨0,n1.toNat,[],r2,.slice none 0 0,rfl,by omega,nD.start _ _ _,aR hS⟩,?_⟩
    clear hS
    rintro v8 w ⟨i,k,sh,r,sv,cW,hn,hM,hS⟩
    cases cW
    have hle:=hM.le
    refine bW (λh=>?_) (λh=>?_)
    ·refine Gp ?_
     refine j_.Dl (r:=r) (Has.front hS Xr) ?_
     refine Gp ?_
     refine zA (λhb=>?_) (λhb=>?_)
     ·obtain⟨k,rfl⟩:∃j,k=j+1:=⟨k-1,by omega⟩
      have hM:=hM.step hb
      refine Gn λw hS=>?_
      refine Cg (y2 rp r) λw hS=>?_;refine Gm λb w hS=>?_
      refine yy (n:=sh.length) (xs:=sh) (y:=(iV r).1) (enc:=λs=>[Value.string s]) hS Xr Xh (λ_=>rfl) (by simp[Value.oneCell']) rfl (by omega) (by omega) λu w hS=>?_
      have h1:=a_.one hS
      refine Gn λw hS=>?_
      refine⟨⟨i+1,k,_,_,u,rfl,by omega,hM,?_⟩,by dsimp only;omega⟩
      have hS:=hS.sS (x:=(iV r).1)
      exact aR hS
     ·refine⟨rfl,sv,?_⟩
      rw[hM.stop (.inr hb)];exact aR hS
    ·refine⟨rfl,sv,?_⟩
     rw[hM.stop (.inl (by omega))];exact aR hS
   ·clear hS
    rintro w ⟨_,sv,hS⟩
    generalize (iJ iV (fw 2 r4).1.toNat (fw 2 r4).2).1=sh at *
    generalize (iJ iV (fw 2 r4).1.toNat (fw 2 r4).2).2=r at *
    have ny:=hI.aI
    have G5:=hI.kind
    have Hb:=hI.mark
    clear hI
    generalize ht:(n_ ⟨l,false⟩).1=t at *
    generalize hr:(n_ ⟨l,false⟩).2=r' at *
    subst gw na AN
    obtain⟨H1,iw,hO,hS⟩:=a_.freeze (SL.b4 hS (t:=.mem H::tP cv t.changes::tU sv t.signals::.ob (j_ rp r')::.pt xb [.int .i64 aI,.int .i64 kind,cv,sv,.int .i64 mark] 39::vI zb::X::F) Xi)
    obtain⟨H2,iB,BU,hS⟩:=a_.freeze hS
    rw[Ud]at BU
    have hx:mn H2 ⟨aI,kind,cv,sv,mark⟩ t:=⟨ny.symm,G5.symm,Hb.symm,hO.mono iB,BU⟩
    have kF:=bw.le_trans iw iB
    have kj:=hO.one
    have nu:=BU.one
    refine Cg (Yr rp r') λw hS=>?_
    have iR:¬(r'.bad=false/\r'.l=[]/\iM t=true)->∀{w:World},SL W (X::.mem H2::F) w->∃post,sj X H bs (.tuple #[agg (iU uI),.int .i64 3]) post/\SL W (app post F) w:=λh w hS=>⟨[X,.mem H2],by unfold sj;rw[Ww hd (by rw[ht,hr];exact h)];exact⟨by decide,H2,kF,rfl,rfl⟩,hS⟩
    refine zA (λhb=>?_) (λhb=>?_)
    ·have hb:=of_decide_eq_false hb
     refine Gn λw hS=>?_
     exact iR (λh=>hb ⟨h.1,h.2.1⟩) (aR hS)
    ·have hb:=of_decide_eq_true hb
     refine Gp ?_
     refine Cg (y0 H2 ⟨aI,kind,cv,sv,mark⟩ t hx) λw hS=>?_
     refine zA (λhm=>?_) (λhm=>?_)
     ·refine Gn λw hS=>?_
      exact iR (λh=>by rw[h.2.2]at hm;cases hm) (aR hS)
     ·refine Gp ?_
      refine zD (vs:=iU ⟨aI,kind,cv,sv,mark⟩) hS Xu rfl rfl (sA kj nu) λw hS=>?_
      refine Gp ?_
      exact⟨[X,.mem H2],by unfold sj;rw[Wv hd (by rw[ht,hr];exact⟨hb.1,hb.2,hm⟩),ht];exact⟨⟨aI,kind,cv,sv,mark⟩,H2,kF,rfl,hx,rfl⟩,aR hS⟩
theorem SL.aRz{W w:World}{l:List Chunk}{H:bw}{b:Nat}{cs:List Value}{t:TypeId}(h:SL W (.mem H::.pt b cs t::l) w):∃H',H.le H'/\(∀o v,cs[o]?=some v->H'.cell b o=some v)/\SL W (.mem H'::l) w/\∀{W':World} {l':List Chunk} {w':World},SL W' (.mem H'::l') w'->SL W' (.mem H::.pt b cs t::l') w':=by
 obtain⟨a1,a2,a3,k,⟨h1,h2,s,e1,h3,h4,s',⟨f,hf,e3⟩,r⟩,m⟩:=h
 have e1:h1=H:=e1
 subst e1 e3
 obtain⟨k',x,y⟩:=s.join s'
 refine⟨k',λb o e=>y.left b o e,λo v e=>?_,⟨a1,a2,a3,k,⟨k',h4,x,rfl,r⟩,m⟩,?_⟩
 ·have:k' b=some (.cells cs.toArray t f):=y.right b _ (by simp[bw.one])
  simp[bw.cell,this,e]
 ·rintro W' l' w' ⟨c1,c2,c3,kk,⟨q1,q2,sq,e4,rq⟩,mq⟩
  have e4:q1=k':=e4
  subst e4
  obtain⟨j,u,v⟩:=sq.assoc y
  exact⟨c1,c2,c3,kk,⟨_,j,u,rfl,_,q2,v,⟨f,hf,rfl⟩,rq⟩,mq⟩
theorem bIm{W w:World}{l F:List Chunk}{H:bw}{v:Value}{t:TypeId}{sz n:Nat}{cells:List Value}(hS:SL W l w)(hp:ky [.mem H,.ob (a_ v t sz n cells)] l F):
  ∃H',H.le H'/\gi H' sz v n cells/\SL W (.mem H'::F) w/\∀{W':World} {l':List Chunk} {w':World},SL W' (.mem H'::l') w'->SL W' (.mem H::.ob (a_ v t sz n cells)::l') w':=by
 have h:=hS.pick hp
 rcases a_.open (h.perm (.swap _ _ _)) with ⟨⟨a,rfl⟩,rfl,rfl,hS⟩|⟨b,cap,rest,rfl,hc,hlen,nc,hS⟩
 ·exact⟨H,bw.le_refl H,⟨by simp,a,0,rfl,Nat.le_refl _,.inl rfl⟩,hS,λh2=>(a_.r9 h2).perm (.swap _ _ _)⟩
 ·obtain⟨H',h1,h2,h3,h4⟩:=SL.aRz (hS.perm (.swap _ _ _))
  refine⟨H',h1,⟨hlen,_,cap,rfl,hc,.inr ⟨b,0,rfl,λj u hu=>?_⟩⟩,h3,λh5=>?_⟩
  ·rw[Nat.zero_add]
   refine h2 j u ?_
   rw[List.getElem?_append_left (List.getElem?_eq_some_iff.1 hu).1];exact hu
  ·exact (a_.mk hc hlen nc ((h4 h5).perm (.swap _ _ _))).perm (.swap _ _ _)
theorem Zp(H:bw)(v:Value)(aI:Int)(ts:List (List Row))(hv:uK H v ts)(hn:ts.length<=140737488351232)(hc:∀C∈ts,C.length<=140737488351232):SP 91 [.int .i64 aI,v] [.mem H] (dW (.bool (lg aI ts)) [.mem H]):=by
 intro W F w hS;apply b9k;delta No aF a7 b7 ai;(try simp only[app]at hS)
 have hF:∀{w:World},¬(0<=aI/\aI<=1099511627776/\1<=ts.length/\ts.length<=8)->SL W (.mem H::F) w->∃post,dW (.bool (lg aI ts)) [.mem H] (.bool false) post/\SL W (app post F) w:=λiR hS=>⟨_,⟨by unfold lg;rw[decide_eq_false iR];rfl,rfl⟩,hS⟩
 refine Gp ?_
 refine za (λh=>hF (by omega) hS) (λh1=>?_)
 refine Gp ?_
 refine za (λh=>hF (by omega) hS) (λh2=>?_)
 refine yr hv ?_
 refine Gp ?_
 refine za (λh=>hF (by omega) hS) (λh3=>?_)
 refine yr hv ?_
 refine Gp ?_
 refine za (λh=>hF (by omega) hS) (λh4=>?_)
 have hM:lg aI ts=ts.all ng:=by unfold lg;rw[decide_eq_true (show 0<=aI/\aI<=1099511627776/\1<=ts.length/\ts.length<=8 by omega)];rfl
 refine⟨λus w=>∃i:Nat,us=[.int .i64 i]/\i<=ts.length/\(∀j (h:j<ts.length),j<i->ng ts[j]=true)/\SL W (.mem H::F) w,λus _=>match us with|[.int _ i]=>(ts.length-i).toNat|_=>0,⟨0,rfl,by omega,λj h hj=>by omega,hS⟩,?_⟩
 clear hS
 rintro v5 w ⟨i,cW,hi,iz,hS⟩
 cases cW
 refine yr hv ?_
 refine bW (λh=>?_) (λh=>?_)
 ·have b3:i<ts.length:=by omega
  refine YO hS Xh hv b3 λcv pq=>?_
  have vU:=hc _ (List.getElem_mem b3)
  have iR:∀{w:World},ng ts[i]=false->SL W (.mem H::F) w->∃post,dW (.bool (lg aI ts)) [.mem H] (.bool false) post/\SL W (app post F) w:=λhb hS=>
   ⟨_,⟨by rw[hM,show ts.all ng=false from List.all_eq_false.2 ⟨_,List.getElem_mem b3,by rw[hb];decide⟩],rfl⟩,hS⟩
  have aFr:ng ts[i]=true->∀j (h:j<ts.length),j<i+1->ng ts[j]=true:=λhb j hj k9=>by
   by_cases e:j=i
   ·subst e;exact hb
   ·exact iz j hj (by omega)
  generalize ts[i]=C at *
  refine zo pq ?_
  refine Gp ?_
  refine za (λh5=>iR (by unfold ng;rw[decide_eq_false (show ¬C.length<=1000 by omega),Bool.and_false]) hS) (λh5=>?_)
  refine⟨λus w=>∃(j:Nat) (k:Int),us=[.int .i64 j]/\j<=C.length/\0<=k/\(∀(h:0<j) (h2:j<=C.length),k=(C[j-1]'(by omega)).key)/\(j=0->k=0)/\sf 0 C=sf k (C.drop j)/\SL W (.mem H::F) w,
   λus _=>match us with|[.int _ i]=>(C.length-i).toNat|_=>0,⟨0,0,rfl,by omega,Int.le_refl _,λh=>absurd h (by decide),λ_=>rfl,rfl,hS⟩,?_⟩
  clear hS
  rintro v7 w ⟨j,k,cW,hj,D1,Cj,awd,hr,hS⟩
  cases cW
  refine zo pq ?_
  refine bW (λh=>?_) (λh=>?_)
  ·have jX:j<C.length:=by omega
   rw[List.drop_eq_getElem_cons jX,sf]at hr
   have hx:C[j]?=some C[j]:=List.getElem?_eq_getElem jX
   have DK:∀{w:World},¬(k<C[j].key/\C[j].key<=1099511627776/\C[j].val.size<=32)->SL W (.mem H::F) w->∃post,dW (.bool (lg aI ts)) [.mem H] (.bool false) post/\SL W (app post F) w:=λhn hS=>
    iR (by unfold ng;rw[hr,decide_eq_false hn];rfl) hS
   have ry:∀{w:World},(k<C[j].key/\C[j].key<=1099511627776/\C[j].val.size<=32)->SL W (.mem H::F) w->∃(j':Nat) (k':Int),[Value.int .i64 ((j+1:Nat):Int)]=[.int .i64 j']/\j'<=C.length/\0<=k'/\(∀(h:0<j') (h2:j'<=C.length),k'=(C[j'-1]'(by omega)).key)/\(j'=0->k'=0)/\sf 0 C=sf k' (C.drop j')/\SL W (.mem H::F) w:=λhn hS=>
    ⟨j+1,C[j].key,rfl,by omega,by omega,λ_ _=>rfl,λh=>by omega,by rw[hr,decide_eq_true hn];rfl,hS⟩
   refine Gn λw hS=>?_
   refine zH hS Xh jY pq hx jX (i:=0) rfl ?_
   refine Gp ?_
   refine za (λh=>DK (by omega) hS) (λh6=>?_)
   refine zH hS Xh jY pq hx jX (i:=0) rfl ?_
   refine Gp ?_
   refine za (λh=>DK (by omega) hS) (λh7=>?_)
   refine zH hS Xh jY pq hx jX (i:=1) rfl ?_
   refine Gp ?_
   refine za (λh=>DK (by omega) hS) (λh8=>?_)
   refine bW (λh9=>?_) (λh9=>?_)
   ·have Rm:j-1<C.length:=by omega
    have hp:=Cj (by omega) hj
    refine zH hS Xh jY pq hx jX (i:=0) rfl ?_
    refine Gp ?_
    rw[show ((j:Nat):Int)-1=((j-1:Nat):Int) by omega]
    refine zH hS Xh jY pq (x:=C[j-1]) (List.getElem?_eq_getElem Rm) Rm (i:=0) rfl ?_
    refine Gp ?_
    refine za (λh=>DK (by omega) hS) (λvR=>?_)
    refine Gp ?_
    exact⟨ry (by omega) (aR hS),by dsimp only;omega⟩
   ·have hp:=awd (by omega)
    refine Gp ?_
    exact⟨ry (by omega) (aR hS),by dsimp only;omega⟩
  ·have hje:j=C.length:=by omega
   subst hje
   rw[List.drop_length]at hr
   refine Gp ?_
   exact⟨⟨i+1,rfl,by omega,aFr (by unfold ng;rw[hr,decide_eq_true (show C.length<=1000 by omega)];rfl),aR hS⟩,by dsimp only;omega⟩
 ·refine⟨_,⟨?_,rfl⟩,hS⟩
  rw[hM,show ts.all ng=true from List.all_eq_true.2 λC hC=>by
   obtain⟨j,hj,rfl⟩:=List.getElem_of_mem hC
   exact iz j hj (by omega)]
theorem W6{aI:Int}{ts:List (List Row)}{i:Nat}{C:List Row}{j:Nat}(h:j<C.length):sB aI ts i C (j+1)=sB aI ts i C j++[iF C[j].key,tF C[j].val]:=by
 rw[W5 h,List.append_assoc];rfl
theorem cFi(H:bw)(v:Value)(aI:Int)(ts:List (List Row))(hv:uK H v ts)(hn:ts.length<=140737488351232)(hc:∀C∈ts,C.length<=140737488351232):SP 32 [.int .i64 aI,v] [.mem H] (Ff H aI ts):=by
 intro W F w hS;apply b7t;delta Mn aF a7 aW c_ ai cI bI;(try simp only[app]at hS)
 refine Cg (Zp H v aI ts hv hn hc) λw hS=>?_
 refine zA (λh=>?_) (λhm=>?_)
 ·exact⟨[.mem H],by unfold Ff F8;rw[if_neg (by rw[h];decide)];exact⟨rfl,rfl⟩,aR hS⟩
 obtain⟨hb,hT⟩:=tL.1 hm
 have GL:∀C∈ts,C.length<=1000:=λC hC=>(hT C hC).len
 have h8:ts.length*2001<=8*2001:=Nat.mul_le_mul_right _ (by omega)
 obtain⟨vs,mU,l8⟩:=id hv
 refine Cg (zM aI) λw hS=>?_
 refine yr hv ?_
 refine Cg (zM ts.length) λw hS=>?_
 refine zz hS (O4 (iF aI) (iF ts.length)) λb w hS=>?_
 have hS:=a_.full (n:=2) (sz:=3) rfl hS
 have hS:SL W (mj _ (te aI ts 0)::_) _:=hS
 refine⟨λus w=>∃(i:Nat) (u:Value),us=[u,.int .i64 i]/\i<=ts.length/\SL W (mj u (te aI ts i)::.mem H::F) w,λus _=>match us with|[_,.int _ i]=>(ts.length-i).toNat|_=>0,⟨0,_,rfl,by omega,aR hS⟩,?_⟩
 clear hS
 rintro u v7 w ⟨i,_,cW,hi,hS⟩
 cases cW
 have uh:=OV (aI:=aI) GL i
 refine yr hv ?_
 refine bW (λh=>?_) (λh=>?_)
 ·have b3:i<ts.length:=by omega
  have hs:=W3 (aI:=aI) b3
  have vU:=GL _ (List.getElem_mem b3)
  have Ri:i<vs.length:=by rw[l8.1];exact b3
  have hu:vs[i]?=some vs[i]:=List.getElem?_eq_getElem Ri
  have pq:=l8.2 i _ _ hu (List.getElem?_eq_getElem b3)
  generalize vs[i]=cv at *
  generalize ts[i]=C at *
  refine yS hS Xh mU b3 hu ?_
  refine zo pq ?_
  refine Cg (zM C.length) λw hS=>?_;refine Gm λb w hS=>?_
  refine yB (L:=te aI ts i) (M:=[iF C.length]) hS Xr (CY hS Xh) (by simp;omega) λu3 w hS=>?_
  have hS:SL W (mj u3 (sB aI ts i C 0)::_) _:=hS
  refine⟨λus w=>∃(j:Nat) (u:Value),us=[u,.int .i64 j]/\j<=C.length/\SL W (mj u (sB aI ts i C j)::.mem H::F) w,λus _=>match us with|[_,.int _ i]=>(C.length-i).toNat|_=>0,⟨0,_,rfl,by omega,aR hS⟩,?_⟩
  clear hS
  rintro u v8 w ⟨j,_,cW,hj,hS⟩
  cases cW
  have DH:=W4 (aI:=aI) GL i vU j
  refine yS hS Xh mU b3 hu ?_
  refine zo pq ?_
  refine bW (λh=>?_) (λh=>?_)
  ·have jX:j<C.length:=by omega
   have hs2:=W6 (aI:=aI) (ts:=ts) (i:=i) jX
   have hx:C[j]?=some C[j]:=List.getElem?_eq_getElem jX
   generalize C[j]=r at *
   obtain⟨rk,rv⟩:=r
   refine Gn λw hS=>?_
   refine yS hS Xh mU b3 hu ?_
   refine zH hS Xh jY pq hx jX (i:=0) rfl ?_
   refine ZB mU b3 λb1 o1 vX=>?_
   have kj:=vX 0 cv (by omega) (by simpa using hu)
   refine ZJ hS Xh kj ?_
   refine ZB pq jX λb2 o2 po=>zR ?_
   have nu:=po 1 (.string rv) (by omega) (rS jY C j 1 _ _ hx rfl)
   refine ZJ hS Xh nu ?_
   refine Cg (zM rk) λw hS=>?_
   refine ZJ hS Xh kj (YP ?_)
   refine ZJ hS Xh nu (YP ?_)
   refine Cg (Za rv) λw hS=>?_
   refine zz hS (O4 (iF rk) (tF rv)) λb w hS=>?_
   refine yB (L:=sB aI ts i C j) (M:=[iF rk,tF rv]) hS Xr (lP (m:=2) (sz:=3) (cap:=2) hS Xh rfl) (by simp;omega) λu5 w hS=>?_
   refine Gp ?_
   refine⟨⟨j+1,_,rfl,by omega,?_⟩,by dsimp only;omega⟩
   rw[hs2]
   exact aR hS
  ·obtain rfl:j=C.length:=by omega
   refine Gp ?_
   refine⟨⟨i+1,_,rfl,by omega,?_⟩,by dsimp only;omega⟩
   rw[hs]
   exact aR hS
 ·obtain rfl:i=ts.length:=by omega
  rw[W2]at hS uh
  refine Cc (yQ (mj u (oT aI ts)) u (oT aI ts) pZ.own (by omega)) ?_;clear hS
  rintro r post hq w hS
  try simp only[app]at hS
  have he:=(R1 hm).1
  have hl:=R0 hm
  unfold rI at hq
  rw[he]at hq
  obtain⟨bv,rfl,rfl⟩:=hq
  (try simp only[app]at hS);refine Gp ?_
  refine Cc (ZA _ bv (vl aI ts) ie.own (by omega)) ?_;clear hS
  rintro r post hq w hS
  try simp only[app]at hS
  unfold rL at hq
  rw[if_neg (by omega)]at hq
  obtain⟨ov,rfl,rfl⟩:=hq
  (try simp only[app]at hS);refine Gp ?_
  exact⟨_,by unfold Ff F8;rw[if_pos hm];exact⟨ov,rfl,rfl⟩,aR hS⟩
def vG(X:Chunk)(H:bw)(b:List UInt8)(u:Value)(post:List Chunk):Prop:=match lO b with
 | none=>u= .tuple #[.int .i64 0,.slice none 0 0,.int .i64 3]/\∃H',H.le H'/\post=[X,.mem H']
 | some x=>∃v vs H',H.le H'/\mE H' vs x.2/\u= .tuple #[.int .i64 x.1,v,.int .i64 0]/\post=[.ob (a_ v 53 1 x.2.length vs),X,.mem H']
theorem R3{l:List gW}(h:¬((oz ⟨l,false⟩).2.bad=false/\(oz ⟨l,false⟩).2.l=[]/\lg (oz ⟨l,false⟩).1.1 (oz ⟨l,false⟩).1.2=true)):r7 l=none:=by
 rw[<- R2];unfold Ej;simp only;rw[if_neg h]
theorem aIn{l:List gW}(h:(oz ⟨l,false⟩).2.bad=false/\(oz ⟨l,false⟩).2.l=[]/\lg (oz ⟨l,false⟩).1.1 (oz ⟨l,false⟩).1.2=true):r7 l=some (oz ⟨l,false⟩).1:=by
 rw[<- R2];unfold Ej;simp only;rw[if_pos h]
structure Fg(l:List gW)(aI:Int)(r1:cF):Prop where
 aI:(oz ⟨l,false⟩).1.1=aI
 ts:(oz ⟨l,false⟩).1.2=(iJ rD (fw 8 r1).1.toNat (fw 8 r1).2).1
 rd:(oz ⟨l,false⟩).2=(iJ rD (fw 8 r1).1.toNat (fw 8 r1).2).2
theorem Fg.is(l:List gW):Fg l (fw 1099511627776 ⟨l,false⟩).1 (fw 1099511627776 ⟨l,false⟩).2:=⟨rfl,rfl,rfl⟩
theorem bR8(r:cF):rD r=iJ tN (fw 1000 r).1.toNat (fw 1000 r).2:=rfl
theorem qm(X:Chunk)(H:bw)(v:Value)(bs:List UInt8)(hv:ie X v bs)(hN:bs.length<=140737488355328):SP 178 [v] [X,.mem H] (vG X H bs):=by
 intro W F w hS;apply b4t;delta KB aF bF c_ ai cI bI;(try simp only[app]at hS)
 have iR:lO bs=none->∀{w:World} {H':bw},H.le H'->SL W (X::.mem H'::F) w->∃post,vG X H bs (.tuple #[.int .i64 0,.slice none 0 0,.int .i64 3]) post/\SL W (app post F) w:=λh w H' hh hS=>⟨[X,.mem H'],by unfold vG;rw[h];exact⟨rfl,H',hh,rfl⟩,hS⟩
 refine Cc (Z1 X v bs hv hN) ?_;clear hS
 rintro r post hq w hS
 unfold so at hq
 cases ht:kR bs with
 | error e=>
  rw[ht]at hq
  obtain⟨rfl,rfl⟩:=hq
  have hd:lO bs=none:=by unfold lO;rw[ht]
  have he:e≠0:=by have:=E5 ht;omega
  (try simp only[app]at hS);refine Gp ?_
  exact za (λ_=>iR hd (bw.le_refl H) (aR hS)) (λh=>absurd he h)
 | ok pn=>
  obtain⟨p,n⟩:=pn
  rw[ht]at hq
  obtain⟨pv,rfl,rfl⟩:=hq
  (try simp only[app]at hS);refine Gp ?_
  refine za (λh=>absurd rfl h) (λ_=>?_)
  refine zI hS Xh hv ?_
  refine bW (λh=>?_) (λh=>?_)
  ·have hd:lO bs=none:=by unfold lO;rw[ht];simp only;rw[if_neg (by omega)]
   exact iR hd (bw.le_refl H) (aR hS)
  have xy:n=bs.length:=by omega
  have jO:p.length<=140737488355328:=by have:=xU ht;omega
  refine Cc (yP _ pv p ie.own jO) ?_;clear hS
  rintro r post hq w hS
  unfold rH at hq
  cases hd:lu p with
  | error e=>
   rw[hd]at hq
   obtain⟨rfl,rfl⟩:=hq
   have he:=Dr hd
   have hd:lO bs=none:=by unfold lO;rw[ht];simp only;rw[if_pos xy,hd]
   (try simp only[app]at hS);refine Gp ?_
   exact za (λ_=>iR hd (bw.le_refl H) (aR hS)) (λh=>absurd he h)
  | ok l=>
   rw[hd]at hq
   obtain⟨lv,rfl,rfl⟩:=hq
   have hI:=FZ ht xy hd
   try simp only[app]at hS
   refine Gp ?_
   refine za (λh=>absurd rfl h) (λ_=>?_)
   obtain⟨la,lc,rfl,_⟩:=a_.at hS (v:=lv) (t:=174) (sz:=3) (n:=l.length) (cells:=(l.map iD).flatten) Xh
   have hS:=SL.b4 hS (t:=mj (.slice la l.length lc) l::X::.mem H::F) Xi
   refine Gp ?_
   refine zK hS λrp w hS=>?_
   have hS:=(j_.iff (r:=⟨l,false⟩)).2 ⟨_,l,0,⟨Nat.zero_le _,Oj hd,rfl⟩,hS⟩
   refine Cc (zO rp ⟨l,false⟩ 1099511627776) ?_;clear hS
   rintro v1 post ⟨rfl,rfl⟩ w hS
   try simp only[app]at hS
   have hR:=Fg.is l
   generalize (fw 1099511627776 ⟨l,false⟩).1=aI at *
   generalize (fw 1099511627776 ⟨l,false⟩).2=r1 at *
   have tB:=Ek (m:=8) (by decide) r1
   refine Cc (zO rp r1 8) ?_;clear hS
   rintro v1 post ⟨rfl,rfl⟩ w hS
   try simp only[app]at hS
   have lX:=hR.ts
   have gw:=hR.rd
   generalize (fw 8 r1).1=n1 at *
   generalize (fw 8 r1).2=r2 at *
   have hS:SL W (.ob (a_ (.slice none 0 0) 53 1 ([]:List (List Row)).length [])::_) _:=a_.nil hS
   refine⟨λus w=>∃(i k:Nat) (ts:List (List Row)) (r:cF) (tv:Value) (vs:List Value) (H':bw),us=[tv,.int .i64 i]/\n1=((i+k:Nat):Int)/\nD rD n1.toNat r2 ts k r/\(∀C∈ts,C.length<=1000)/\H.le H'/\mE H' vs ts/\SL W (.ob (a_ tv 53 1 ts.length vs)::.ob (j_ rp r)::X::.mem H'::F) w,
    λus _=>match us with|[_,.int _ i]=>(n1-i).toNat|_=>0,⟨0,n1.toNat,[],r2,.slice none 0 0,[],H,rfl,by omega,nD.start _ _ _,by simp,bw.le_refl H,mE.nil H,aR hS⟩,?_⟩
   clear hS
   rintro tv wC w ⟨i,k,ts,r,_,vs,H',cW,hn,hM,vU,hh,m_,hS⟩
   cases cW
   have hle:=hM.le
   have nI:∀{w:World},(k=0\/r.bad=true)->SL W (.ob (a_ tv 53 1 ts.length vs)::.ob (j_ rp r)::X::.mem H'::F) w ->
     aw 246 [.pointer (some ⟨rp,0,none⟩)] w λv87 UB=>Zj v87 λv88=>ic v88
      (∃post,vG X H bs (.tuple #[.int .i64 0,.slice none 0 0,.int .i64 3]) post/\SL W (app post F) UB)
      (aw 91 [.int .i64 aI,tv] UB λv92 UC=>Zj v92 λv93=>ic v93
       (∃post,vG X H bs (.tuple #[.int .i64 0,.slice none 0 0,.int .i64 3]) post/\SL W (app post F) UC)
       (∃post,vG X H bs (.tuple #[.int .i64 aI,tv,.int .i64 0]) post/\SL W (app post F) UC)):=by
    intro w hk hS
    rw[hM.stop hk]at lX gw
    have lX:(oz ⟨l,false⟩).1.2=ts:=lX
    have gw:(oz ⟨l,false⟩).2=r:=gw
    have ny:=hR.aI
    refine Cg (Yr rp r) λw hS=>?_
    refine zA (λhb=>?_) (λhb=>?_)
    ·have hb:=of_decide_eq_false hb
     exact iR (by rw[hI];exact R3 λh=>hb ⟨by rw[<- gw];exact h.1,by rw[<- gw];exact h.2.1⟩) hh (aR hS)
    ·have hb:=of_decide_eq_true hb
     obtain⟨H2,iB,hO,hS,mu⟩:=bIm (H:=H') (v:=tv) hS Xp
     have hT:uK H2 tv ts:=⟨vs,hO,m_.mono iB⟩
     refine Cg (Zp H2 tv aI ts hT (by omega) (λC hC=>by have:=vU C hC;omega)) λw hS=>?_
     have hS:=mu (SL.b4 hS (t:=.mem H2::X::F) Xi)
     refine zA (λhm=>?_) (λhm=>?_)
     ·exact iR (by rw[hI];exact R3 λh=>by rw[ny,lX,hm]at h;cases h.2.2) hh (aR hS)
     ·have he:=aIn (l:=l) ⟨by rw[gw];exact hb.1,by rw[gw];exact hb.2,by rw[ny,lX];exact hm⟩
      refine⟨[.ob (a_ tv 53 1 ts.length vs),X,.mem H'],?_,aR hS⟩
      unfold vG
      rw[hI,he]
      simp only
      rw[ny,lX]
      exact⟨tv,vs,H',hh,m_,rfl,rfl⟩
   refine Gp ?_
   refine za (λh=>?_) (λh=>nI (.inl (by omega)) hS)
   refine Gp ?_
   refine j_.Dl (r:=r) (Has.front hS Xr) ?_
   refine Gp ?_
   refine zA (λhb=>?_) (λhb=>nI (.inr hb) hS)
   clear nI
   obtain⟨k,rfl⟩:∃j,k=j+1:=⟨k-1,by omega⟩
   have hM:=hM.step hb
   rw[bR8]at hM
   have Hh:=Ek (m:=1000) (by decide) r
   refine Cc (zO rp r 1000) ?_;clear hS
   rintro v1 post ⟨rfl,rfl⟩ w hS
   try simp only[app]at hS
   generalize (fw 1000 r).1=n2 at *
   generalize (fw 1000 r).2=r5 at *
   have hS:SL W (jL (.slice none 0 0) []::_) _:=a_.nil hS
   refine⟨λus w=>∃(a c:Nat) (rs:List Row) (r':cF) (rv:Value),us=[rv,.int .i64 a]/\n2=((a+c:Nat):Int)/\nD tN n2.toNat r5 rs c r'/\SL W (jL rv rs::.ob (j_ rp r')::.ob (a_ tv 53 1 ts.length vs)::X::.mem H'::F) w,
    λus _=>match us with|[_,.int _ i]=>(n2-i).toNat|_=>0,⟨0,n2.toNat,[],r5,.slice none 0 0,rfl,by omega,nD.start _ _ _,aR hS⟩,?_⟩
   clear hS
   rintro rv Bf w ⟨a,c,rs,r',_,cW,hn3,pN,hS⟩
   cases cW
   have Rr:=pN.le
   have k8:∀{w:World},(c=0\/r'.bad=true)->SL W (jL rv rs::.ob (j_ rp r')::.ob (a_ tv 53 1 ts.length vs)::X::.mem H'::F) w ->
     ∃H2,H'.le H2/\gi H2 2 rv rs.length (rs.map iq).flatten/\rs.length<=1000/\nD rD n1.toNat r2 (ts++[rs]) k r'/\SL W (.mem H2::.ob (j_ rp r')::.ob (a_ tv 53 1 ts.length vs)::X::F) w:=λhk hS=>by
    obtain⟨H2,iB,hO,hS⟩:=zE (H:=H') (v:=rv) hS Xp
    refine⟨H2,iB,hO,by omega,?_,aR hS⟩
    rw[pN.stop hk]at hM
    exact hM
   have lL:∀{w:World} {H2:bw} {u:Value} {cells:List Value},H'.le H2->gi H2 2 rv rs.length (rs.map iq).flatten->rs.length<=1000->nD rD n1.toNat r2 (ts++[rs]) k r'->cells=vs++[rv]->SL W (.ob (a_ u 53 1 (ts.length+1) cells)::.ob (j_ rp r')::X::.mem H2::F) w ->
     ∃(i' k:Nat) (ts:List (List Row)) (r:cF) (tv:Value) (vs:List Value) (H':bw),[u,Value.int .i64 ((i+1:Nat):Int)]=[tv,.int .i64 i']/\n1=((i'+k:Nat):Int)/\nD rD n1.toNat r2 ts k r/\(∀C∈ts,C.length<=1000)/\H.le H'/\mE H' vs ts/\SL W (.ob (a_ tv 53 1 ts.length vs)::.ob (j_ rp r)::X::.mem H'::F) w:=λiB hO hl hM e hS=>by
    subst e
    refine⟨i+1,k,ts++[rs],r',_,vs++[rv],_,rfl,by omega,hM,λC hC=>?_,bw.le_trans hh iB,(m_.mono iB).snoc hO,?_⟩
    ·rcases List.mem_append.1 hC with hC|hC
     ·exact vU C hC
     ·rw[List.mem_singleton.1 hC];exact hl
    ·rw[List.length_append,List.length_singleton];exact hS
   refine bW (λh=>?_) (λh=>?_)
   ·refine Gp ?_
    refine j_.Dl (r:=r') (Has.front hS Xr) ?_
    refine Gp ?_
    refine zA (λhb=>?_) (λhb=>?_)
    ·clear k8 lL
     obtain⟨c,rfl⟩:∃j,c=j+1:=⟨c-1,by omega⟩
     have pN:=pN.step hb
     refine Cc (zO rp r' 1099511627776) ?_;clear hS
     rintro v1 post ⟨rfl,rfl⟩ w hS
     try simp only[app]at hS
     refine Gp ?_
     refine Gb λxb w hS=>?_
     refine Cg (y2 rp _) λw hS=>?_;refine Gm λb w hS=>?_
     refine yy (n:=rs.length) (xs:=rs) (y:=(tN r').1) (enc:=iq) hS Xr Xh jY (λx=>uV x) rfl (by omega) (by omega) λu w hS=>?_
     refine Gp ?_
     refine⟨⟨a+1,c,_,_,u,rfl,by omega,pN,?_⟩,by dsimp only;omega⟩
     have hS:=hS.sS (x:=(tN r').1)
     have hS:SL W (jL u (rs++[(tN r').1])::_::.ob (j_ rp (tN r').2)::_::.ob (a_ tv 53 1 ts.length vs)::X::.mem H'::F) _:=hS
     exact aR hS
    ·obtain⟨H2,iB,hO,hl,hM,hS⟩:=k8 (.inr hb) hS
     have kj:=hO.one
     refine zz hS (Dy kj) λb w hS=>?_
     refine zx (n:=ts.length) (m:=1) hS Xr (lP (cs:=[rv]) hS Xh rfl) rfl rfl (by simpa using kj) (by omega) (by omega) ?_
     clear hS;intro u w hS
     refine Gp ?_
     exact⟨lL iB hO hl hM rfl (aR hS),by dsimp only;omega⟩
   ·obtain⟨H2,iB,hO,hl,hM,hS⟩:=k8 (.inl (by omega)) hS
    have kj:=hO.one
    refine zz hS (Dy kj) λb w hS=>?_
    refine zx (n:=ts.length) (m:=1) hS Xr (lP (cs:=[rv]) hS Xh rfl) rfl rfl (by simpa using kj) (by omega) (by omega) ?_
    clear hS;intro u w hS
    refine Gp ?_
    exact⟨lL iB hO hl hM rfl (aR hS),by dsimp only;omega⟩
section
variable {W w:World} {l:List Chunk}
theorem qw{b o n cap sz:Nat}{t:TypeId}{cells:List Value}{u:Value}{K:Value->Prop}(h:SL W l w)(m:Has (.ob (a_ (.slice (some ⟨b,0,none⟩) n cap) t sz n cells)) l)(hn:0<n)(hu:cells[o]?=some u)(hK:K u):
  b6 (.pointer (some ⟨b,o,none⟩)) w K:=by
 obtain⟨a,uS,e,_,h2⟩:=a_.at h m
 cases e
 obtain⟨b',e,h3⟩:=h2 0 hn
 cases e
 exact⟨_,u,rfl,h3 o u hu,hK⟩
theorem QH{v:Value}{t:TypeId}{sz n k:Nat}{kk:IntKind}{cells:List Value}{K:Value->Prop}(h:SL W l w)(m:Has (.ob (a_ v t sz n cells)) l)(hk:k<=n)
  (hK:∀u,(∀w' l',SL W l' w'->Has (.ob (a_ v t sz n cells)) l'->mN w' sz u (n-k) (cells.drop (k*sz)))->K u):iL sz v (some (.int kk (k:Int))) none none K:=by
 obtain⟨a,cap,rfl,hl,hx⟩:=a_.at h m
 have vY:n<=cap:=by
  obtain⟨l2,r⟩:=m.rem
  rcases a_.open (h.perm r.perm) with ⟨⟨a',e⟩,rfl,rfl,_⟩|⟨b,uS,rest,e,hc,_⟩
  ·cases e;omega
  ·cases e;exact hc
 refine⟨a,n,cap,k,n,cap,rfl,rfl,rfl,⟨kk,rfl⟩,hk,vY,Nat.le_refl _,hK _ λw' l' h' m'=>?_⟩
 have hs:=pW h' m'
 have o6:(cells.drop (k*sz)).length=(n-k)*sz:=by rw[List.length_drop,hl,Nat.mul_sub_right_distrib]
 cases a with
 | none=>
  obtain⟨e1,e2⟩:=hs
  subst e2
  have e:(if cap=k then (none:Option Addr) else Option.map (λx:Addr=>x.add (k*sz)) none)=none:=by split<;>rfl
  rw[e]
  exact⟨rfl,by simp⟩
 | some p=>
  obtain⟨_,e2,e3⟩:=hs
  by_cases hc:cap=k
  ·rw[if_pos hc]
   have hnk:n-k=0:=by omega
   rw[hnk]at o6 ⊢
   have:cells.drop (k*sz)=[]:=List.eq_nil_of_length_eq_zero (by simpa using o6)
   rw[this]
   exact⟨rfl,by simp,λj v e=>by simp at e⟩
  ·rw[if_neg hc]
   refine⟨rfl,o6,λj v e=>?_⟩
   rw[List.getElem?_drop]at e
   have:=e3 _ v e
   rwa [Addr.add_add]at *
end
theorem O_{α:Type}{enc:α->List Value}{n:Nat}(hn:∀x,(enc x).length=n):∀(xs:List α) (j k:Nat) (hj:j<xs.length) (x:α) (v:Value),k<n->(enc xs[j]).set k v=enc x->((xs.map enc).flatten).set (j*n+k) v=((xs.set j x).map enc).flatten
 | y::xs,0,k,_,x,v,hk,h=>by
  simp only[List.map_cons,List.flatten_cons,List.set_cons_zero,Nat.zero_mul,Nat.zero_add]
  rw[List.set_append_left _ _ (by rw[hn];exact hk)]
  rw[show (enc y).set k v=enc x from h]
 | y::xs,j+1,k,hj,x,v,hk,h=>by
  simp only[List.map_cons,List.flatten_cons,List.set_cons_succ]
  rw[List.set_append_right _ _ (by rw[hn,Nat.add_mul];omega),hn,show (j+1)*n+k-n=j*n+k by rw[Nat.add_mul];omega,O_ hn xs j k (by simpa using hj) x v hk (by simpa using h)]
abbrev YF:=PF × Value
def kC(y:YF):Int:=y.1.id
theorem tJ(y:YF):PF.id (Prod.fst y)=kC y:=rfl
def jw(y:YF):List Value:=[.int .i64 y.1.id,.int .i64 (y.1.safe:Int),y.2]
theorem nG(y:YF):(jw y).length=3:=rfl
def sm(H:bw)(ys:List YF):Prop:=∀y∈ys,gi H 1 y.2 y.1.b.length (y.1.b.map cR)
theorem sm.mono{H H':bw}(hh:H.le H'){ys:List YF}(h:sm H ys):sm H' ys:=λy hy=>(h y hy).mono hh
theorem sm.set{H:bw}{ys:List YF}(h:sm H ys){i:Nat}{y:YF}(hy:gi H 1 y.2 y.1.b.length (y.1.b.map cR)):sm H (ys.set i y):=λz hz=>by
 rcases List.mem_or_eq_of_mem_set hz with hz|rfl
 ·exact h z hz
 ·exact hy
abbrev ku(fv:Value)(s:DS):List Value:=[fv,.int .i64 s.arm,.bool s.off,.int .i64 (s.ops:Int)]
abbrev jT(fv:Value)(ys:List YF):zC:=a_ fv 186 3 ys.length (ys.map jw).flatten
def eW(H:bw)(xp:Nat)(s:DS):zC:=mX λx:Value × List YF=>zQ (x.2.map Prod.fst=s.R/\sm H x.2) [.pt xp (ku x.1 s) 66,.ob (jT x.1 x.2)]
theorem eW.iff{W w:World}{H:bw}{xp:Nat}{s:DS}{l:List Chunk}:SL W (.ob (eW H xp s)::l) w↔∃fv ys,(ys.map Prod.fst=s.R/\sm H ys)/\SL W (.pt xp (ku fv s) 66::.ob (jT fv ys)::l) w:=by
 unfold eW
 simp only[SL.ex,SL.fact,List.cons_append,List.nil_append]
 exact⟨λ⟨x,h1,h2⟩=>⟨x.1,x.2,h1,h2⟩,λ⟨fv,ys,h1,h2⟩=>⟨(fv,ys),h1,h2⟩⟩
theorem eW.mono{W w:World}{H H':bw}(hh:H.le H'){xp:Nat}{s:DS}{l:List Chunk}(h:SL W (.ob (eW H xp s)::l) w):SL W (.ob (eW H' xp s)::l) w:=by
 obtain⟨fv,ys,⟨h1,h2⟩,hS⟩:=eW.iff.1 h
 exact eW.iff.2 ⟨fv,ys,⟨h1,h2.mono hh⟩,hS⟩
theorem OP{ys:List YF}{j i o:Nat}(hj:j<ys.length)(ho:o=j*3+i){u:Value}(hu:(jw ys[j])[i]?=some u):((ys.map jw).flatten)[o]?=some u:=by
 subst ho;exact rS nG ys j i _ u (List.getElem?_eq_getElem hj) hu
theorem y6(xp:Nat)(s:DS)(fv:Value)(ys:List YF)(hs:kf PF.id (ys.map Prod.fst))(hn:ys.length<=100000)(f:Int):
  SP 100 [.pointer (some ⟨xp,0,none⟩),.int .i64 f] [.pt xp (ku fv s) 66,.ob (jT fv ys)]
   (dW (.tuple #[.int .i64 (iI kC ys f:Int),.bool (j8 kC ys f)]) [.pt xp (ku fv s) 66,.ob (jT fv ys)]):=by
 intro W F w hS;apply bW8;delta JI aF bF a7 aW dI ai;(try simp only[app]at hS)
 have hs:kf kC ys:=(bRn tJ).1 hs
 refine⟨λus w=>∃i:Nat,us=[.int .i64 i]/\i<=ys.length/\(∀j (h:j<ys.length),j<i->kC ys[j]<f)/\SL W (.pt xp (ku fv s) 66::.ob (jT fv ys)::F) w,
  λus _=>match us with|[.int _ i]=>(ys.length-i).toNat|_=>0,⟨0,rfl,by omega,λj h h0=>by omega,hS⟩,?_⟩
 clear hS
 rintro v6 w ⟨i,cW,hi,ix,hS⟩
 cases cW
 refine Gp ?_
 refine zt hS (t:=186) (sz:=3) (n:=ys.length) (cells:=(ys.map jw).flatten) Xh ?_
 refine bW (λh=>?_) (λh=>?_)
 ·have b3:i<ys.length:=by omega
  obtain⟨a,cap,rfl,_,hx⟩:=a_.at hS (t:=186) (sz:=3) (n:=ys.length) (cells:=(ys.map jw).flatten) Xh
  obtain⟨b,rfl,_⟩:=hx i b3
  have hid:((ys.map jw).flatten)[0+i*3+0]?=some (.int .i64 ys[i].1.id):=OP b3 (i:=0) (by omega) rfl
  refine Gp ?_
  refine zB b3 (zR ?_)
  refine qw hS (t:=186) (sz:=3) (cells:=(ys.map jw).flatten) Xh (by omega) hid ?_
  refine bW (λh2=>?_) (λh2=>?_)
  ·refine Gp ?_
   refine⟨⟨i+1,by simp,by omega,λj h3 h4=>?_,aR hS⟩,by dsimp only;omega⟩
   by_cases e:j=i
   ·subst e;exact h2
   ·exact ix j h3 (by omega)
  ·have hc:iI kC ys f=i:=FT hs f hi ix λ_=>h2
   have hk:j8 kC ys f=decide (ys[i].1.id=f):=by
    unfold j8;rw[hc,List.getElem?_eq_getElem b3];rfl
   rw[hc,hk]
   refine Gn λw hS=>?_
   refine za (λ_=>?_) (λh=>absurd (by omega) h)
   refine Gp ?_
   refine zB b3 (zR ?_)
   refine qw hS (t:=186) (sz:=3) (cells:=(ys.map jw).flatten) Xh (by omega) hid ?_
   refine Gp ?_
   refine qw hS (t:=186) (sz:=3) (cells:=(ys.map jw).flatten) Xh (by omega) hid ?_
   refine Gp ?_
   exact eF hS
 ·have mS:i=ys.length:=by omega
  have hc:iI kC ys f=i:=FT hs f hi ix λh=>by omega
  have hk:j8 kC ys f=false:=by
   unfold j8;rw[hc,List.getElem?_eq_none (by omega)]
  rw[hc,hk]
  refine Gn λw hS=>?_
  refine zt hS (t:=186) (sz:=3) (n:=ys.length) (cells:=(ys.map jw).flatten) Xh ?_
  refine Gp ?_
  refine za (λh=>absurd h (by omega)) (λ_=>?_)
  exact eF hS
theorem El{s:DS}{ys:List YF}(h:ys.map Prod.fst=s.R)(f:Int):j8 PF.id s.R f=j8 kC ys f:=by rw[<- h];exact AU tJ ys f
theorem yA(xp:Nat)(s:DS)(fv:Value)(ys:List YF)(he:ys.map Prod.fst=s.R)(hs:kf PF.id s.R)(hn:ys.length<=100000)(f:Int)(xO:Bool):
  SP 98 [.pointer (some ⟨xp,0,none⟩),.int .i64 f,.bool xO] [.pt xp (ku fv s) 66,.ob (jT fv ys)]
   (dW (.int .i64 (if xO then s.find f else may s f)) [.pt xp (ku fv s) 66,.ob (jT fv ys)]):=by
 intro W F w hS;apply b9r;delta Nv aF bF c_ ai;(try simp only[app]at hS)
 have nf:kf PF.id (ys.map Prod.fst):=by rw[he];exact hs
 have g9:may s f≠0->(if xO then s.find f else may s f)=may s f:=λh=>by
  unfold DS.find;rw[if_pos h];split<;>rfl
 have ai3:may s f=0->(if xO then s.find f else may s f)=if xO then (if j8 kC ys f then 0 else 5) else 0:=λh=>by
  unfold DS.find;rw[if_neg (show ¬may s f≠0 by omega),El he,h]
 generalize (if xO then s.find f else may s f)=r at *
 refine Gp ?_
 refine y3 (λh=>?_) (λh=>?_)
 ·have hm:may s f=8:=by unfold may;rw[if_pos h]
  rw[g9 (by omega),hm]
  (exact eF hS)
 ·refine bW (λh2=>?_) (λh2=>?_)
  ·have hm:may s f=1:=by unfold may;rw[if_neg (by rw[h];decide),if_pos (.inl h2)]
   rw[g9 (by omega),hm]
   (exact eF hS)
  ·refine bW (λh3=>?_) (λh3=>?_)
   ·have hm:may s f=1:=by unfold may;rw[if_neg (by rw[h];decide),if_pos (.inr h3)]
    rw[g9 (by omega),hm]
    (exact eF hS)
   ·have hm:may s f=0:=by unfold may;rw[if_neg (by rw[h];decide),if_neg (by omega)]
    rw[ai3 hm]
    refine Cg (y6 xp s fv ys nf hn f) λw hS=>?_
    cases xO with
    | true=>
     refine zw ?_
     cases j8 kC ys f with
     | true=>
      refine zP (zq ?_)
      (exact eF hS)
     | false=>
      refine zP (zw ?_)
      (exact eF hS)
    | false=>
     refine zq ?_
     (exact eF hS)
theorem y7(xp:Nat)(s:DS)(fv:Value)(h0:s.off=false)(h1:0<=s.arm)(h2:s.arm<=9223372036854775807)(h3:s.ops<=100000):
  SP 99 [.pointer (some ⟨xp,0,none⟩)] [.pt xp (ku fv s) 66] (dW (.bool s.f'.off) [.pt xp (ku fv s.f') 66]):=by
 intro W F w hS;apply b9s;delta Nw aF bF fI ai;(try simp only[app]at hS)
 refine Gn λw hS=>?_
 refine za (λh=>?_) (λh=>?_)
 ·refine Gn λw hS=>?_
  refine za (λh4=>?_) (λh4=>?_)
  ·refine Gn λw hS=>?_
   have e:s.f'.off=true:=by simp[DS.f'];omega
   have hS:SL W (.pt xp (ku fv s.f') 66::F) w:=by
    unfold ku;rw[e]
    simp only[DS.f',if_pos h]
    exact hS
   rw[e]
   (exact eF hS)
  ·refine Gp ?_
   have e:s.f'.off=false:=by simp[DS.f'];omega
   have hS:SL W (.pt xp (ku fv s.f') 66::F) w:=by
    unfold ku;rw[e]
    rw[h0]at hS
    simp only[DS.f',if_pos h]
    exact hS
   rw[e,h0]
   (exact eF hS)
 ·refine Gp ?_
  have e:s.f'.off=false:=by simp[DS.f'];omega
  have hS:SL W (.pt xp (ku fv s.f') 66::F) w:=by
   unfold ku;rw[e]
   rw[h0]at hS
   simp only[DS.f',if_neg h]
   exact hS
  rw[e,h0]
  (exact eF hS)
theorem yq(g:Bool):SP 101 [.bool g] [] (dW (.int .i64 (if g then 8 else 0)) []):=by
 intro W F w hS;apply bW9;delta JJ ai;(try simp only[app]at hS)
 cases g with
 | true=>refine Gp ?_;(exact eF hS)
 | false=>refine Gp ?_;(exact eF hS)
theorem jT.pt{W w:World}{l:List Chunk}{fv:Value}{ys:List YF}(h:SL W (.ob (jT fv ys)::l) w)(hn:0<ys.length):∃b cap rest,fv= .slice (some ⟨b,0,none⟩) ys.length cap/\SL W (.pt b ((ys.map jw).flatten++rest) 186::l) w /\
  ∀Fb w' l',Fb.length=ys.length->SL W (.pt b ((Fb.map jw).flatten++rest) 186::l') w'->SL W (.ob (jT (.slice (some ⟨b,0,none⟩) ys.length cap) Fb)::l') w':=by
 rcases a_.open h with ⟨_,h0,_⟩|⟨b,cap,rest,rfl,hc,hl,hr,hS⟩
 ·omega
 ·refine⟨b,cap,rest,rfl,hS,λFb w' l' hlen h'=>?_⟩
  unfold jT
  rw[hlen]
  exact a_.mk hc (by rw[mH nG,hlen]) hr h'
theorem BL{ys:List YF}{rest:List Value}{j i o:Nat}(hj:j<ys.length)(ho:o=j*3+i){u:Value}(hu:(jw ys[j])[i]?=some u):((ys.map jw).flatten++rest)[o]?=some u:=by
 have h:=OP hj ho hu
 rw[List.getElem?_append_left (List.getElem?_eq_some_iff.1 h).1];exact h
theorem Dw{ys:List YF}{rest:List Value}{j i o:Nat}(hj:j<ys.length)(ho:o=j*3+i)(hi:i<3){v:Value}{y:YF}(hy:(jw ys[j]).set i v=jw y):((ys.map jw).flatten++rest).set o v=((ys.set j y).map jw).flatten++rest:=by
 subst ho
 rw[List.set_append_left _ _ (by rw[mH nG];omega),O_ nG ys j i hj y v hi hy]
structure Fc(R:List PF)(kK:List YF)(i:Nat)(f:Int):Prop where
 lt:i<kK.length
 at_:∀h:i<kK.length,kK[i].1=⟨f,((ij PF.id R f).getD (nY f)).safe,((ij PF.id R f).getD (nY f)).b⟩
 put:∀y:YF,y.1.id=f->(kK.set i y).map Prod.fst=lY PF.id R y.1
 len:kK.length<=R.length+1
theorem FA{R:List PF}{ys:List YF}(he:ys.map Prod.fst=R){f:Int}(hk:j8 kC ys f=true):Fc R ys (iI kC ys f) f:=by
 obtain⟨h1,h2⟩:=sJ hk
 have hg:ij PF.id R f=some ys[iI kC ys f].1:=by
  rw[<- he,BR tJ]
  unfold ij;rw[if_pos hk,List.getElem?_eq_getElem h1];rfl
 refine⟨h1,λ_=>?_,λy hy=>?_,by rw[<- he,List.length_map];omega⟩
 ·rw[hg]
  have h3:∀p:PF,p.id=f->p=⟨f,p.safe,p.b⟩:=by rintro ⟨a,b,c⟩ rfl;rfl
  exact h3 _ h2
 ·have hi:j8 PF.id R y.1.id=true:=by rw[hy,<- he,AU tJ];exact hk
  rw[EI hi,hy,<- he,wV tJ,List.map_set]
theorem Vf{R:List PF}{ys:List YF}(he:ys.map Prod.fst=R){f:Int}(hk:j8 kC ys f=false)(v:Value):Fc R (ys.take (iI kC ys f)++[(nY f,v)]++ys.drop (iI kC ys f)) (iI kC ys f) f:=by
 have hle:=Ae (key:=kC) ys f
 have hg:ij PF.id R f=none:=by
  rw[<- he,BR tJ]
  unfold ij;rw[if_neg (by rw[hk];decide)];rfl
 have hl:(ys.take (iI kC ys f)).length=iI kC ys f:=by rw[List.length_take];omega
 refine⟨by simp;omega,λh=>?_,λy hy=>?_,by rw[<- he];simp;omega⟩
 ·rw[hg]
  rw[List.getElem_append_left (by simp;omega),List.getElem_append_right (by omega)]
  simp[hl];rfl
 ·have hi:j8 PF.id R y.1.id=false:=by rw[hy,<- he,AU tJ];exact hk
  unfold lY
  rw[hi,hy,<- he,wV tJ]
  rw[List.append_assoc,List.set_append_right _ _ (by omega),hl,Nat.sub_self]
  simp
theorem a7a(H:bw)(f:Int):gi H 1 (.slice none 0 0) (nY f).b.length ((nY f).b.map cR):=gi.nil H 1
theorem OQ{H:bw}{ys:List YF}(hB:sm H ys):∀v∈(ys.map jw).flatten,v.oneCell'=true:=by
 intro v hv
 obtain⟨l,hl,hv⟩:=List.mem_flatten.1 hv
 obtain⟨y,hy,rfl⟩:=List.mem_map.1 hl
 simp only[jw,List.mem_cons,List.not_mem_nil,or_false]at hv
 rcases hv with rfl|rfl|rfl
 ·rfl
 ·rfl
 ·exact (hB y hy).one
theorem bw5(H:bw)(xp:Nat)(s:DS)(N:Nat)(b5:s.Ok N)(iO:s.ops<=100000)(hR:s.R.length<=90000)(f:Int)(bv:Value)(bs:List UInt8)(hb:gi H 1 bv bs.length (bs.map cR))(hN:((ij PF.id s.R f).getD (nY f)).b.length+bs.length<=140737488355328):
  SP 35 [.pointer (some ⟨xp,0,none⟩),.int .i64 f,bv] [.ob (eW H xp s),.mem H] (λv post=>v= .int .i64 (s.append f bs).2/\∃H',H.le H'/\post=[.ob (eW H' xp (s.append f bs).1),.mem H']):=by
 intro W F w hS;apply b74;delta Mx aF bF fI aW dI c_ ai bI;(try simp only[app]at hS)
 obtain⟨fv,ys,⟨he,k_⟩,hS⟩:=eW.iff.1 hS
 have tI:ys.length=s.R.length:=by rw[<- he,List.length_map]
 refine Cc (yA xp s fv ys he b5.sorted (by omega) f false) ?_;clear hS
 rintro v post ⟨rfl,rfl⟩ w hS
 try simp only[app]at hS
 simp only[Bool.false_eq_true,if_false]
 unfold DS.append
 refine bW (λh=>?_) (λh=>?_)
 ·rw[if_pos h]
  exact⟨_,⟨rfl,H,bw.le_refl H,rfl⟩,eW.iff.2 ⟨fv,ys,⟨he,k_⟩,aR hS⟩⟩
 ·rw[if_neg h]
  have hm:may s f=0:=by omega
  obtain⟨h0,tz,xh⟩:=vn hm
  refine Cg (y7 xp s fv h0 b5.sw b5.sx iO) λw hS=>?_
  refine Cg (y6 xp s.f' fv ys (by rw[he];exact b5.sorted) (by omega) f) λw hS=>?_
  have kH:=Ae (key:=kC) ys f
  have Pz:=FA he (f:=f)
  have Py:=λhk=>Vf he (f:=f) hk (.slice none 0 0)
  generalize u6:iI kC ys f=i at *
  refine⟨λus w=>us=[]/\∃BP kK,Fc s.R kK i f/\sm H kK/\SL W (.pt xp (ku BP s.f') 66::.ob (jT BP kK)::.mem H::F) w,?_,?_⟩
  ·cases hk:j8 kC ys f with
   | true=>
    refine zP (zq ?_)
    exact⟨rfl,fv,ys,Pz hk,k_,aR hS⟩
   | false=>
    refine zP (zw ?_)
    refine Gm λb w hS=>?_
    have hS:=a_.full (n:=0) (sz:=3) rfl hS
    refine IS hS (t:=186) (sz:=3) (n:=ys.length) (cells:=(ys.map jw).flatten) Xh kH ?_
    intro a cap ld
    have xc:=OQ k_
    refine zx (n:=0) (m:=i) hS .hd (ld _ _ hS Xh) (by rw[List.length_take,mH nG];exact Nat.min_eq_left (Nat.mul_le_mul_right _ kH)) rfl (λv hv=>xc v (List.mem_of_mem_take hv)) (by omega) (by omega) ?_
    clear hS;intro v1 w hS
    rw[Nat.zero_add,List.nil_append,sC nG]at hS
    refine yx rfl ?_
    refine zz hS rfl ?_
    clear hS;intro b2 w hS
    refine zx (n:=i) (m:=1) (cells:=((ys.take i).map jw).flatten) hS Xr (lP (cs:=jw (nY f,Value.slice none 0 0)) hS .hd rfl) rfl rfl (by simp[jw,Value.oneCell']) (by omega) (by omega) ?_
    clear hS;intro v2 w hS
    refine Gp ?_
    refine QH hS (t:=186) (sz:=3) (n:=ys.length) (cells:=(ys.map jw).flatten) Xh kH ?_
    intro u Hr
    refine zx (n:=i+1) (m:=ys.length-i) (cells:=((ys.take i).map jw).flatten++jw (nY f,Value.slice none 0 0)) hS Xr (Hr _ _ hS Xh) (by rw[List.length_drop,mH nG,Nat.mul_sub_right_distrib]) rfl (λv hv=>xc v (List.mem_of_mem_drop hv)) (by omega) (by omega) ?_
    clear hS;intro v3 w hS
    have lW:=hS.nZ .hd
    refine Gn λw hS=>?_
    rw[rT nG]at hS
    have e1:((ys.take i).map jw).flatten++jw (nY f,Value.slice none 0 0)++((ys.drop i).map jw).flatten=((ys.take i++[(nY f,Value.slice none 0 0)]++ys.drop i).map jw).flatten:=by simp
    have e2:i+1+(ys.length-i)=(ys.take i++[(nY f,Value.slice none 0 0)]++ys.drop i).length:=by simp;omega
    rw[e1,e2]at hS
    refine⟨v3,ys.take i++[(nY f,Value.slice none 0 0)]++ys.drop i,Py hk,λy hy=>?_,aR hS⟩
    rcases List.mem_append.1 hy with hy|hy
    ·rcases List.mem_append.1 hy with hy|hy
     ·exact k_ y (List.mem_of_mem_take hy)
     ·rw[List.mem_singleton]at hy;subst hy;exact a7a H f
    ·exact k_ y (List.mem_of_mem_drop hy)
  ·clear hS Pz Py u6 kH
   rintro w ⟨-,BP,kK,hA,hB,hS⟩
   have hi:=hA.lt
   have kG:=hA.at_ hi
   have hold:=hB _ (List.getElem_mem hi)
   have cwe:=hA.len
   obtain⟨b0,cap,rest,rfl,hS,mu⟩:=jT.pt (SL.b4 hS (t:=.ob (jT BP kK)::.pt xp (ku BP s.f') 66::.mem H::F) Xi) (by omega)
   have mB:((kK.map jw).flatten++rest)[0+i*3+2]?=some kK[i].2:=BL hi (i:=2) (by omega) rfl
   have vX:kK[i].1.b.length+bs.length<=140737488355328:=by rw[kG];exact hN
   refine Gn λw hS=>?_
   refine zB hi (zR (zX hS Xh mB ?_))
   refine Gm λb w hS=>?_
   refine zX hS Xh mB ?_
   refine Gp ?_
   have hS:=a_.full (n:=0) (sz:=1) rfl hS
   refine zx (n:=0) (m:=kK[i].1.b.length) hS .hd (si hS Xh hold) (by simp) rfl (nk _) (by omega) (by omega) ?_
   clear hS;intro v1 w hS
   rw[Nat.zero_add,List.nil_append]at hS
   refine Gp ?_
   refine zx (n:=kK[i].1.b.length) (m:=bs.length) (cells:=kK[i].1.b.map cR) hS Xr (si hS Xh hb) (by simp) rfl (nk _) (by omega) (by omega) ?_
   clear hS;intro v2 w hS
   have lW:=hS.nZ .hd
   refine Gp ?_
   refine zB hi (zR ?_)
   refine Zb hS Xu mB lW ?_
   clear hS;intro w hS
   have e1:kK[i].1.b.map cR++bs.map cR=(kK[i].1.b++bs).map cR:=by rw[List.map_append]
   have e2:kK[i].1.b.length+bs.length=(kK[i].1.b++bs).length:=by rw[List.length_append]
   rw[e1,e2]at hS
   rw[Dw (y:=(⟨f,kK[i].1.safe,kK[i].1.b++bs⟩,v2)) hi (i:=2) (by omega) (by omega) (by
    rw[show kK[i]=((⟨f,kK[i].1.safe,kK[i].1.b⟩:PF),kK[i].2) from Prod.ext (by rw[kG]) rfl];rfl)]at hS
   obtain⟨H',iw,m_,hS⟩:=zE (H:=H) (v:=v2) (n:=(kK[i].1.b++bs).length) (sz:=1) (t:=5) (cells:=(kK[i].1.b++bs).map cR) hS Xp
   refine Cg (yq s.f'.off) λw hS=>?_
   refine⟨_,⟨by unfold DS.err;rfl,H',iw,rfl⟩,eW.iff.2 ⟨Value.slice (some ⟨b0,0,none⟩) kK.length cap,kK.set i (⟨f,kK[i].1.safe,kK[i].1.b++bs⟩,v2),⟨?_,(hB.mono iw).set m_⟩,?_⟩⟩
   ·show _=nE s.R f bs
    rw[hA.put _ rfl]
    unfold nE
    simp only[kG]
   ·have:=mu (kK.set i (⟨f,kK[i].1.safe,kK[i].1.b++bs⟩,v2)) w (.pt xp (ku (.slice (some ⟨b0,0,none⟩) kK.length cap) s.f') 66::.mem H'::F) (by simp) (aR hS)
    exact SL.b4 this Xi
theorem YK(H:bw)(xp:Nat)(s:DS)(N:Nat)(b5:s.Ok N)(iO:s.ops<=100000)(hR:s.R.length<=90000)(f:Int)(bv:Value)(bs:List UInt8)(hb:gi H 1 bv bs.length (bs.map cR))(hN:N+bs.length<=140737488355328):
  SP 35 [.pointer (some ⟨xp,0,none⟩),.int .i64 f,bv] [.ob (eW H xp s),.mem H] (λv post=>v= .int .i64 (s.append f bs).2/\∃H',H.le H'/\post=[.ob (eW H' xp (s.append f bs).1),.mem H']):=
 bw5 H xp s N b5 iO hR f bv bs hb (by have:=Gu (f:=f) b5.len;omega)
theorem Gk{s:DS}{f:Int}(h:s.find f=0):may s f=0/\j8 PF.id s.R f=true:=by
 unfold DS.find at h
 by_cases hm:may s f=0
 ·rw[if_neg (show ¬may s f≠0 from λe=>e hm)]at h
  refine⟨hm,?_⟩
  by_cases hk:j8 PF.id s.R f=true
  ·exact hk
  ·rw[if_neg hk]at h;cases h
 ·rw[if_pos hm]at h;exact absurd h hm
theorem Gx{R:List PF}{ys:List YF}(he:ys.map Prod.fst=R){f:Int}(hk:j8 kC ys f=true):∃h:iI kC ys f<ys.length,ij PF.id R f=some ys[iI kC ys f].1/\ys[iI kC ys f].1.id=f:=by
 obtain⟨h1,h2⟩:=sJ hk
 refine⟨h1,?_,h2⟩
 rw[<- he,BR tJ]
 unfold ij;rw[if_pos hk,List.getElem?_eq_getElem h1];rfl
theorem Qk(H:bw)(xp:Nat)(s:DS)(N:Nat)(b5:s.Ok N)(iO:s.ops<=100000)(hR:s.R.length<=100000)(f:Int):
  SP 252 [.pointer (some ⟨xp,0,none⟩),.int .i64 f] [.ob (eW H xp s),.mem H] (dW (.int .i64 (s.sync f).2) [.ob (eW H xp (s.sync f).1),.mem H]):=by
 intro W F w hS;apply b6j;delta LB aF bF a7 c_ ai;(try simp only[app]at hS)
 obtain⟨fv,ys,⟨he,k_⟩,hS⟩:=eW.iff.1 hS
 have tI:ys.length=s.R.length:=by rw[<- he,List.length_map]
 refine Cc (yA xp s fv ys he b5.sorted (by omega) f true) ?_;clear hS
 rintro v post ⟨rfl,rfl⟩ w hS
 try simp only[app]at hS
 simp only[if_true]
 unfold DS.sync
 refine bW (λh=>?_) (λh=>?_)
 ·rw[if_pos h]
  exact⟨_,⟨rfl,rfl⟩,eW.iff.2 ⟨fv,ys,⟨he,k_⟩,aR hS⟩⟩
 ·rw[if_neg h]
  obtain⟨hm,hk⟩:=Gk (s:=s) (f:=f) (by omega)
  rw[El he]at hk
  obtain⟨h0,tz,xh⟩:=vn hm
  refine Cg (y7 xp s fv h0 b5.sw b5.sx iO) λw hS=>?_
  by_cases hc:s.f'.off=true
  ·rw[if_pos hc,hc]
   refine zq ?_
   refine Cg (yq true) λw hS=>?_
   exact⟨_,⟨rfl,rfl⟩,eW.iff.2 ⟨fv,ys,⟨he,k_⟩,aR hS⟩⟩
  ·rw[if_neg hc,(by simpa using hc:s.f'.off=false)]
   refine zw ?_
   refine Cg (y6 xp s.f' fv ys (by rw[he];exact b5.sorted) (by omega) f) λw hS=>?_
   obtain⟨hi,hg,hid⟩:=Gx he hk
   have hA:=FA he hk
   generalize iI kC ys f=i at *
   obtain⟨b0,cap,rest,rfl,hS,mu⟩:=jT.pt (SL.b4 hS (t:=.ob (jT fv ys)::.pt xp (ku fv s.f') 66::.mem H::F) Xi) (by omega)
   have mB:((ys.map jw).flatten++rest)[0+i*3+2]?=some ys[i].2:=BL hi (i:=2) (by omega) rfl
   have DR:((ys.map jw).flatten++rest)[0+i*3+1]?=some (.int .i64 (ys[i].1.safe:Int)):=BL hi (i:=1) (by omega) rfl
   have hold:=k_ _ (List.getElem_mem hi)
   refine zB hi (zR (zX hS Xh mB ?_))
   refine zo hold ?_
   refine zB hi (zR ?_)
   refine Zb hS Xu DR rfl ?_
   clear hS;intro w hS
   rw[Dw (y:=(⟨f,ys[i].1.b.length,ys[i].1.b⟩,ys[i].2)) hi (i:=1) (by omega) (by omega) (by rw[<- hid];rfl)]at hS
   refine Cg (yq false) λw hS=>?_
   refine⟨_,⟨rfl,rfl⟩,eW.iff.2 ⟨Value.slice (some ⟨b0,0,none⟩) ys.length cap,ys.set i (⟨f,ys[i].1.b.length,ys[i].1.b⟩,ys[i].2),⟨?_,k_.set hold⟩,?_⟩⟩
   ·show _=nN s.R f _
    rw[hA.put _ rfl,E6 hg]
   ·have:=mu (ys.set i (⟨f,ys[i].1.b.length,ys[i].1.b⟩,ys[i].2)) w (.pt xp (ku (.slice (some ⟨b0,0,none⟩) ys.length cap) s.f') 66::.mem H::F) (by simp) (aR hS)
    exact SL.b4 this Xi
theorem Yq(H:bw)(xp:Nat)(s:DS)(N:Nat)(b5:s.Ok N)(hN:N<=140737488355328)(iO:s.ops<=100000)(hR:s.R.length<=100000)(f n:Int):
  SP 176 [.pointer (some ⟨xp,0,none⟩),.int .i64 f,.int .i64 n] [.ob (eW H xp s),.mem H] (λv post=>v= .int .i64 (s.cut f n).2/\∃H',H.le H'/\post=[.ob (eW H' xp (s.cut f n).1),.mem H']):=by
 intro W F w hS;apply b4r;delta Kz aF bF a7 aW dI c_ ai;(try simp only[app]at hS)
 obtain⟨fv,ys,⟨he,k_⟩,hS⟩:=eW.iff.1 hS
 have tI:ys.length=s.R.length:=by rw[<- he,List.length_map]
 refine Cc (yA xp s fv ys he b5.sorted (by omega) f true) ?_;clear hS
 rintro v post ⟨rfl,rfl⟩ w hS
 try simp only[app]at hS
 simp only[if_true]
 unfold DS.cut
 refine bW (λh=>?_) (λh=>?_)
 ·rw[if_pos h]
  exact⟨_,⟨rfl,H,bw.le_refl H,rfl⟩,eW.iff.2 ⟨fv,ys,⟨he,k_⟩,aR hS⟩⟩
 ·rw[if_neg h]
  obtain⟨hm,hk⟩:=Gk (s:=s) (f:=f) (by omega)
  rw[El he]at hk
  obtain⟨h0,tz,xh⟩:=vn hm
  refine Cg (y6 xp s fv ys (by rw[he];exact b5.sorted) (by omega) f) λw hS=>?_
  obtain⟨hi,hg,hid⟩:=Gx he hk
  have hA:=FA he hk
  generalize iI kC ys f=i at *
  have G9:pS s.R f=ys[i].1.b.length:=by unfold pS;rw[hg]
  have hold:=k_ _ (List.getElem_mem hi)
  have vX:ys[i].1.b.length<=N:=b5.len _ (by rw[<- he];exact List.mem_map.2 ⟨_,List.getElem_mem hi,rfl⟩)
  rw[G9]
  refine za (λh3=>?_) (λh3=>?_)
  ·rw[if_pos (.inl h3)]
   exact⟨_,⟨rfl,H,bw.le_refl H,rfl⟩,eW.iff.2 ⟨fv,ys,⟨he,k_⟩,aR hS⟩⟩
  ·obtain⟨b0,cap,rest,rfl,hS,mu⟩:=jT.pt (SL.b4 hS (t:=.ob (jT fv ys)::.pt xp (ku fv s) 66::.mem H::F) Xi) (by omega)
   have mB:((ys.map jw).flatten++rest)[0+i*3+2]?=some ys[i].2:=BL hi (i:=2) (by omega) rfl
   refine Gp ?_
   refine zB hi (zR (zX hS Xh mB ?_))
   refine zo hold ?_
   refine bW (λh4=>?_) (λh4=>?_)
   ·rw[if_pos (.inr h4)]
    have:=mu ys w (.pt xp (ku (.slice (some ⟨b0,0,none⟩) ys.length cap) s) 66::.mem H::F) rfl (aR hS)
    exact⟨_,⟨rfl,H,bw.le_refl H,rfl⟩,eW.iff.2 ⟨_,ys,⟨he,k_⟩,SL.b4 this Xi⟩⟩
   ·rw[if_neg (by omega)]
    obtain⟨k,rfl⟩:∃k:Nat,n=(k:Int):=⟨n.toNat,by omega⟩
    rw[Int.toNat_natCast]
    refine Cg (y7 xp s (.slice (some ⟨b0,0,none⟩) ys.length cap) h0 b5.sw b5.sx iO) λw hS=>?_
    by_cases hc:s.f'.off=true
    ·rw[if_pos hc,hc]
     refine zq ?_
     refine Cg (yq true) λw hS=>?_
     have:=mu ys w (.pt xp (ku (.slice (some ⟨b0,0,none⟩) ys.length cap) s.f') 66::.mem H::F) rfl (aR hS)
     exact⟨_,⟨rfl,H,bw.le_refl H,rfl⟩,eW.iff.2 ⟨_,ys,⟨he,k_⟩,SL.b4 this Xi⟩⟩
    ·rw[if_neg hc,(by simpa using hc:s.f'.off=false)]
     refine zw ?_
     refine Gn λw hS=>?_
     refine zB hi (zR (zX hS Xh mB ?_))
     refine Qo hold (k:=k) (by omega) ?_
     intro v' Z'
     refine Gm λb w hS=>?_
     refine zX hS Xh mB ?_
     refine Gp ?_
     have hS:=a_.full (n:=0) (sz:=1) rfl hS
     refine zx (n:=0) (m:=k) hS .hd (si hS Xh Z') (by rw[List.length_take,List.length_map];omega) rfl (λv hv=>nk _ v (List.mem_of_mem_take hv)) (by omega) (by omega) ?_
     clear hS;intro v2 w hS
     have lW:=hS.nZ .hd
     rw[Nat.zero_add,List.nil_append]at hS
     refine Gp ?_
     refine zB hi (zR ?_)
     refine Zb hS Xu mB lW ?_
     clear hS;intro w hS
     rw[Dw (y:=(⟨f,ys[i].1.safe,ys[i].1.b.take k⟩,v2)) hi (i:=2) (by omega) (by omega) (by rw[<- hid];rfl)]at hS
     have AD:i<(ys.set i (⟨f,ys[i].1.safe,ys[i].1.b.take k⟩,v2)).length:=by simpa using hi
     have DR:(((ys.set i (⟨f,ys[i].1.safe,ys[i].1.b.take k⟩,v2)).map jw).flatten++rest)[0+i*3+1]?=some (.int .i64 (ys[i].1.safe:Int)):=BL AD (i:=1) (by omega) (by simp[jw])
     refine Gn λw hS=>?_
     refine zB hi (zR (zX hS Xh DR ?_))
     refine Gp ?_
     refine zB hi (zR ?_)
     refine Zb hS Xu DR rfl ?_
     clear hS;intro w hS
     have WL:min (ys[i].1.safe:Int) (k:Int)=((min ys[i].1.safe k:Nat):Int):=by omega
     rw[WL]at hS
     rw[Dw (y:=(⟨f,min ys[i].1.safe k,ys[i].1.b.take k⟩,v2)) AD (i:=1) (by omega) (by omega) (by simp[jw]),List.set_set]at hS
     have e1:(ys[i].1.b.map cR).take (k*1)=(ys[i].1.b.take k).map cR:=by rw[Nat.mul_one,List.map_take]
     have e2:(ys[i].1.b.take k).length=k:=by rw[List.length_take];omega
     rw[e1]at hS
     obtain⟨H',iw,m_,hS⟩:=zE (H:=H) (v:=v2) (n:=k) (sz:=1) (t:=5) (cells:=(ys[i].1.b.take k).map cR) hS Xp
     refine Cg (yq false) λw hS=>?_
     refine⟨_,⟨rfl,H',iw,rfl⟩,eW.iff.2 ⟨Value.slice (some ⟨b0,0,none⟩) ys.length cap,ys.set i (⟨f,min ys[i].1.safe k,ys[i].1.b.take k⟩,v2),⟨?_,(k_.mono iw).set (by rw[e2];exact m_)⟩,?_⟩⟩
     ·show _=nN s.R f _
      rw[hA.put _ rfl,E6 hg];rfl
     ·have:=mu (ys.set i (⟨f,min ys[i].1.safe k,ys[i].1.b.take k⟩,v2)) w (.pt xp (ku (.slice (some ⟨b0,0,none⟩) ys.length cap) s.f') 66::.mem H'::F) (by simp) (aR hS)
      exact SL.b4 this Xi
theorem Zq(H:bw)(xp:Nat)(s:DS)(N:Nat)(b5:s.Ok N)(iO:s.ops<=100000)(hR:s.R.length<=100000)(f:Int):
  SP 174 [.pointer (some ⟨xp,0,none⟩),.int .i64 f] [.ob (eW H xp s),.mem H] (dW (.int .i64 (s.remove f).2) [.ob (eW H xp (s.remove f).1),.mem H]):=by
 intro W F w hS;apply b4p;delta Kx aF fI aW dI c_ ai bI;(try simp only[app]at hS)
 obtain⟨fv,ys,⟨he,k_⟩,hS⟩:=eW.iff.1 hS
 have tI:ys.length=s.R.length:=by rw[<- he,List.length_map]
 refine Cc (yA xp s fv ys he b5.sorted (by omega) f true) ?_;clear hS
 rintro v post ⟨rfl,rfl⟩ w hS
 try simp only[app]at hS
 simp only[if_true]
 unfold DS.remove
 refine bW (λh=>?_) (λh=>?_)
 ·rw[if_pos h]
  exact⟨_,⟨rfl,rfl⟩,eW.iff.2 ⟨fv,ys,⟨he,k_⟩,aR hS⟩⟩
 ·rw[if_neg h]
  obtain⟨hm,hk⟩:=Gk (s:=s) (f:=f) (by omega)
  rw[El he]at hk
  obtain⟨h0,tz,xh⟩:=vn hm
  refine Cg (y7 xp s fv h0 b5.sw b5.sx iO) λw hS=>?_
  by_cases hc:s.f'.off=true
  ·rw[if_pos hc,hc]
   refine zq ?_
   refine Cg (yq true) λw hS=>?_
   exact⟨_,⟨rfl,rfl⟩,eW.iff.2 ⟨fv,ys,⟨he,k_⟩,aR hS⟩⟩
  ·rw[if_neg hc,(by simpa using hc:s.f'.off=false)]
   refine zw ?_
   refine Cg (y6 xp s.f' fv ys (by rw[he];exact b5.sorted) (by omega) f) λw hS=>?_
   obtain⟨hi,hg,hid⟩:=Gx he hk
   have aie:nr kC ys f=ys.eraseIdx (iI kC ys f):=by unfold nr;rw[if_pos hk]
   have P8:=Ox tJ ys f
   rw[he,aie]at P8
   generalize iI kC ys f=i at *
   have xc:=OQ k_
   refine IS hS (t:=186) (sz:=3) (n:=ys.length) (cells:=(ys.map jw).flatten) Xh (Nat.le_of_lt hi) ?_
   intro a cap ld
   refine Gp ?_
   refine QH hS (t:=186) (sz:=3) (n:=ys.length) (cells:=(ys.map jw).flatten) Xh hi ?_
   intro u Hr
   refine Gm λb w hS=>?_
   have hS:=a_.full (n:=0) (sz:=3) rfl hS
   refine zx (n:=0) (m:=i) hS .hd (ld _ _ hS Xh) (by rw[List.length_take,mH nG];exact Nat.min_eq_left (Nat.mul_le_mul_right _ (Nat.le_of_lt hi))) rfl (λv hv=>xc v (List.mem_of_mem_take hv)) (by omega) (by omega) ?_
   clear hS;intro v1 w hS
   rw[Nat.zero_add,List.nil_append,sC nG]at hS
   refine Gp ?_
   refine zx (n:=i) (m:=ys.length-(i+1)) (cells:=((ys.take i).map jw).flatten) hS Xr (Hr _ _ hS Xh) (by rw[List.length_drop,mH nG,Nat.mul_sub_right_distrib]) rfl (λv hv=>xc v (List.mem_of_mem_drop hv)) (by omega) (by omega) ?_
   clear hS;intro v3 w hS
   have lW:=hS.nZ .hd
   refine Gn λw hS=>?_
   rw[rT nG]at hS
   have e1:((ys.take i).map jw).flatten++((ys.drop (i+1)).map jw).flatten=((ys.eraseIdx i).map jw).flatten:=by rw[List.eraseIdx_eq_take_drop_succ];simp
   have e2:i+(ys.length-(i+1))=(ys.eraseIdx i).length:=by rw[List.length_eraseIdx,if_pos hi];omega
   rw[e1,e2]at hS
   refine Cg (yq false) λw hS=>?_
   exact⟨_,⟨rfl,rfl⟩,eW.iff.2 ⟨v3,ys.eraseIdx i,⟨P8,λy hy=>k_ y (List.mem_of_mem_eraseIdx hy)⟩,aR hS⟩⟩
def iH(H:bw)(r:Nat)(ts:kq):zC:=mX λx:Value × List Value=>zQ (mE H x.2 ts/\ts.length<=8)
 [.pt r [x.1] 157,.ob (a_ x.1 53 1 ts.length x.2)]
section
variable {W w:World} {l F:List Chunk} {H H':bw} {r:Nat} {ts:kq}
theorem iH.iff:SL W (.ob (iH H r ts)::l) w↔∃(v:Value) (vs:List Value),(mE H vs ts/\ts.length<=8)/\SL W (.pt r [v] 157::.ob (a_ v 53 1 ts.length vs)::l) w:=by
 unfold iH
 simp only[SL.ex,SL.fact,List.cons_append,List.nil_append]
 constructor
 ·rintro ⟨⟨v,vs⟩,h1,h2⟩;exact⟨v,vs,h1,h2⟩
 ·rintro ⟨v,vs,h1,h2⟩;exact⟨⟨v,vs⟩,h1,h2⟩
theorem iH.mono(hh:H.le H')(h:SL W (.ob (iH H r ts)::l) w):SL W (.ob (iH H' r ts)::l) w:=by
 obtain⟨v,vs,hA,hS⟩:=iH.iff.1 h
 exact iH.iff.2 ⟨v,vs,⟨hA.1.mono hh,hA.2⟩,hS⟩
theorem iH.lh(hh:H.le H')(hS:SL W l w)(k:kL (.ob (iH H r ts)) l F):SL W (.ob (iH H' r ts)::F) w:=iH.mono hh (hS.perm k.perm)
theorem iH.put{v:Value}{vs:List Value}(ts:kq)(h:mE H vs ts)(h8:ts.length<=8)(hS:SL W l w)(k:ky [.pt r [v] 157,.ob (a_ v 53 1 ts.length vs)] l F):SL W (.ob (iH H r ts)::F) w:=iH.iff.2 ⟨v,vs,⟨h,h8⟩,hS.pick k⟩
end
theorem aW6(H:bw)(n:Nat)(h1:1<=n)(h2:n<=8):SP 75 [.int .i64 n] [] (λv post=>∃r:Nat,v=dF r/\post=[.ob (iH H r (List.replicate n []))]):=by
 intro W w F hS
 refine zU.mono (aW7 H n h1 h2 W w F hS) ?_
 rintro v w' ⟨post,⟨r,rfl,rfl⟩,hS⟩
 obtain⟨bv,vs,hA,hS⟩:=wJ.iff.1 hS
 have hS:=a_.full (n:=(List.replicate n ([]:List Row)).length) (sz:=1) (by rw[hA.1.1,Nat.mul_one]) (hS.perm (.swap _ _ _))
 exact⟨_,⟨r,rfl,rfl⟩,iH.iff.2 ⟨_,vs,hA,hS.perm (.swap _ _ _)⟩⟩
theorem Y7(H:bw)(r:Nat)(ts:kq)(t:Int):SP 77 [dF r,.int .i64 t] [.ob (iH H r ts)] (dW (.bool (decide (0<=t/\t<(ts.length:Int)))) [.ob (iH H r ts)]):=by
 intro W F w hS;apply b88;delta Nb aF bF b7 ai;(try simp only[app]at hS)
 refine bW (λh=>?_) (λh=>?_)
 ·obtain⟨v,vs,hA,hS⟩:=iH.iff.1 hS
  refine Gp ?_
  refine zt hS Xh ?_
  refine Gp ?_
  have hS:=iH.put ts hA.1 hA.2 hS Xp
  rw[show (decide (t<(ts.length:Int)))=decide (0<=t/\t<(ts.length:Int)) by simp[h]]
  exact eF hS
 ·rw[decide_eq_false (show ¬(0<=t/\t<(ts.length:Int)) by omega)]
  exact eF hS
def xZ(H:bw)(r:Nat)(ts:kq)(l:List ig)(u:Value)(post:List Chunk):Prop:=if l.all (ki ts.length)=true then u= .bool true/\∃H',H.le H'/\post=[.mem H',.ob (iH H' r (jz ts l))] else u= .bool false/\post=[.mem H,.ob (iH H r ts)]
theorem Vg{ts:kq}{c:ig}{t:Nat}(ht:t<ts.length)(hc:c.table=t):mo ts c=ts.set t (ni ts[t] c):=by
 unfold mo
 rw[hc,Int.toNat_natCast,pY ts t ht]
theorem yV(H:bw)(r:Nat)(ts:kq)(v:Value)(l:List ig)(hv:gi H 4 v l.length (l.map jA).flatten){L0:Nat}(hL:∀C∈ts,C.length<=L0)(hn:L0+l.length<=1000000):
  SP 78 [dF r,v] [.mem H,.ob (iH H r ts)] (xZ H r ts l):=by
 intro W F w hS;apply b89;delta Nc aF bF a7 aW dI c_ b7 ai;(try simp only[app]at hS)
 refine⟨λus w=>∃i:Nat,us=[.int .i64 i]/\i<=l.length/\(∀j (h:j<l.length),j<i->ki ts.length l[j]=true)/\SL W (.mem H::.ob (iH H r ts)::F) w,λus _=>match us with|[.int _ i]=>(l.length-i).toNat|_=>0,⟨0,rfl,by omega,λj h hj=>by omega,hS⟩,?_⟩
 clear hS
 rintro v5 w ⟨i,cW,hi,iz,hS⟩
 cases cW
 refine zo hv ?_
 refine bW (λh=>?_) (λh=>?_)
 ·have b3:i<l.length:=by omega
  refine zH hS Xh m0 hv (x:=l[i]) (List.getElem?_eq_getElem b3) b3 (i:=0) rfl ?_
  refine Cg (Y7 H r ts l[i].table) λw hS=>?_
  refine zA (λhe=>?_) (λhe=>?_)
  ·have iR:¬l.all (ki ts.length)=true:=λh=>by
    have:=List.all_eq_true.1 h _ (List.getElem_mem b3)
    unfold ki at this
    rw[he]at this;cases this
   exact⟨[.mem H,.ob (iH H r ts)],by unfold xZ;rw[if_neg iR];exact⟨rfl,rfl⟩,aR hS⟩
  ·refine Gp ?_
   refine⟨⟨i+1,rfl,by omega,λj hj k9=>?_,aR hS⟩,by dsimp only;omega⟩
   by_cases e:j=i
   ·subst e;exact he
   ·exact iz j hj (by omega)
 ·have hA:∀c∈l,ki ts.length c=true:=λc hc=>by
   obtain⟨j,hj,rfl⟩:=List.getElem_of_mem hc
   exact iz j hj (by omega)
  have XN:l.all (ki ts.length)=true:=List.all_eq_true.2 hA
  refine⟨λus w=>∃(i:Nat) (H2:bw),us=[.int .i64 i]/\i<=l.length/\H.le H2/\SL W (.mem H2::.ob (iH H2 r (jz ts (l.take i)))::F) w,λus _=>match us with|[.int _ i]=>(l.length-i).toNat|_=>0,⟨0,H,rfl,by omega,bw.le_refl H,hS⟩,?_⟩
  clear hS h hi iz i
  rintro v6 w ⟨i,H2,cW,hi,hH,hS⟩
  cases cW
  have l8:=hv.mono hH
  refine zo l8 ?_
  refine bW (λh=>?_) (λh=>?_)
  ·have b3:i<l.length:=by omega
   have hx:l[i]?=some l[i]:=List.getElem?_eq_getElem b3
   have u6:=of_decide_eq_true (hA _ (List.getElem_mem b3))
   have uz:jz ts (l.take (i+1))=mo (jz ts (l.take i)) l[i]:=by rw[List.take_succ_eq_append_getElem b3,FD]
   have nt:=tW ts (l.take i)
   have rW:∀C∈jz ts (l.take i),C.length<=1000000:=λC hC=>by
    have:=Aa L0 hL (λc hc=>hA c (List.mem_of_mem_take hc)) C hC
    rw[List.length_take]at this
    omega
   generalize jz ts (l.take i)=T at *
   generalize l[i]=c at *
   obtain⟨table,key,gone,val⟩:=c
   simp only at u6
   obtain⟨t,rfl⟩:∃t:Nat,table=t:=⟨table.toNat,by omega⟩
   have ht:t<T.length:=by omega
   rw[Vg ht rfl]at uz
   have GH:=rW _ (List.getElem_mem ht)
   have XZ:T[t]?=some T[t]:=List.getElem?_eq_getElem ht
   refine zH hS Xh m0 l8 hx b3 (i:=0) rfl ?_
   refine zH hS Xh m0 l8 hx b3 (i:=2) rfl ?_
   obtain⟨sv,vs,hR,hS⟩:=iH.iff.1 (SL.b4 hS (t:=.ob (iH H2 r T)::.mem H2::F) Xi)
   have xG:t<vs.length:=by rw[hR.1.1];exact ht
   have vk:vs[t]?=some vs[t]:=List.getElem?_eq_getElem xG
   have hC:=hR.1.2 t vs[t] T[t] vk XZ
   generalize T[t]=C at *
   generalize vs[t]=cv at *
   have mu:∀{w:World} {H3:bw} {u:Value} {C':List Row},H2.le H3->gi H3 2 u C'.length (C'.map iq).flatten->jz ts (l.take (i+1))=T.set t C'->SL W (.ob (a_ sv 53 1 T.length (vs.set t u))::.pt r [sv] 157::.mem H3::F) w ->
     ∃(i':Nat) (H2:bw),[Value.int .i64 ((i+1:Nat):Int)]=[.int .i64 i']/\i'<=l.length/\H.le H2/\SL W (.mem H2::.ob (iH H2 r (jz ts (l.take i')))::F) w:=λ{w H3 u C'} kz hu e hS=>by
    refine⟨i+1,_,rfl,by omega,bw.le_trans hH kz,?_⟩
    rw[e]
    have hS:=(iH.iff (H:=H3) (r:=r) (ts:=T.set t C')).2 ⟨sv,vs.set t u,⟨(hR.1.mono kz).set hu,by rw[List.length_set];exact hR.2⟩,by rw[List.length_set];exact SL.b4 hS (t:=.pt r [sv] 157::.ob (a_ sv 53 1 T.length (vs.set t u))::.mem H3::F) Xi⟩
    exact aR hS
   cases gone with
   | true=>
    refine zw ?_
    refine Gn λw hS=>?_
    refine z8 hS Xh ht vk ?_
    refine zH hS Xh m0 l8 hx b3 (i:=1) rfl ?_
    refine Cc (qo H2 cv C key hC GH) ?_;clear hS
    rintro v3 post ⟨u,bb,H3,kz,rfl,BV,rfl⟩ w hS
    try simp only[app]at hS
    have h1:=BV.one
    refine Gp ?_
    refine y9 (SL.b4 hS (t:=.ob (a_ sv 53 1 T.length vs)::.pt r [sv] 157::.mem H3::F) Xi) ht h1 λw hS=>?_
    refine Gp ?_
    exact⟨mu kz BV uz hS,by dsimp only;omega⟩
   | false=>
    refine zq ?_
    refine Gn λw hS=>?_
    refine z8 hS Xh ht vk ?_
    refine zH hS Xh m0 l8 hx b3 (i:=1) rfl ?_
    refine zH hS Xh m0 l8 hx b3 (i:=3) rfl ?_
    refine Cc (qp H2 cv C key val hC GH) ?_;clear hS
    rintro v3 post ⟨u,bb,H3,kz,rfl,BV,rfl⟩ w hS
    try simp only[app]at hS
    have h1:=BV.one
    refine Gp ?_
    refine y9 (SL.b4 hS (t:=.ob (a_ sv 53 1 T.length vs)::.pt r [sv] 157::.mem H3::F) Xi) ht h1 λw hS=>?_
    refine Gp ?_
    exact⟨mu kz BV uz hS,by dsimp only;omega⟩
  ·obtain rfl:i=l.length:=by omega
   rw[List.take_length]at hS
   exact⟨[.mem H2,.ob (iH H2 r (jz ts l))],by unfold xZ;rw[if_pos XN];exact⟨rfl,H2,hH,rfl⟩,hS⟩
theorem qF(H:bw)(r:Nat)(ts:kq)(hn:∀C∈ts,C.length<=1000000):
  SP 248 [dF r] [.mem H,.ob (iH H r ts)] (λu post=>∃(r2:Nat) (H':bw),H.le H'/\u=dF r2/\post=[.mem H',.ob (iH H' r ts),.ob (iH H' r2 ts)]):=by
 intro W F w hS;apply b6f;delta Lx aF bF aW dI ai cI bI;(try simp only[app]at hS)
 obtain⟨sv,vs,hR,hS⟩:=iH.iff.1 (SL.b4 hS (t:=.ob (iH H r ts)::.mem H::F) Xi)
 have h8:=hR.2
 refine Gp ?_
 refine zt hS (v:=sv) (t:=53) (sz:=1) (n:=ts.length) (cells:=vs) Xh ?_
 refine EP hS (by omega) (by omega) (by omega) ?_
 clear hS;intro bv w hS
 have hz:b_ [.slice none 0 0] ts.length=List.replicate ts.length (.slice none 0 0:Value):=by simp[b_]
 rw[hz]at hS
 have hS:=a_.full (n:=ts.length) (sz:=1) (by simp) hS
 generalize X7:(Value.slice (some ⟨bv,0,none⟩) ts.length ts.length)=nv at *
 have h1:nv.oneCell'=true:=by rw[<- X7];rfl
 refine yx (Dy h1) ?_
 refine⟨_,rfl,zJ hS ?_⟩
 clear hS;intro r2 w hS
 refine⟨λus w=>∃(i:Nat) (H2:bw) (Be:List Value),us=[.int .i64 i]/\i<=ts.length/\H.le H2/\mE H2 Be (ts.take i++List.replicate (ts.length-i) [])/\SL W (.pt r2 [nv] 157::.ob (a_ nv 53 1 ts.length Be)::.pt r [sv] 157::.ob (a_ sv 53 1 ts.length vs)::.mem H2::F) w,
  λus _=>match us with|[.int _ i]=>(ts.length-i).toNat|_=>0,⟨0,H,List.replicate ts.length (.slice none 0 0),rfl,by omega,bw.le_refl H,⟨by simp,λi v C h1 h2=>by
   rw[List.take_zero,List.nil_append,List.getElem?_replicate]at h2
   rw[List.getElem?_replicate]at h1
   split at h1
   ·cases h1;split at h2
    all_goals first|(cases h2;exact gi.nil H 2)|(cases h2)
   ·cases h1⟩,aR hS⟩,?_⟩
 clear hS
 rintro v4 w ⟨i,H2,Be,cW,hi,hH,m_,hS⟩
 cases cW
 refine Gp ?_
 refine zt hS (v:=sv) (t:=53) (sz:=1) (n:=ts.length) (cells:=vs) Xh ?_
 refine bW (λh=>?_) (λh=>?_)
 ·have b3:i<ts.length:=by omega
  have xG:i<vs.length:=by rw[hR.1.1];exact b3
  have vk:vs[i]?=some vs[i]:=List.getElem?_eq_getElem xG
  have hC:=(hR.1.2 i vs[i] ts[i] vk (List.getElem?_eq_getElem b3)).mono hH
  have GH:=hn _ (List.getElem_mem b3)
  have xF:(ts.take i++List.replicate (ts.length-i) ([]:List Row)).set i ts[i]=ts.take (i+1)++List.replicate (ts.length-(i+1)) []:=by
   rw[List.set_append_right _ _ (by rw[List.length_take];omega),List.length_take,Nat.min_eq_left hi,Nat.sub_self,show ts.length-i=(ts.length-(i+1))+1 by omega,List.replicate_succ,List.set_cons_zero,List.take_succ_eq_append_getElem b3,List.append_assoc];rfl
  generalize ts[i]=C at *
  generalize vs[i]=cv at *
  refine Gn λw hS=>?_
  obtain⟨sa,sc,rfl,Eb,hsx⟩:=a_.at hS (v:=sv) (t:=53) (sz:=1) (n:=ts.length) (cells:=vs) Xh
  obtain⟨sb,rfl,_⟩:=hsx i b3
  have mB:vs[0+i*1]?=some cv:=by rw[Nat.zero_add,Nat.mul_one];exact vk
  refine zB b3 ?_
  refine qw hS (t:=53) (sz:=1) (cells:=vs) Xh (by omega) mB ?_
  refine zz hS (cells:=[]) rfl ?_
  clear hS;intro b1 w hS
  refine Gp ?_
  refine qw hS (t:=53) (sz:=1) (cells:=vs) Xh (by omega) mB (YP ?_)
  have hS:=a_.full (n:=0) (sz:=2) (b:=b1) (t:=52) (cells:=[]) rfl hS
  refine zx (n:=0) (m:=C.length) hS Xr (si hS Xh hC) (mH jY _) rfl (pT Aj _) (by omega) (by omega) ?_
  clear hS;intro u w hS
  rw[List.nil_append,Nat.zero_add]at hS
  obtain⟨H3,kz,hO,hS⟩:=zE (H:=H2) (v:=u) (n:=C.length) (sz:=2) (t:=52) (cells:=(C.map iq).flatten) hS Xp
  have h1:=hO.one
  refine Gp ?_
  refine y9 (SL.b4 hS (t:=.ob (a_ nv 53 1 ts.length Be)::.pt r2 [nv] 157::.pt r [.slice (some ⟨sb,0,none⟩) ts.length sc] 157::.ob (a_ (.slice (some ⟨sb,0,none⟩) ts.length sc) 53 1 ts.length vs)::.mem H3::F) Xi) b3 h1 λw hS=>?_
  refine Gp ?_
  refine⟨⟨i+1,H3,Be.set i u,rfl,by omega,bw.le_trans hH kz,?_,aR hS⟩,by dsimp only;omega⟩
  rw[<- xF]
  exact (m_.mono kz).set hO
 ·obtain rfl:i=ts.length:=by omega
  rw[List.take_length,Nat.sub_self,List.replicate_zero,List.append_nil]at m_
  have hS:=iH.put (H:=H2) ts (hR.1.mono hH) hR.2 hS (r:=r) (v:=sv) (vs:=vs) Xp
  have hS:=iH.put (H:=H2) ts m_ hR.2 hS (r:=r2) (v:=nv) (vs:=Be) Xp
  exact⟨_,⟨r2,H2,hH,rfl,rfl⟩,aR hS⟩
theorem qJ(H:bw)(r:Nat)(ts:kq)(v:Value)(l:List ig)(hv:gi H 4 v l.length (l.map jA).flatten){L0:Nat}(hL:∀C∈ts,C.length<=L0)(hn:L0+l.length<=1000000):
  SP 182 [dF r,v] [.mem H,.ob (iH H r ts)] (λu post=>∃H',H.le H'/\u= .bool (oU ts l)/\post=[.mem H',.ob (iH H' r ts)]):=by
 intro W F w hS;apply b4y;delta KG aF bF c_ b7 ai;(try simp only[app]at hS)
 refine Cc (qF H r ts (λC hC=>by have:=hL C hC;omega)) ?_;clear hS
 rintro _ post ⟨r2,H1,iw,rfl,rfl⟩ w hS
 try simp only[app]at hS
 refine Cc (yV H1 r2 ts v l (hv.mono iw) hL hn) ?_;clear hS
 rintro u post hq w hS
 unfold xZ at hq
 by_cases ha:l.all (ki ts.length)=true
 ·rw[if_pos ha]at hq
  obtain⟨rfl,H2,iB,rfl⟩:=hq
  try simp only[app]at hS
  refine zP (zq ?_)
  have hS:=iH.lh iB hS (r:=r) (ts:=ts) Xr
  have hf:oU ts l=(jz ts l).all λC=>decide (C.length<=1000):=by unfold oU;rw[ha];rfl
  obtain⟨sv,vs,hR,hS⟩:=iH.iff.1 (SL.b4 hS (t:=.ob (iH H2 r2 (jz ts l))::.ob (iH H2 r ts)::.mem H2::F) Xi)
  generalize jz ts l=T at *
  refine⟨λus w=>∃i:Nat,us=[.int .i64 i]/\i<=T.length/\(∀j (h:j<T.length),j<i->T[j].length<=1000)/\SL W (.pt r2 [sv] 157::.ob (a_ sv 53 1 T.length vs)::.ob (iH H2 r ts)::.mem H2::F) w,λus _=>match us with|[.int _ i]=>(T.length-i).toNat|_=>0,⟨0,rfl,by omega,λj h hj=>by omega,hS⟩,?_⟩
  clear hS
  rintro v6 w ⟨i,cW,hi,iz,hS⟩
  cases cW
  refine Gp ?_
  refine zt hS (v:=sv) (t:=53) (sz:=1) (n:=T.length) (cells:=vs) Xh ?_
  refine bW (λh=>?_) (λh=>?_)
  ·have b3:i<T.length:=by omega
   have xG:i<vs.length:=by rw[hR.1.1];exact b3
   have vk:vs[i]?=some vs[i]:=List.getElem?_eq_getElem xG
   have hC:=hR.1.2 i vs[i] T[i] vk (List.getElem?_eq_getElem b3)
   refine Gp ?_
   refine z8 hS Xh b3 vk ?_
   refine zo hC ?_
   refine bW (λh2=>?_) (λh2=>?_)
   ·refine⟨[.mem H2,.ob (iH H2 r ts)],⟨H2,bw.le_trans iw iB,?_,rfl⟩,aR hS⟩
    rw[hf,show T.all (λC=>decide (C.length<=1000))=false from List.all_eq_false.2 ⟨_,List.getElem_mem b3,by rw[decide_eq_true_eq];omega⟩]
   ·refine Gp ?_
    refine⟨⟨i+1,rfl,by omega,λj hj k9=>?_,aR hS⟩,by dsimp only;omega⟩
    by_cases e:j=i
    ·subst e;omega
    ·exact iz j hj (by omega)
  ·refine⟨[.mem H2,.ob (iH H2 r ts)],⟨H2,bw.le_trans iw iB,?_,rfl⟩,aR hS⟩
   rw[hf,show T.all (λC=>decide (C.length<=1000))=true from List.all_eq_true.2 λC hC=>by
    obtain⟨j,hj,rfl⟩:=List.getElem_of_mem hC
    exact decide_eq_true (iz j hj (by omega))]
 ·rw[if_neg ha]at hq
  obtain⟨rfl,rfl⟩:=hq
  try simp only[app]at hS
  refine zP (zw ?_)
  refine⟨[.mem H1,.ob (iH H1 r ts)],⟨H1,iw,?_,rfl⟩,aR hS⟩
  unfold oU
  rw[Bool.eq_false_iff.2 ha]
  rfl
theorem k6.head{L:List fW}(h:k6 L)(hL:L≠[]):b9 L=jB L+(iK L).length-1:=by
 induction L with
 | nil=>exact absurd rfl hL
 | cons s r ih=>
  cases r with
  | nil=>simp[b9,jB,iK,fW.next]
  | cons t r=>
   have h1:=ih h.2 (by simp)
   have h2:b9 (s::t::r)=b9 (t::r):=by simp only[b9,List.getLast?_cons_cons]
   have h3:=h.1
   rw[h2,h1,w5 s (t::r),List.length_append]
   simp only[fW.next]at h3
   show jB (t::r)+_-1=s.first+_-1
   have:jB (t::r)=t.first:=rfl
   rw[this];omega
theorem k6.read:∀{L:List fW},k6 L->∀i:Nat,lj L (jB L+i)=(iK L)[i]?
 | [],_,i=>by simp[lj,iK]
 | [s],_,i=>by
  have e:jB [s]=s.first:=rfl
  rw[e,lj,w5]
  have he:iK []=([]:List (List UInt8)):=rfl
  rw[he,List.append_nil]
  by_cases h:i<s.l.length
  ·rw[if_pos ⟨by omega,by show s.first+i<s.first+s.l.length;omega⟩]
   congr 1;omega
  ·rw[if_neg (by rintro ⟨_,h2⟩;have h2:s.first+i<s.first+s.l.length:=h2;omega),List.getElem?_eq_none (by omega)];rfl
 | s::t::r,h,i=>by
  have e:jB (s::t::r)=s.first:=rfl
  have e2:jB (t::r)=t.first:=rfl
  have h1:=h.1
  simp only[fW.next]at h1
  rw[e,lj,w5]
  by_cases hi:i<s.l.length
  ·rw[if_pos ⟨by omega,by show s.first+i<s.first+s.l.length;omega⟩,List.getElem?_append_left hi]
   congr 1;omega
  ·rw[if_neg (by rintro ⟨_,h2⟩;have h2:s.first+i<s.first+s.l.length:=h2;omega),List.getElem?_append_right (by omega)]
   have:=k6.read h.2 (i-s.l.length)
   rw[e2]at this
   rw[<- this]
   congr 1;omega
theorem Ta{d d':DS}{base size:Int}{N:Nat}(hw:sr d.R base N)(hR:d.R.length<=100000){g:g8}(h:kE d base size=(d',.ok g)):od g (N+100000):=by
 have hk:=(a7q hw hR h).1
 unfold kE at h
 split at h
 ·cases h
 ·split at h
  ·cases h
  ·split at h
   ·cases h
   ·rename_i L wh hl
    obtain⟨k1,k2⟩:=St _ _ [] _ trivial (by decide) hl
    split at h
    ·cases h
    ·cases h
     exact⟨hk,k1,k2,λx hx=>by cases hx⟩
theorem R':∀(l:List Nat) (a N:Nat),a<=N->l.Pairwise (· < ·)->(∀x∈l,a<=x/\x<N)->l.length+a<=N
 | [],a,N,h,_,_=>by simpa using h
 | x::l,a,N,_,hp,hx=>by
  have h1:=hx x (.head _)
  obtain⟨tD,ux⟩:=List.pairwise_cons.1 hp
  have:=R' l (x+1) N (by omega) ux λy hy=>⟨tD y hy,(hx y (.tail _ hy)).2⟩
  rw[List.length_cons];omega
theorem DS.Ok.A_{s:DS}{N:Nat}(h:s.Ok N):s.R.length<=16384:=by
 have hs:(s.R.map λx=>x.id.toNat).Pairwise (· < ·):=by
  rw[List.pairwise_map]
  refine List.Pairwise.imp_of_mem (λ{a b} ha hb ix=>?_) h.sorted
  have h1:=h.ids a ha
  have h2:=h.ids b hb
  have ix:a.id<b.id:=ix
  omega
 have:=R' _ 0 16384 (by decide) hs λn hn=>by
  obtain⟨x,hx,rfl⟩:=List.mem_map.1 hn
  have:=h.ids x hx
  omega
 simpa using this
def UK(dp:Nat)(d:DS)(H:bw)(n:Nat)(f:Int)(r:Value)(post:List Chunk):Prop:=∃H',H.le H'/\post=[.ob (cw dp d),.mem H']/\match lE d.R n f with
 | none=>∃a b,r= .tuple #[a,b,.bool false]
 | some y=>∃v,uK H' v y.2/\r= .tuple #[.int .i64 y.1,v,.bool true]
theorem QV(dp:Nat)(d:DS)(H:bw)(n:Nat)(f:Int){N:Nat}(b5:d.Ok N)(hN:N<=140737488355328):
  SP 140 [dF dp,.int .i64 f,.int .i64 (n:Nat)] [.ob (cw dp d),.mem H] (UK dp d H n f):=by
 intro W F w hS;apply b3x;delta J7 aF c_ ai bI;(try simp only[app]at hS)
 refine Cc (Z0 dp d N b5 hN f) ?_;clear hS
 rintro r post hq w hS
 unfold Br at hq
 cases hg:ij PF.id d.R f with
 | none=>
  rw[hg]at hq
  obtain⟨rfl,rfl⟩:=hq
  have hi:lE d.R n f=none:=by unfold lE;rw[hg]
  (try simp only[app]at hS);refine Gp ?_
  refine zw ?_
  refine⟨[.ob (cw dp d),.mem H],⟨H,bw.le_refl H,rfl,?_⟩,aR hS⟩
  rw[hi];exact⟨_,_,rfl⟩
 | some x=>
  rw[hg]at hq
  obtain⟨u,rfl,rfl⟩:=hq
  have rZ:=b5.len x (ug hg).1
  (try simp only[app]at hS);refine Gp ?_
  refine zq ?_
  refine Cc (qd (.ob (a_ u 5 1 x.b.length (x.b.map cR))) H u x.b ie.own (by omega)) ?_;clear hS
  rintro r post hq w hS
  unfold Bk at hq
  cases hd:lO x.b with
  | none=>
   rw[hd]at hq
   obtain⟨rfl,H',hh,rfl⟩:=hq
   have hi:lE d.R n f=none:=by unfold lE;rw[hg];simp only;rw[hd]
   (try simp only[app]at hS);refine Gp ?_
   refine za (λh=>absurd h (by decide)) (λ_=>?_)
   refine⟨[.ob (cw dp d),.mem H'],⟨H',hh,rfl,?_⟩,aR hS⟩
   rw[hi];exact⟨_,_,rfl⟩
  | some y=>
   rw[hd]at hq
   obtain⟨v,H',hh,hT,rfl,rfl⟩:=hq
   have hi:lE d.R n f=if y.2.length=n then some y else none:=by unfold lE;rw[hg];simp only;rw[hd]
   (try simp only[app]at hS);refine Gp ?_
   refine za (λ_=>?_) (λh=>absurd rfl h)
   refine yr hT ?_
   refine Gp ?_
   refine⟨[.ob (cw dp d),.mem H'],⟨H',hh,rfl,?_⟩,aR hS⟩
   rw[hi]
   by_cases hl:y.2.length=n
   ·rw[if_pos hl,decide_eq_true (by omega)]
    exact⟨v,hT,rfl⟩
   ·rw[if_neg hl,decide_eq_false (by omega)]
    exact⟨_,_,rfl⟩
def loadAt(R:List PF)(n:Nat)(x:rJ):Nat->rJ
 | 0=>x
 | 1=>jE R n 0 x
 | _=>jE R n 1 (jE R n 0 x)
theorem Ei{R:List PF}{n:Nat}{f:Int}{y:Int × kq}(h:lE R n f=some y):lg y.1 y.2=true/\y.2.length=n:=by
 unfold lE at h
 split at h
 ·cases h
 ·split at h
  ·cases h
  ·rename_i hd
   split at h
   ·rename_i hl
    cases h
    exact⟨Oq hd,hl⟩
   ·cases h
theorem bRd{α:Type}{l m:List α}{i:Nat}(hi:i<l.length)(h:m.length=l.length):(l.take i++m.drop i).set i l[i]=l.take (i+1)++m.drop (i+1):=by
 rw[List.set_append_right _ _ (by rw[List.length_take];omega),List.length_take,show i-min i l.length=0 by omega,List.drop_eq_getElem_cons (by omega:i<m.length),List.set_cons_zero,List.take_succ_eq_append_getElem hi,List.append_assoc]
 rfl
theorem Sp{R:List PF}{n:Nat}{x:rJ}{j:Nat}(h:j<=1):loadAt R n x (j+1)=jE R n j (loadAt R n x j):=by
 match j,h with
 | 0,_=>rfl
 | 1,_=>rfl
theorem HS{R:List PF}{n:Nat}{f:Int}{x:rJ}(h:x.2.2.length=n):(jE R n f x).2.2.length=n:=by
 unfold jE
 cases hi:lE R n f with
 | none=>exact h
 | some y=>
  simp only
  split
  ·exact h
  ·exact (Ei hi).2
theorem aR2{R:List PF}{n:Nat}{f:Int}{x:rJ}(h:0<=x.2.1/\x.2.1<=1099511627776):0<=(jE R n f x).2.1/\(jE R n f x).2.1<=1099511627776:=by
 unfold jE
 cases hi:lE R n f with
 | none=>exact h
 | some y=>
  simp only
  split
  ·exact h
  ·have:=(tL.1 (Ei hi).1).1
   exact⟨this.1,this.2.1⟩
theorem Q4(sp tp dp lp:Nat)(d:DS)(H:bw)(x0:rJ)(n:Nat)(CF:x0.2.2.length=n)(h8:n<=8){N:Nat}(b5:d.Ok N)(hN:N<=140737488355328):
  SP 56 [dF sp] [.pt sp (pU tp dp lp x0.1 x0.2.1) 58,.ob (iN tp x0.2.2),.ob (cw dp d),.mem H] (λ_ post=>∃H',H.le H'/\post=[.pt sp (pU tp dp lp (jE d.R n 1 (jE d.R n 0 x0)).1 (jE d.R n 1 (jE d.R n 0 x0)).2.1) 58,.ob (iN tp (jE d.R n 1 (jE d.R n 0 x0)).2.2),.ob (cw dp d),.mem H']):=by
 intro W F w hS;apply b8t;delta MW aF bF fI aW dI c_ ai;(try simp only[app]at hS)
 refine⟨λus w=>∃(j:Nat) (H':bw),us=[.int .i64 j]/\j<=2/\H.le H'/\(loadAt d.R n x0 j).2.2.length=n/\SL W (.pt sp (pU tp dp lp (loadAt d.R n x0 j).1 (loadAt d.R n x0 j).2.1) 58::.ob (iN tp (loadAt d.R n x0 j).2.2)::.ob (cw dp d)::.mem H'::F) w,
  λus _=>match us with|[.int _ i]=>(2-i).toNat|_=>0,⟨0,H,rfl,by omega,bw.le_refl H,CF,hS⟩,?_⟩
 clear hS
 rintro v2 w ⟨j,H',cW,hj,hh,rZ,hS⟩
 cases cW
 refine bW (λh=>?_) (λh=>?_)
 ·have uq:j<=1:=by omega
  have lL:=Sp (R:=d.R) (n:=n) (x:=x0) uq
  have k8:∀{w:World} {H2:bw} (y:rJ),jE d.R n j (loadAt d.R n x0 j)=y->H.le H2->SL W (.pt sp (pU tp dp lp y.1 y.2.1) 58::.ob (iN tp y.2.2)::.ob (cw dp d)::.mem H2::F) w ->
    ∃(j':Nat) (H':bw),[Value.int .i64 ((j+1:Nat):Int)]=[.int .i64 j']/\j'<=2/\H.le H'/\(loadAt d.R n x0 j').2.2.length=n/\SL W (.pt sp (pU tp dp lp (loadAt d.R n x0 j').1 (loadAt d.R n x0 j').2.1) 58::.ob (iN tp (loadAt d.R n x0 j').2.2)::.ob (cw dp d)::.mem H'::F) w:=λy hy kF hS=>by
   refine⟨j+1,_,rfl,by omega,kF,?_,?_⟩
   ·rw[lL];exact HS rZ
   ·rw[lL,hy];exact hS
  generalize hx:loadAt d.R n x0 j=x at *
  refine Gn λw hS=>?_
  refine Cg (yU tp x.2.2) λw hS=>?_
  refine Cc (QV dp d H' x.2.2.length j b5 hN) ?_;clear hS
  rintro r post ⟨H2,iB,rfl,hq⟩ w hS
  try simp only[app]at hS
  rw[rZ]at hq
  have kF:=bw.le_trans hh iB
  cases hi:lE d.R n j with
  | none=>
   rw[hi]at hq
   obtain⟨a,b,rfl⟩:=hq
   refine Gp ?_
   refine⟨λus w=>False,?_,λw h=>h.elim⟩
   refine zP (zw ?_)
   refine Gp ?_
   exact⟨k8 x (by unfold jE;rw[hi]) kF (aR hS),by dsimp only;omega⟩
  | some y=>
   rw[hi]at hq
   obtain⟨v,hT,rfl⟩:=hq
   obtain⟨wc,tI⟩:=Ei hi
   have uk:=(tL.1 wc).2
   refine Gp ?_
   refine⟨λus w=>us=[]/\¬(0<=x.1/\y.1<=x.2.1)/\SL W (.pt sp (pU tp dp lp x.1 x.2.1) 58::.ob (iN tp x.2.2)::.ob (cw dp d)::.mem H2::F) w,?_,?_⟩
   ·refine zP (zq ?_)
    refine bW (λh0=>?_) (λh0=>?_)
    ·refine bW (λh1=>?_) (λh1=>?_)
     ·refine Gp ?_
      exact⟨k8 x (by unfold jE;rw[hi];simp only;rw[if_pos ⟨h0,h1⟩]) kF (aR hS),by dsimp only;omega⟩
     ·exact⟨rfl,λh=>h1 h.2,aR hS⟩
    ·exact⟨rfl,λh=>h0 h.1,aR hS⟩
   clear hS
   rintro w ⟨-,hc,hS⟩
   refine Gn λw hS=>?_
   refine yr hT ?_
   have hS:SL W (_::.ob (iN tp (y.2.take 0++x.2.2.drop 0))::_) _:=hS
   refine⟨λus w=>∃i:Nat,us=[.int .i64 i]/\i<=y.2.length/\SL W (.ob (iN tp (y.2.take i++x.2.2.drop i))::.pt sp (pU tp dp lp j y.1) 58::.ob (cw dp d)::.mem H2::F) w,
    λus _=>match us with|[.int _ i]=>(y.2.length-i).toNat|_=>0,⟨0,rfl,by omega,aR hS⟩,?_⟩
   clear hS
   rintro E_ w ⟨i,cW,b3,hS⟩
   cases cW
   refine bW (λh=>?_) (λh=>?_)
   ·have b3:i<y.2.length:=by omega
    have o7:=bRd (m:=x.2.2) b3 (by omega)
    have AQ:i<(y.2.take i++x.2.2.drop i).length:=by rw[List.length_append,List.length_take,List.length_drop];omega
    have PO:=uk _ (List.getElem_mem b3)
    refine YO hS Xh hT b3 λu hu=>?_
    generalize y.2[i]=C at *
    generalize y.2.take i++x.2.2.drop i=T at *
    refine Gp ?_
    refine Cg (Qw tp T H2 u i C AQ hu PO.sorted (by have:=PO.len;omega)) λw hS=>?_
    refine⟨⟨i+1,rfl,by omega,?_⟩,by dsimp only;omega⟩
    rw[<- o7]
    exact aR hS
   ·obtain rfl:i=y.2.length:=by omega
    rw[List.take_length,List.drop_eq_nil_of_le (by omega),List.append_nil]at hS
    refine Gp ?_
    exact⟨k8 (j,y.1,y.2) (by unfold jE;rw[hi];simp only;rw[if_neg hc]) kF (aR hS),by dsimp only;omega⟩
 ·obtain rfl:j=2:=by omega
  exact⟨_,⟨H',hh,rfl⟩,hS⟩
def fR.wx(k:fR):Option kq:=match n3 k.ts.length k.image (iK k.g.bR) (jB k.g.bR) k.ts with
 | none=>none
 | some ts=>if k.image<=b9 k.g.bR/\jB k.g.bR<=k.image+1 then some ts else none
theorem OS{L:List fW}(h:k6 L):b9 L-jB L+1=((iK L).length:Int):=by
 by_cases hL:L=[]
 ·subst hL;rfl
 ·rw[h.head hL];omega
theorem Sx{L:List fW}{N:Nat}(h:∀s∈L,mO s N):1<=jB L/\jB L<=1099511627776:=by
 cases L with
 | nil=>exact⟨Int.le_refl _,by show (1:Int)<=_;decide⟩
 | cons s r=>exact⟨(h s (.head _)).n0,(h s (.head _)).n1⟩
theorem Tz{n:Nat}{image:Int}{b:List UInt8}{r:List (List UInt8)}{aI:Int}{ts:kq}:n3 n image (b::r) aI ts=match l6 b with
  | .error _=>none
  | .ok t=>if t.aI=aI/\(∀c∈t.changes,c.table<(n:Int)) then n3 n image r (aI+1) (if image<aI then jz ts t.changes else ts) else none:=rfl
theorem bFe(sp tp dp lp:Nat)(H:bw)(k:fR){N:Nat}(hg:od k.g N)(hN:N<=1000000000)(hs:∀C∈k.ts,ke C){L0:Nat}(hn:∀C∈k.ts,C.length<=L0)(hL:L0+16*(iK k.g.bR).length<=900000)(sF:0<=k.image/\k.image<=1099511627776):
  SP 57 [dF sp] [.ob (ir sp tp dp lp k),.mem H] (λv post=>∃H',H.le H'/\match k.wx with
   | none=>v= .bool false/\post=[.mem H']
   | some ts=>v= .bool true/\post=[.ob (ir sp tp dp lp {k with ts:=ts}),.mem H']):=by
 intro W F w hS;apply b8u;delta MX aF bF a7 aW dI c_ b7 ai bI;(try simp only[app]at hS)
 have hF:∀{w:World} {H':bw},k.wx=none->H.le H'->SL W (.mem H'::F) w->∃post,(∃H',H.le H'/\match k.wx with
   | none=>(.bool false:Value)= .bool false/\post=[.mem H']
   | some ts=>(.bool false:Value)= .bool true/\post=[.ob (ir sp tp dp lp {k with ts:=ts}),.mem H'])/\SL W (app post F) w:=λhr hh hS=>by
  rw[hr]
  exact⟨[.mem _],⟨_,hh,rfl,rfl⟩,hS⟩
 have vZ:=OS hg.seq
 have wa:=Sx hg.ok.bR
 have B_:=hg.hd
 refine Cg (Yw sp tp dp lp k hg hN) λw hS=>?_
 refine⟨λus w=>∃(i:Nat) (T:kq) (H2:bw),us=[.int .i64 (jB k.g.bR+i)]/\i<=(iK k.g.bR).length/\n3 k.ts.length k.image (iK k.g.bR) (jB k.g.bR) k.ts=n3 k.ts.length k.image ((iK k.g.bR).drop i) (jB k.g.bR+i) T/\T.length=k.ts.length/\(∀C∈T,ke C)/\(∀C∈T,C.length<=L0+16*i)/\H.le H2/\SL W (.ob (ir sp tp dp lp {k with ts:=T})::.mem H2::F) w,
  λus _=>match us with|[.int _ i]=>(b9 k.g.bR+1-i).toNat|_=>0,⟨0,k.ts,H,by simp,by omega,by simp,rfl,hs,by simpa using hn,bw.le_refl H,aR hS⟩,?_⟩
 clear hS
 rintro v3 w ⟨i,T,H2,cW,hi,gw,nt,uk,rW,hh,hS⟩
 cases cW
 refine Cg (yp sp tp dp lp {k with ts:=T} hg hN) λw hS=>?_
 refine za (λh=>?_) (λh=>?_)
 ·have h:jB k.g.bR+i<=b9 k.g.bR:=h
  have b3:i<(iK k.g.bR).length:=by omega
  have Cu:=hg.seq.read i
  rw[List.getElem?_eq_getElem b3]at Cu
  rw[List.drop_eq_getElem_cons b3,Tz]at gw
  generalize (iK k.g.bR)[i]=bs at *
  have ny:1<=jB k.g.bR+i/\jB k.g.bR+i<=1099511627776:=by omega
  generalize hlq:jB k.g.bR+i=aI at *
  have vi:(match l6 bs with
   | .error _=>none
   | .ok t=>if t.aI=aI/\(∀c∈t.changes,c.table<(k.ts.length:Int)) then n3 k.ts.length k.image ((iK k.g.bR).drop (i+1)) (aI+1) (if k.image<aI then jz T t.changes else T) else none)=none->k.wx=none:=λh=>by unfold fR.wx;rw[gw,h]
  refine Cc (yG sp tp dp lp {k with ts:=T} hg hN H2 aI (by omega)) ?_;clear hS
  rintro r post hq w hS
  unfold uM fR.jK at hq
  simp only at hq
  rw[Cu]at hq
  simp only at hq
  cases hd:l6 bs with
  | error e=>
   rw[hd]at hq vi
   obtain⟨iW,H3,kz,rfl,rfl⟩:=hq
   refine Gm λb w hS=>?_
   refine za (λ_=>?_) (λh=>absurd iW h)
   exact hF (vi rfl) (bw.le_trans hh kz) (aR hS)
  | ok t=>
   rw[hd]at hq vi gw
   obtain⟨x,H3,kz,rfl,hx,rfl⟩:=hq
   have oV:=bw.le_trans hh kz
   obtain⟨Hv,AP,Hw,Hx,Hy,Cz,Hz⟩:=nW (Ov hd)
   try simp only[app]at hS
   refine Gp ?_
   refine zJ hS λxb w hS=>?_
   refine zD (vs:=iU x) hS Xu rfl rfl (sA (aI:=x.aI) (kind:=x.kind) (mark:=x.mark) hx.cv.one hx.sv.one) λw hS=>?_
   unfold iU at hS
   rw[hx.aI,hx.kind,hx.mark]at hS
   refine Gn λw hS=>?_
   refine za (λh=>absurd rfl h) (λ_=>?_)
   refine bW (λhl=>?_) (λhl=>?_)
   ·exact hF (vi (by simp only;rw[if_neg λh=>hl h.1])) oV (aR hS)
   have hS:=ir.iff.1 (SL.b4 hS (t:=.ob (ir sp tp dp lp {k with ts:=T})::.pt xb [.int .i64 t.aI,.int .i64 t.kind,x.cv,x.sv,.int .i64 t.mark] 39::.mem H3::F) Xi)
   refine Gp ?_
   refine Cg (yU tp T) λw hS=>?_
   refine Cg (ZQ H3 x.cv t.changes T.length hx.cv (by omega)) λw hS=>?_
   rw[nt]
   refine zA (λhb=>?_) (λhb=>?_)
   ·have hb:=of_decide_eq_false hb
    exact hF (vi (by simp only;rw[if_neg λh=>hb h.2])) oV (aR hS)
   have hb:=of_decide_eq_true hb
   have iz:t.changes.all (ki T.length)=true:=List.all_eq_true.2 λc hc=>decide_eq_true ⟨(vm.1 (Cz c hc)).1,by rw[nt];exact hb c hc⟩
   simp only at gw
   rw[if_pos (show t.aI=aI/\∀c∈t.changes,c.table<(k.ts.length:Int) from ⟨by omega,hb⟩)]at gw
   have xr:aI+1=jB k.g.bR+((i+1:Nat):Int):=by omega
   rw[xr]at gw
   refine bW (λve=>?_) (λve=>?_)
   ·rw[if_pos (show k.image<aI by omega)]at gw
    refine Gn λw hS=>?_
    refine Cg (ZK tp T H3 x.cv t.changes hx.cv (by omega) uk (L0+16*i) rW (by omega)) λw hS=>?_
    rw[if_pos iz]at hS
    rw[xr]
    refine⟨⟨i+1,jz T t.changes,H3,rfl,by omega,gw,by rw[tW];exact nt,Dj uk λc hc=>List.all_eq_true.1 iz c hc,λC hC=>?_,oV,SL.b4 (ir.put {k with ts:=jz T t.changes} hS Xp) Xi⟩,by dsimp only;omega⟩
    have:=Aa (L0+16*i) (l:=t.changes) rW (λc hc=>List.all_eq_true.1 iz c hc) C hC
    omega
   ·rw[if_neg (show ¬k.image<aI by omega)]at gw
    refine Gp ?_
    rw[xr]
    exact⟨⟨i+1,T,H3,rfl,by omega,gw,nt,uk,λC hC=>by have:=rW C hC;omega,oV,SL.b4 (ir.put {k with ts:=T} hS Xp) Xi⟩,by dsimp only;omega⟩
 ·have h:¬jB k.g.bR+i<=b9 k.g.bR:=h
  obtain rfl:i=(iK k.g.bR).length:=by omega
  rw[List.drop_length]at gw
  have gw:n3 k.ts.length k.image (iK k.g.bR) (jB k.g.bR) k.ts=some T:=gw
  have hR:k.wx=if k.image<=b9 k.g.bR/\jB k.g.bR<=k.image+1 then some T else none:=by unfold fR.wx;rw[gw]
  have hS:SL W (.pt sp (pU tp dp lp k.kd k.image) 58::.ob (iN tp T)::.ob (iy lp dp k.g)::_) _:=ir.iff.1 hS
  refine Gn λw hS=>?_
  have hS:=ir.put {k with ts:=T} hS Xp
  refine Cg (yp sp tp dp lp {k with ts:=T} hg hN) λw hS=>?_
  have hS:SL W (.pt sp (pU tp dp lp k.kd k.image) 58::.ob (iN tp T)::.ob (iy lp dp k.g)::_) _:=ir.iff.1 hS
  refine bW (λh1=>?_) (λh1=>?_)
  ·have h1:k.image<=b9 k.g.bR:=h1
   refine Gp ?_
   have hS:=ir.put {k with ts:=T} hS Xp
   refine Cg (Yw sp tp dp lp {k with ts:=T} hg hN) λw hS=>?_
   have hS:SL W (.pt sp (pU tp dp lp k.kd k.image) 58::.ob (iN tp T)::.ob (iy lp dp k.g)::_) _:=ir.iff.1 hS
   refine Gp ?_
   have hS:=ir.put {k with ts:=T} hS Xp
   by_cases h2:jB k.g.bR<=k.image+1
   ·rw[decide_eq_true (show jB ({k with ts:=T}:fR).g.bR<=k.image+1 from h2)]
    refine⟨[.ob (ir sp tp dp lp {k with ts:=T}),.mem H2],⟨H2,hh,?_⟩,aR hS⟩
    rw[hR,if_pos ⟨h1,h2⟩]
    exact⟨rfl,rfl⟩
   ·rw[decide_eq_false (show ¬jB ({k with ts:=T}:fR).g.bR<=k.image+1 from h2)]
    exact hF (by rw[hR,if_neg λh=>h2 h.2]) hh (aR hS)
  ·exact hF (by rw[hR,if_neg λh=>h1 h.1]) hh (aR hS)
def Jt(dp:Nat)(H:bw)(y:DS × Except Int fR)(r:Value)(post:List Chunk):Prop:=match y.2 with
 | .error e=>e≠0/\∃H',H.le H'/\r= .tuple #[.pointer none,.int .i64 e]/\post=[.ob (cw dp y.1),.mem H']
 | .ok k=>∃sp tp lp H',H.le H'/\r= .tuple #[dF sp,.int .i64 0]/\post=[.ob (ir sp tp dp lp k),.ob (cw dp y.1),.mem H']
theorem Sr{R:List PF}{n:Nat}{x:rJ}(hx:x.2.2.length=n/\(0<=x.2.1/\x.2.1<=1099511627776)/\∀C∈x.2.2,Bs C)(f:Int):(jE R n f x).2.2.length=n/\(0<=(jE R n f x).2.1/\(jE R n f x).2.1<=1099511627776)/\∀C∈(jE R n f x).2.2,Bs C:=by
 refine⟨HS hx.1,aR2 hx.2.1,?_⟩
 unfold jE
 cases hi:lE R n f with
 | none=>exact hx.2.2
 | some y=>
  simp only
  split
  ·exact hx.2.2
  ·exact (tL.1 (Ei hi).1).2
theorem Sq(R:List PF)(n:Nat):(pz R n).2.2.length=n/\(0<=(pz R n).2.1/\(pz R n).2.1<=1099511627776)/\∀C∈(pz R n).2.2,Bs C:=
 Sr (Sr (x:=(-1,0,List.replicate n [])) ⟨List.length_replicate,⟨show (0:Int)<=0 by decide,show (0:Int)<=1099511627776 by decide⟩,λC hC=>by rw[(List.mem_replicate.1 hC).2];exact⟨List.Pairwise.nil,by simp,by decide⟩⟩ 0) 1
theorem bRk(H:bw)(dp:Nat)(d:DS)(lH size:Int){N B:Nat}(b5:d.Ok B)(hB:B<=140737488355328)(hw:sr d.R 16 N)(hN:N<=900000000)(iO:d.ops<=90000)(hn:∀d' g,kE d 16 size=(d',.ok g)->(iK g.bR).length<=50000):
  SP 12 [dF dp,.int .i64 lH,.int .i64 size] [.ob (cw dp d),.mem H] (Jt dp H (r_ d lH size)):=by
 intro W F w hS;apply b3j;delta JU aF c_ ai eI;(try simp only[app]at hS)
 have hR:=b5.A_
 refine Cc (bWk lH) ?_;clear hS
 rintro r post hq w hS
 unfold Bo at hq
 by_cases ht:lH<1\/8<lH
 ·rw[if_pos ht]at hq
  obtain⟨rfl,rfl⟩:=hq
  have e:r_ d lH size=(d,.error 1):=by unfold r_;rw[if_pos ht]
  rw[e]
  (try simp only[app]at hS);refine Gp ?_
  refine za (λ_=>?_) (λh=>absurd (by decide) h)
  exact⟨_,⟨by decide,H,bw.le_refl H,rfl,rfl⟩,aR hS⟩
 rw[if_neg ht]at hq
 obtain⟨tp,rfl,rfl⟩:=hq
 obtain⟨n,rfl⟩:∃n:Nat,lH=n:=⟨lH.toNat,by omega⟩
 rw[Int.toNat_natCast]at hS
 (try simp only[app]at hS);refine Gp ?_
 refine za (λh=>absurd rfl h) (λ_=>?_)
 refine Cc (a7s dp d 16 size b5 hB hw (by omega) (by omega) (by omega)) ?_;clear hS
 rintro r post hq w hS
 unfold r_
 rw[if_neg ht]
 unfold Fl at hq
 have B3:=Tb (base:=16) (size:=size) b5
 cases xz:kE d 16 size with
 | mk d' o=>
  rw[xz]at hq B3
  cases o with
  | error e=>
   obtain⟨he,rfl,rfl⟩:=hq
   (try simp only[app]at hS);refine Gp ?_
   refine za (λ_=>?_) (λh=>absurd he h)
   exact⟨_,⟨he,H,bw.le_refl H,rfl,rfl⟩,aR hS⟩
  | ok g=>
   obtain⟨lp,rfl,rfl⟩:=hq
   have hG:=Ta hw (by omega) xz
   have ain:=hn d' g xz
   obtain⟨x1,x2,x3⟩:=Sq d'.R n
   (try simp only[app]at hS);refine Gp ?_
   refine za (λh=>absurd rfl h) (λ_=>?_)
   refine Gp ?_
   refine zK hS λsp w hS=>?_
   refine Cc (Q4 sp tp dp lp d' H (-1,0,List.replicate n []) n List.length_replicate (by omega) B3 hB) ?_;clear hS
   rintro _ post ⟨H2,kF,rfl⟩ w hS
   try simp only[app]at hS
   have D2:jE d'.R n 1 (jE d'.R n 0 (-1,0,List.replicate n []))=pz d'.R n:=rfl
   rw[D2]at hS
   simp only[Int.toNat_natCast]
   generalize pz d'.R n=x at *
   obtain⟨nw,im,ts⟩:=x
   simp only at x1 x2 x3 hS ⊢
   have hS:=ir.oD (d:=d') hS Xp
   refine Cc (bFe sp tp dp lp H2 ⟨g,d',ts,nw,im⟩ hG (by omega) (λC hC=>(x3 C hC).sorted) (L0:=1000) (λC hC=>(x3 C hC).len) (by show 1000+16*(iK g.bR).length<=900000;omega) x2) ?_;clear hS
   rintro r post ⟨H3,kz,hq⟩ w hS
   have oV:=bw.le_trans kF kz
   have hK:fR.wx ⟨g,d',ts,nw,im⟩=match n3 n im (iK g.bR) (jB g.bR) ts with
    | none=>none
    | some ts=>if im<=b9 g.bR/\jB g.bR<=im+1 then some ts else none:=by rw[<- x1];rfl
   rw[hK]at hq
   clear hK
   cases hr:n3 n im (iK g.bR) (jB g.bR) ts with
   | none=>
    rw[hr]at hq
    obtain⟨rfl,rfl⟩:=hq
    try simp only[app]at hS
    refine zP (zw ?_)
    exact⟨_,⟨by decide,H3,oV,rfl,rfl⟩,aR hS⟩
   | some ts2=>
    rw[hr]at hq
    simp only at hq
    by_cases hc:im<=b9 g.bR/\jB g.bR<=im+1
    ·rw[if_pos hc]at hq
     obtain⟨rfl,rfl⟩:=hq
     try simp only[app]at hS
     refine zP (zq ?_)
     simp only
     rw[if_pos hc]
     exact⟨_,⟨sp,tp,lp,H3,oV,rfl,rfl⟩,aR hS⟩
    ·rw[if_neg hc]at hq
     obtain⟨rfl,rfl⟩:=hq
     try simp only[app]at hS
     refine zP (zw ?_)
     simp only
     rw[if_neg hc]
     exact⟨_,⟨by decide,H3,oV,rfl,rfl⟩,aR hS⟩
theorem Qq(H:bw)(dp:Nat)(d:DS)(lH size:Int){N:Nat}(b5:d.Ok N)(hN:N<=900000000)(iO:d.ops<=90000)(hn:∀d' g,kE d 16 size=(d',.ok g)->(iK g.bR).length<=50000):
  SP 12 [dF dp,.int .i64 lH,.int .i64 size] [.ob (cw dp d),.mem H] (Jt dp H (r_ d lH size)):=
 bRk H dp d lH size b5 (by omega) (sr.all b5.len 16) hN iO hn
end Go.Proofs.YtfenmffiidchcaaGreat
