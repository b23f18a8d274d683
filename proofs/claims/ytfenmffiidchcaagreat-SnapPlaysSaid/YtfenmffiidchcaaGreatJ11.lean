/-
  Texts of the proof, joined: StrS, SigS, RqR, RqS, Cfg, MuxS, MuxS2, DrrS, SrcS5, SnpS, WinR, WinR2, SigR, MuxR, TxnR, ImgR, RefD, RefD2.
-/
import Derived.Test.YtfenmffiidchcaaGreatJ10
import Derived.Lib.ConvBytes
import Derived.Laws.AppendOwn
import Derived.Test.YtfenmffiidchcaaGreatQVcW
import Derived.Test.YtfenmffiidchcaaGreatQVcY
import Derived.Test.YtfenmffiidchcaaGreatQVcF
namespace Go.Proofs.YtfenmffiidchcaaGreat
set_option linter.unusedVariables false
open Go.RowKit
section
variable {W w:World} {l:List Chunk} {P:Program}
end
set_option maxRecDepth 100000
theorem Pc(s:ByteArray):s=jz s.data.toList:=by cases s;simp[jz]
theorem Gf(l:List UInt8):(jz l).data.toList=l:=by simp[jz]
theorem qk{l:List UInt8}{k:Nat}{kk:IntKind}{K:Value->Prop}(hk:k<=l.length)(h:K (.string (jz (l.take k)))):Zi (.string (jz l)) none (some (.int kk (k:Int))) K:=by
 refine⟨jz l,0,k,rfl,⟨kk,rfl⟩,rfl,Nat.zero_le _,by rw[oz];exact hk,?_⟩
 have:(jz l).extract 0 k=jz (l.take k):=by apply ByteArray.ext;simp[jz,ByteArray.data_extract]
 rw[this];exact h
theorem UN{l:List UInt8}{k:Nat}{kk:IntKind}{K:Value->Prop}(hk:k<=l.length)(h:K (.string (jz (l.drop k)))):Zi (.string (jz l)) (some (.int kk (k:Int))) none K:=by
 refine⟨jz l,k,(jz l).size,rfl,rfl,⟨kk,rfl⟩,by rw[oz];exact hk,Nat.le_refl _,?_⟩
 have:(jz l).extract k (jz l).size=jz (l.drop k):=by
  apply ByteArray.ext
  rw[oz]
  simp[jz,ByteArray.data_extract]
  rw[List.take_of_length_le (by rw[List.length_drop];omega)]
 rw[this];exact h
theorem yP{P:Program}{w:World}{t:TypeId}{l:List UInt8}{j:Nat}{k:IntKind}{K:Value->Prop}(ht:P.underlying t=some .string)(hj:j<l.length)(h:K (.int .u8 (l[j]).toNat)):jZ P (Instr.index t (.string (jz l)) (.int k (j:Int))) w K:=by
 have e:(jz l)[j]'(by rw[oz];exact hj)=l[j]:=by simp[jz,ByteArray.getElem_eq_getElem_data]
 exact UO ht (by rw[oz];exact hj) (by rw[e];exact h)
theorem Z5(l p:List UInt8):SP 369 [.string (jz l),.string (jz p)] [] (eW (.bool (decide (l.take p.length=p))) []):=by
 intro W F w hS;apply dI7;delta NH aF cw;(try simp only[app]at hS)
 refine Gp ?_
 rw[oz,oz]
 refine za (λh=>?_) (λh=>?_)
 ·refine Gp ?_
  rw[oz]
  refine qk (by omega) ?_
  refine Gp ?_
  rw[show decide (jz (l.take p.length)=jz p)=decide (l.take p.length=p) by rw[decide_eq_decide];exact DP]
  (exact fw hS)
 ·rw[decide_eq_false λe=>by
   have:=congrArg List.length e
   rw[List.length_take]at this
   omega]
  (exact fw hS)
theorem ZW(l p:List UInt8):SP 354 [.string (jz l),.string (jz p)] [] (eW (.tuple #[.string (jz (if l.take p.length=p then l.drop p.length else l)),.bool (decide (l.take p.length=p))]) []):=by
 intro W F w hS;apply dI2;delta NC dW;(try simp only[app]at hS)
 refine Cg (Z5 l p) λw hS=>?_
 refine zz (λh=>?_) (λh=>?_)
 ·have h:=of_decide_eq_false h
  rw[if_neg h,decide_eq_false h]
  (exact fw hS)
 ·have h:=of_decide_eq_true h
  rw[if_pos h,decide_eq_true h]
  refine Gp ?_
  rw[oz]
  refine UN ?_ ?_
  ·have:=congrArg List.length h
   rw[List.length_take]at this
   omega
  ·(exact fw hS)
theorem Z3(l p:List UInt8):SP 307 [.string (jz l),.string (jz p)] [] (eW (.tuple #[.string (jz (if l.take p.length=p then l.drop p.length else l)),.bool (decide (l.take p.length=p))]) []):=by
 intro W F w hS;apply dF8;unfold Nd;(try simp only[app]at hS)
 refine Cg (ZW l p) λw hS=>?_
 (exact fw hS)
theorem ail(l:List UInt8)(c:UInt8):firstIdx (jz l) c=nj (l.findIdx? λx=>decide (x=c)):=by
 have kM:∀i,i<l.length->(jz l)[i]! = l[i]!:=λi hi=>by
  have h2:i<(jz l).size:=by rw[oz];exact hi
  rw[getElem!_pos (jz l) i h2,getElem!_pos l i hi]
  simp[jz,ByteArray.getElem_eq_getElem_data]
 unfold firstIdx
 rw[oz]
 cases hf:l.findIdx? (λx=>decide (x=c)) with
 | none=>
  have h1:=List.findIdx?_eq_none_iff.1 hf
  have:(List.range l.length).find? (λi=>(jz l)[i]! == c)=none:=by
   rw[List.find?_range_eq_none]
   intro i hi
   rw[kM i hi,getElem!_pos l i hi]
   have:=of_decide_eq_false (h1 _ (List.getElem_mem hi))
   simpa using this
  rw[this];rfl
 | some j=>
  obtain⟨hj,hk,wI⟩:=List.findIdx?_eq_some_iff_getElem.1 hf
  have:(List.range l.length).find? (λi=>(jz l)[i]! == c)=some j:=by
   rw[List.find?_range_eq_some]
   refine⟨?_,List.mem_range.2 hj,λi hi=>?_⟩
   ·rw[kM j hj,getElem!_pos l j hj];simpa using hk
   ·rw[kM i (by omega),getElem!_pos l i (by omega)]
    have:=wI i hi
    simpa using this
  rw[this];rfl
theorem Z6(l:List UInt8)(c:UInt8):SP 375 [.string (jz l),.int .u8 c.toNat] [] (eW (.int .i64 (nj (l.findIdx? λx=>decide (x=c)))) []):=by
 intro W F w hS;apply dRa;unfold NK;(try simp only[app]at hS)
 refine⟨.int .i64 (nj (l.findIdx? λx=>decide (x=c))),w,?_,?_⟩
 ·have:=run_callFunc_extern Tryz.func379 (by kernel_rfl) (by kernel_rfl) (by kernel_rfl) (e:=Extern.BytealgIndexByte.indexByte) (by kernel_rfl) #[.string (jz l),.int .u8 c.toNat] w
  rw[this,run_indexByte_string,ail,show ((c.toNat:Int).toNat.toUInt8)=c by simp]
  rfl
 ·(exact fw hS)
theorem qz(l:List UInt8)(c:UInt8):SP 370 [.string (jz l),.string (jz [c])] [] (eW (.int .i64 (nj (l.findIdx? λx=>decide (x=c)))) []):=by
 intro W F w hS;apply dI8;delta NI aF ai;(try simp only[app]at hS)
 refine Gp ?_
 refine⟨λ_ _=>False,?_,λw h=>h.elim⟩
 rw[oz]
 refine Gp ?_
 refine za (λh=>absurd h (by simp)) (λ_=>?_)
 refine b9 (λh=>?_) (λ_=>?_)
 ·have h:=DP.1 h
  rw[<- h]
  exact⟨_,⟨by simp[nj],rfl⟩,hS⟩
 ·refine Gp ?_
  refine za (λ_=>?_) (λh=>absurd (by simp) h)
  refine yP (j:=0) Tryz.underlying9 (by simp) ?_
  refine Cg (Z6 l c) λw hS=>?_
  (exact fw hS)
def oB(l:List UInt8)(c:UInt8):List UInt8 × List UInt8 × Bool:=match l.findIdx? (λx=>decide (x=c)) with
 | none=>(l,[],false)
 | some i=>(l.take i,l.drop (i+1),true)
theorem Xf(l:List UInt8)(c:UInt8)(hl:l.length<=4611686018427387904):SP 355 [.string (jz l),.string (jz [c])] [] (eW (.tuple #[.string (jz (oB l c).1),.string (jz (oB l c).2.1),.bool (oB l c).2.2]) []):=by
 intro W F w hS;apply dI3;delta ND aF ai;(try simp only[app]at hS)
 refine Cg (qz l c) λw hS=>?_
 unfold oB
 cases hf:l.findIdx? (λx=>decide (x=c)) with
 | none=>
  simp only[nj]
  refine za (λh=>absurd h (by decide)) (λ_=>?_)
  exact⟨_,⟨rfl,rfl⟩,hS⟩
 | some i=>
  have hi:=(List.findIdx?_eq_some_iff_getElem.1 hf).1
  simp only[nj]
  refine za (λ_=>?_) (λh=>by omega)
  refine Gn λw hS=>?_
  refine qk (by omega) ?_
  refine Gp ?_
  rw[oz]
  have e:([c]:List UInt8).length=1:=rfl
  rw[e]
  refine Gp ?_
  refine UN (by omega) ?_
  exact⟨_,⟨rfl,rfl⟩,hS⟩
theorem Xe(l:List UInt8)(c:UInt8)(hl:l.length<=4611686018427387904):SP 308 [.string (jz l),.string (jz [c])] [] (eW (.tuple #[.string (jz (oB l c).1),.string (jz (oB l c).2.1),.bool (oB l c).2.2]) []):=by
 intro W F w hS;apply dF9;unfold Nf;(try simp only[app]at hS)
 refine Cg (Xf l c hl) λw hS=>?_
 (exact fw hS)
def pK(l:List UInt8)(a b:Nat):Int:=match l with
 | [d]=>if a<=d.toNat/\d.toNat<=b then (d.toNat:Int)-48 else -1
 | _=>-1
theorem cFg:∀n:Fin 256,48<=n.1->IntKind.i64.wrap (IntKind.u8.wrap ((n.1:Int)-48))=(n.1:Int)-48:=by decide
theorem Z0{d:UInt8}{K:Value->Prop}(hd:48<=d.toNat)(h:K (.int .i64 ((d.toNat:Int)-48))):zc .sub (.int .u8 d.toNat) (.int .u8 48) λv=>zG .i64 v K:=by
 refine⟨_,rfl,_,_,rfl,?_⟩
 rw[cFg ⟨d.toNat,d.toNat_lt⟩ hd];exact h
theorem Z4(l:List UInt8)(a b:Nat)(ha:48<=a):SP 309 [.string (jz l),.int .u8 a,.int .u8 b] [] (eW (.int .i64 (pK l a b)) []):=by
 intro W F w hS;apply dIa;delta Ng aF ai;(try simp only[app]at hS)
 refine Gp ?_
 rw[oz]
 refine za (λh=>?_) (λh=>?_)
 ·have e:pK l a b = -1:=by
   unfold pK
   split
   ·simp at h
   ·rfl
  rw[e];(exact fw hS)
 ·obtain⟨d,rfl⟩:∃d,l=[d]:=List.length_eq_one_iff.1 (by omega)
  refine yP (j:=0) Tryz.underlying9 (by simp) ?_
  show zc .lss (.int .u8 d.toNat) (.int .u8 a) _
  refine b9 (λh1=>?_) (λh1=>?_)
  ·rw[show pK [d] a b = -1 from if_neg (by omega)]
   (exact fw hS)
  refine yP (j:=0) Tryz.underlying9 (by simp) ?_
  show zc .gtr (.int .u8 d.toNat) (.int .u8 b) _
  refine b9 (λh2=>?_) (λh2=>?_)
  ·rw[show pK [d] a b = -1 from if_neg (by omega)]
   (exact fw hS)
  refine yP (j:=0) Tryz.underlying9 (by simp) ?_
  refine Z0 (d:=d) (by omega) ?_
  rw[show pK [d] a b=(d.toNat:Int)-48 from if_pos (by omega)]
  (exact fw hS)
theorem PL{l:List UInt8}{a b:Nat}(h:l.length≠1):pK l a b = -1:=by
 unfold pK
 split
 ·simp at h
 ·rfl
theorem GB{d:UInt8}{a b:Nat}(h:48<=a):pK [d] a b<0↔¬(a<=d.toNat/\d.toNat<=b):=by
 show (if a<=d.toNat/\d.toNat<=b then (d.toNat:Int)-48 else -1)<0↔_
 split<;>omega
def Bg(r:List UInt8):Option (Int × Int):=
 let c:=oB r 32
 if pK c.1 48 55<0\/(if c.2.2=true then pK c.2.1 49 56 else 1)<0 then none else some (pK c.1 48 55,if c.2.2=true then pK c.2.1 49 56 else 1)
theorem DZ{d:UInt8}{a b:Nat}(h:a<=d.toNat/\d.toNat<=b):pK [d] a b=(d.toNat:Int)-48:=if_pos h
theorem Vl{d:UInt8}:d.toNat=32↔d=32:=⟨λh=>UInt8.toNat_inj.1 h,λh=>by rw[h];rfl⟩
theorem Dd{r:List UInt8}(h:(oB r 32).1.length≠1\/((oB r 32).2.2=true/\(oB r 32).2.1.length≠1)):Bg r=none:=by
 unfold Bg
 simp only
 rw[if_pos]
 rcases h with h|⟨h,h2⟩
 ·left;rw[PL h];decide
 ·right;rw[if_pos h,PL h2];decide
theorem uB(d:UInt8)(r:List UInt8):oB (d::r) 32=if d=32 then ([],r,true) else (d::(oB r 32).1,(oB r 32).2.1,(oB r 32).2.2):=by
 unfold oB
 rw[List.findIdx?_cons]
 by_cases hd:d=32
 ·simp[hd]
 ·rw[if_neg (by simpa using hd),if_neg hd]
  cases r.findIdx? (λx=>decide (x=32))<;>simp
theorem bWy(r:List UInt8):r6 r=Bg r:=by
 match r with
 | []=>rw[Dd (.inl (by decide))];rfl
 | [d]=>
  by_cases hd:d=32
  ·subst hd;decide
  ·have hc:oB [d] 32=([d],[],false):=by rw[uB,if_neg hd];rfl
   unfold Bg r6
   rw[hc]
   simp only
   have:=GB (d:=d) (a:=48) (b:=55) (by decide)
   by_cases h:48<=d.toNat/\d.toNat<=55
   ·rw[if_pos h,if_neg (λx=>x.elim (λh2=>by rw[DZ h]at h2;omega) (λh2=>absurd h2 (by decide))),DZ h];rfl
   ·rw[if_neg h,if_pos (.inl (this.2 h))]
 | [d,s]=>
  have e:r6 [d,s]=none:=rfl
  rw[e,Dd]
  rw[uB]
  by_cases hd:d=32
  ·rw[if_pos hd];left;simp
  ·rw[if_neg hd,uB]
   by_cases hs:s=32
   ·rw[if_pos hs];right;exact⟨rfl,by simp⟩
   ·rw[if_neg hs];left;simp
 | [d,s,e]=>
  by_cases hd:d=32
  ·have e1:r6 [d,s,e]=none:=if_neg (by rw[hd];simp)
   rw[e1,Dd]
   rw[uB,if_pos hd];left;simp
  ·by_cases hs:s=32
   ·have hc:oB [d,s,e] 32=([d],[e],true):=by rw[uB,if_neg hd,uB,if_pos hs]
    unfold Bg r6
    rw[hc]
    simp only[if_true]
    have h1:=GB (d:=d) (a:=48) (b:=55) (by decide)
    have h2:=GB (d:=e) (a:=49) (b:=56) (by decide)
    by_cases h:(48<=d.toNat/\d.toNat<=55)/\49<=e.toNat/\e.toNat<=56
    ·rw[if_pos ⟨h.1,Vl.2 hs,h.2⟩,if_neg (by omega),DZ h.1,DZ h.2]
    ·rw[if_neg (λx=>h ⟨x.1,x.2.2⟩),if_pos (by omega)]
   ·have e1:r6 [d,s,e]=none:=if_neg (λx=>hs (Vl.1 x.2.1))
    rw[e1,Dd]
    rw[uB,if_neg hd,uB,if_neg hs];left;simp
 | d::s::e::f::t=>
  have e1:r6 (d::s::e::f::t)=none:=rfl
  rw[e1,Dd]
  rw[uB]
  by_cases hd:d=32
  ·rw[if_pos hd];left;simp
  ·rw[if_neg hd,uB]
   by_cases hs:s=32
   ·rw[if_pos hs];right;exact⟨rfl,by simp⟩
   ·rw[if_neg hs];left;simp
def FB(o:Option (Int × Int)):Value:=.tuple #[agg [.int .i64 (o.getD (0,0)).1,.int .i64 (o.getD (0,0)).2],.bool o.isSome]
theorem QF(s:ByteArray)(hs:s.size<=4611686018427387904):SP 257 [.string s] [] (eW (FB (uX s)) []):=by
 intro W F w hS;apply dww;delta Mq aF a_ dW ai;(try simp only[app]at hS)
 rw[Pc s]at hs ⊢
 generalize hl:s.data.toList=l at *
 rw[oz]at hs
 unfold uX
 rw[Gf]
 refine Gb λrb w hS=>?_
 refine Cg (Z3 l mS) λw hS=>?_
 by_cases hp:l.take mS.length=mS
 ·rw[if_pos hp,decide_eq_true hp,show l.take 9=mS from hp,if_pos rfl]
  refine zt ?_
  refine Cg (Xe (l.drop mS.length) 32 (by rw[List.length_drop];omega)) λw hS=>?_
  rw[bWy,show l.drop 9=l.drop mS.length from rfl]
  generalize l.drop mS.length=r at *
  unfold Bg
  generalize oB r 32=c at *
  obtain⟨A,B,q⟩:=c
  simp only at hS ⊢
  refine Cc (Z4 A 48 55 (by decide)) ?_;clear hS
  rintro _ post ⟨rfl,rfl⟩ w hS
  try simp only[app]at hS
  refine Gm λnb w hS=>?_
  refine⟨λus w=>us=[]/\SL W (.pt nb [.int .i64 (pK A 48 55),.int .i64 (if q=true then pK B 49 56 else 1)] 351::.pt rb [.int .i64 0,.int .i64 0] 351::F) w,?_,?_⟩
  ·refine yO (λhq=>?_) (λhq=>?_)
   ·rw[if_pos hq]
    refine Cg (Z4 B 49 56 (by decide)) λw hS=>?_
    (first|exact aR hS|exact⟨rfl,aR hS⟩)
   ·rw[if_neg (by simp[hq])]
    exact⟨rfl,aR hS⟩
  clear hS
  rintro w ⟨-,hS⟩
  refine b9 (λh=>?_) (λh=>?_)
  ·rw[if_pos (.inl h)]
   refine Gn λw hS=>?_
   exact fw hS
  refine b9 (λh2=>?_) (λh2=>?_)
  ·rw[if_pos (.inr h2)]
   refine Gn λw hS=>?_
   exact fw hS
  rw[if_neg (by omega)]
  refine Gn λw hS=>?_
  exact fw hS
 ·rw[decide_eq_false hp,if_neg (show ¬l.take 9=mS from hp)]
  refine zw ?_
  refine Gn λw hS=>?_
  exact fw hS
theorem yC(H:bw)(v:Value)(L:List Rq)(hv:mh H v L)(hn:L.length<=140737488351232):
  SP 195 [v] [.mem H] (λu post=>∃q:Bool,u= .bool q/\(q=true↔kW L)/\post=[.mem H]):=by
 intro W F w hS;apply cW8;delta Lo aF a_ dW cw ai;(try simp only[app]at hS)
 have iT:∀{w:World} {l:List Chunk},¬kW L->SL W (.mem H::F) w->∃post,(∃q:Bool,(.bool false:Value)= .bool q/\(q=true↔kW L)/\post=[.mem H])/\SL W (app post F) w:=λh hS=>
  ⟨_,⟨false,rfl,⟨λe=>(by cases e),λe=>absurd e h⟩,rfl⟩,hS⟩
 refine zn hv ?_
 refine Gp ?_
 refine za (λh=>iT (l:=[]) (λhp=>by have:=hp.1;omega) hS) (λh64=>?_)
 refine⟨λus w=>∃i:Nat,us=[.int .i64 i]/\i<=L.length/\(∀j,j<i->wa L j)/\SL W (.mem H::F) w,
  λus _=>match us with|[.int _ i]=>(L.length-i).toNat|_=>0,⟨0,rfl,by omega,λj h=>by omega,aR hS⟩,?_⟩
 clear hS
 rintro v3 w ⟨i,dR,hi,iD,hS⟩
 cases dR
 refine zn hv ?_
 refine b9 (λh=>?_) (λh=>?_)
 ·have b8:i<L.length:=by omega
  have gi:∀{w:World},¬wa L i->SL W (.mem H::F) w->∃post,(∃q:Bool,(.bool false:Value)= .bool q/\(q=true↔kW L)/\post=[.mem H])/\SL W (app post F) w:=λh hS=>iT (l:=[]) (λhp=>h (hp.2 i)) hS
  have mn:ui i L[i]->(∀h0:0<i,L[i-1].at_<=L[i].at_)->(∀k (hk:k<i),¬(L[k].table=L[i].table/\L[k].done=false))->wa L i:=λh1 h2 h3 _=>⟨h1,h2,h3⟩
  have nh:wa L i->ui i L[i]/\(∀h0:0<i,L[i-1].at_<=L[i].at_)/\∀k (hk:k<i),¬(L[k].table=L[i].table/\L[k].done=false):=λh=>h b8
  refine zK hS Xh kU hv (x:=L[i]) (by simp[b8]) b8 ?_
  refine zI hS ?_
  clear hS;intro b w hS
  refine zB (vs:=ka L[i]) hS .hd rfl rfl (uE _) ?_
  clear hS;intro w hS
  have hLi:L[i]?=some L[i]:=List.getElem?_eq_getElem b8
  generalize hr:L[i]=r at *
  obtain⟨uZ,rt,rr,rat,wS,sO,rd⟩:=r
  unfold ka at hS
  simp only at hS
  unfold ui at mn nh
  simp only at mn nh
  refine⟨λus w=>us=[]/\uZ=(i:Int)+1/\0<=rt/\rt<8/\1<=rr/\rr<=8/\1<=rat/\rat<=1099511627776/\(∀h0:0<i,L[i-1].at_<=rat)/\SL W (.pt b [.int .i64 uZ,.int .i64 rt,.int .i64 rr,.int .i64 rat,.int .i64 wS,.int .i64 sO,.bool rd] 125::.mem H::F) w,?_,?_⟩
  ·refine Gn λw hS=>?_
   refine za (λc1=>gi (λhp=>by have:=(nh hp).1.1;omega) (aR hS)) (λc1=>?_)
   refine Gp ?_
   refine za (λc2=>gi (λhp=>by have:=(nh hp).1.2.1;omega) (aR hS)) (λc2=>?_)
   refine Gp ?_
   refine za (λc3=>gi (λhp=>by have:=(nh hp).1.2.2.1;omega) (aR hS)) (λc3=>?_)
   refine Gp ?_
   refine za (λc4=>gi (λhp=>by have:=(nh hp).1.2.2.2.1;omega) (aR hS)) (λc4=>?_)
   refine Gp ?_
   refine za (λc5=>gi (λhp=>by have:=(nh hp).1.2.2.2.2.1;omega) (aR hS)) (λc5=>?_)
   refine Gp ?_
   refine za (λc6=>gi (λhp=>by have:=(nh hp).1.2.2.2.2.2.1;omega) (aR hS)) (λc6=>?_)
   refine Gp ?_
   refine za (λc7=>gi (λhp=>by have:=(nh hp).1.2.2.2.2.2.2.1;omega) (aR hS)) (λc7=>?_)
   refine b9 (λc8=>?_) (λc8=>?_)
   ·have Hk:i-1<L.length:=by omega
    have e1:(i:Int)-1=((i-1:Nat):Int):=by omega
    refine Gp ?_
    rw[e1]
    refine zA hS Xh kU hv (x:=L[i-1]) (by simp[Hk]) Hk (i:=3) rfl ?_
    refine Gp ?_
    refine za (λc9=>gi (λhp=>by have:=(nh hp).2.1 (by omega);omega) (aR hS)) (λc9=>?_)
    exact⟨rfl,by omega,by omega,by omega,by omega,by omega,by omega,by omega,λ_=>by omega,aR hS⟩
   ·exact⟨rfl,by omega,by omega,by omega,by omega,by omega,by omega,by omega,λh=>by omega,aR hS⟩
  ·clear hS
   rintro w ⟨-,c1,c2,c3,c4,c5,c6,c7,c8,hS⟩
   refine Gp ?_
   refine za (λd=>gi (λhp=>by have:=(nh hp).1;omega) (aR hS)) (λd1=>?_)
   refine Gp ?_
   refine za (λd=>gi (λhp=>by have:=(nh hp).1;omega) (aR hS)) (λd2=>?_)
   refine Gp ?_
   refine za (λd=>gi (λhp=>by have:=(nh hp).1;omega) (aR hS)) (λd3=>?_)
   refine Gp ?_
   refine za (λd=>gi (λhp=>by have:=(nh hp).1;omega) (aR hS)) (λd4=>?_)
   refine⟨λus w=>∃k:Nat,us=[.int .i64 k]/\k<=i/\(∀j (hj:j<k) (hl:j<L.length),¬(L[j].table=rt/\L[j].done=false))/\SL W (.pt b [.int .i64 uZ,.int .i64 rt,.int .i64 rr,.int .i64 rat,.int .i64 wS,.int .i64 sO,.bool rd] 125::.mem H::F) w,
    λus _=>match us with|[.int _ k]=>(i-k).toNat|_=>0,⟨0,rfl,by omega,λj h=>by omega,hS⟩,?_⟩
   clear hS
   rintro v5 w ⟨k,dR,hk,wH,hS⟩
   cases dR
   refine b9 (λCz=>?_) (λCz=>?_)
   ·have rT:k<i:=by omega
    have ml:k<L.length:=by omega
    refine Gn λw hS=>?_
    refine zA hS Xh kU hv (x:=L[k]) (by simp[ml]) ml (i:=1) rfl ?_
    refine b9 (λht=>?_) (λht=>?_)
    ·refine zA hS Xh kU hv (x:=L[k]) (by simp[ml]) ml (i:=6) rfl ?_
     refine Gp ?_
     refine zz (λhd=>?_) (λhd=>?_)
     ·exact gi (λhp=>(nh hp).2.2 k rT ⟨ht,hd⟩) (aR hS)
     ·refine Gp ?_
      refine⟨⟨k+1,by simp,by omega,λj h1 h2=>?_,hS⟩,by dsimp only;omega⟩
      by_cases e:j=k
      ·subst e;rintro ⟨_,h3⟩;rw[hd]at h3;cases h3
      ·exact wH j (by omega) h2
    ·refine Gp ?_
     refine⟨⟨k+1,by simp,by omega,λj h1 h2=>?_,hS⟩,by dsimp only;omega⟩
     by_cases e:j=k
     ·subst e;rintro ⟨h3,_⟩;exact ht h3
     ·exact wH j (by omega) h2
   ·have Cz:k=i:=by omega
    subst Cz
    refine Gp ?_
    refine⟨⟨k+1,by simp,by omega,λj h1=>?_,aR hS⟩,by dsimp only;omega⟩
    by_cases e:j=k
    ·subst e;exact mn ⟨c1,c2,c3,c4,c5,c6,c7,by omega,by omega,by omega,by omega⟩ c8 λk' Cy=>wH k' Cy (by omega)
    ·exact iD j (by omega)
 ·have nf:i=L.length:=by omega
  subst nf
  refine⟨_,⟨true,rfl,⟨λ_=>⟨by omega,λj hj=>?_⟩,λ_=>rfl⟩,rfl⟩,aR hS⟩
  exact iD j hj hj
def An(H:bw)(u:Value)(post:List Chunk)(o:Option (List Rq)):Prop:=∃H',H.le H'/\post=[.mem H']/\match o with
 | none=>u= .tuple #[.slice none 0 0,.bool false]
 | some L'=>∃x,u= .tuple #[x,.bool true]/\mh H' x L'
theorem Y6(H:bw)(v:Value)(L:List Rq)(table weight at_:Int)(hv:mh H v L)(hn:L.length<=1000):
  SP 316 [v,.int .i64 table,.int .i64 weight,.int .i64 at_] [.mem H] (λu post=>An H u post (sn L table weight at_)):=by
 intro W F w hS;apply dIi;delta Nl dW ai bR;(try simp only[app]at hS)
 refine Gm λb w hS=>?_
 have hS:=bI.full (n:=0) (sz:=7) rfl hS
 refine zy (n:=0) (m:=L.length) hS .hd (o_ hS Xh hv) (l8 kU L) rfl (I2 L) (by omega) (by omega) ?_
 clear hS;intro v1 w hS
 rw[Nat.zero_add,List.nil_append]at hS
 refine zn hv ?_
 refine Gm λb w hS=>?_
 refine zy (n:=L.length) (m:=1) (cells:=(L.map ka).flatten) hS Xr (lX (cs:=ka ⟨((L.length+1:Nat):Int),table,weight,at_,0,0,false⟩) hS .hd rfl) rfl rfl (uE _) (by omega) (by omega) ?_
 clear hS;intro v2 w hS
 rw[<- D9]at hS
 obtain⟨H1,fF,l9,hS⟩:=zu (H:=H) (v:=v2) (n:=L.length+1) (sz:=7) (t:=125) (cells:=((L++[(⟨((L.length+1:Nat):Int),table,weight,at_,0,0,false⟩:Rq)]).map ka).flatten) hS Xp
 have hlen:(L++[(⟨((L.length+1:Nat):Int),table,weight,at_,0,0,false⟩:Rq)]).length=L.length+1:=by simp
 have l9:mh H1 v2 (L++[(⟨((L.length+1:Nat):Int),table,weight,at_,0,0,false⟩:Rq)]):=by unfold mh;rw[hlen];exact l9
 have hN:Fl L table weight at_=⟨((L.length+1:Nat):Int),table,weight,at_,0,0,false⟩:=rfl
 unfold sn
 rw[hN]
 generalize G6:L++[(⟨((L.length+1:Nat):Int),table,weight,at_,0,0,false⟩:Rq)]=L2 at l9 hlen ⊢
 refine Cc (yC H1 v L (hv.mono fF) (by omega)) ?_;clear hS
 rintro _ post ⟨q1,rfl,pQ,rfl⟩ w hS
 (try simp only[app]at hS);refine Gp ?_
 refine zz (λhe=>?_) (λhe=>?_)
 ·rw[if_neg λh=>by rw[pQ.2 h.1]at he;cases he]
  exact⟨_,⟨H1,fF,rfl,rfl⟩,aR hS⟩
 ·refine Cc (yC H1 v2 L2 l9 (by omega)) ?_;clear hS
  rintro _ post ⟨q2,rfl,nL,rfl⟩ w hS
  (try simp only[app]at hS);refine Gp ?_
  refine zz (λvz=>?_) (λvz=>?_)
  ·rw[if_neg λh=>by rw[nL.2 h.2]at vz;cases vz]
   exact⟨_,⟨H1,fF,rfl,rfl⟩,aR hS⟩
  ·rw[if_pos ⟨pQ.1 he,nL.1 vz⟩]
   exact⟨_,⟨H1,fF,rfl,v2,rfl,l9⟩,aR hS⟩
theorem qK(H:bw)(v:Value)(L:List Rq)(id iJ:Int)(dn:Bool)(hv:mh H v L)(hn:L.length<=1000)(hid : -9223372036854775808<=id/\id<=9223372036854775807):
  SP 275 [v,.int .i64 id,.int .i64 iJ,.bool dn] [.mem H] (λu post=>An H u post (oA L id iJ dn)):=by
 intro W F w hS;apply dFf;delta MJ aF a_ dW ai bR;(try simp only[app]at hS)
 have iT:∀{w:World},oA L id iJ dn=none->SL W (.mem H::F) w->∃post,An H (.tuple #[.slice none 0 0,.bool false]) post (oA L id iJ dn)/\SL W (app post F) w:=λe hS=>⟨_,⟨H,bw.le_refl H,rfl,by rw[e]⟩,hS⟩
 refine Cc (yC H v L hv (by omega)) ?_;clear hS
 rintro _ post ⟨q1,rfl,pQ,rfl⟩ w hS
 (try simp only[app]at hS);refine Gp ?_
 refine zz (λhe=>iT (DR λh=>by rw[pQ.2 h.1]at he;cases he) (aR hS)) (λhe=>?_)
 have hM:=pQ.1 he
 refine Gp ?_
 refine za (λh=>iT (DR (by omega)) (aR hS)) (λh1=>?_)
 refine zn hv ?_
 refine Gp ?_
 refine za (λh=>iT (DR (by omega)) (aR hS)) (λh2=>?_)
 obtain⟨j,rfl⟩:∃j:Nat,id=((j+1:Nat):Int):=⟨(id-1).toNat,by omega⟩
 have hj:j<L.length:=by omega
 have ej:((j+1:Nat):Int)-1=(j:Int):=by omega
 refine Gp ?_
 rw[ej]
 refine zK hS Xh kU hv (x:=L[j]) (by simp[hj]) hj ?_
 refine zI hS ?_
 clear hS;intro b w hS
 refine zB (vs:=ka L[j]) hS .hd rfl rfl (uE _) ?_
 clear hS;intro w hS
 have cR:=(hM.2 j hj).1
 have p_:=Pm hM hj iJ dn
 generalize hr:L[j]=r at *
 obtain⟨uZ,rt,rr,rat,wS,sO,rd⟩:=r
 unfold ka at hS
 simp only at hS
 unfold ui at cR
 simp only at cR
 refine Gp ?_
 refine yO (λh=>iT (by rw[p_,if_pos (.inl h)]) (aR hS)) (λh3=>?_)
 refine Gp ?_
 refine za (λh=>iT (by rw[p_,if_pos (.inr (.inl h))]) (aR hS)) (λh4=>?_)
 refine Gp ?_
 refine za (λh=>iT (by rw[p_,if_pos (.inr (.inr (.inl h)))]) (aR hS)) (λh5=>?_)
 refine Gp ?_
 refine za (λh=>iT (by rw[p_,if_pos (.inr (.inr (.inr (by simp only;omega))))]) (aR hS)) (λh6=>?_)
 refine Gm λb w hS=>?_
 have hS:=bI.full (n:=0) (sz:=7) rfl hS
 refine zy (n:=0) (m:=L.length) hS .hd (o_ hS Xh hv) (l8 kU L) rfl (I2 L) (by omega) (by omega) ?_
 clear hS;intro v1 w hS
 rw[Nat.zero_add,List.nil_append]at hS
 refine Gn λw hS=>?_
 rcases bI.open hS with ⟨_,h0,_⟩|⟨ob,cap,rest,rfl,hc,hl,mW,hS⟩
 ·omega
 rw[ej]
 refine zH hj ?_
 refine Qn (vs:=ka ⟨uZ,rt,rr,rat,iJ,sO+1,dn⟩) hS Xu rfl (by rw[List.length_append,hl];omega) (uE _) ?_
 clear hS;intro w hS
 have e:((L.map ka).flatten++rest).take (0+j*7)++ka ⟨uZ,rt,rr,rat,iJ,sO+1,dn⟩++((L.map ka).flatten++rest).drop (0+j*7+7)=((L.set j ⟨uZ,rt,rr,rat,iJ,sO+1,dn⟩).map ka).flatten++rest:=by
  have uS:(L.map ka).flatten.length=L.length*7:=hl
  rw[Nat.zero_add,List.take_append_of_le_length (by rw[uS];omega),sA kU]
  rw[show j*7+7=(j+1)*7 by omega,List.drop_append_of_le_length (by rw[uS];omega),rN kU]
  rw[List.set_eq_take_append_cons_drop,if_pos hj]
  simp
 rw[e]at hS
 have hS:=bI.mk (n:=L.length) (cap:=cap) (sz:=7) (rest:=rest) hc (by rw[l8 kU,List.length_set]) mW hS
 obtain⟨H1,fF,l9,hS⟩:=zu (H:=H) (v:=.slice (some ⟨ob,0,none⟩) L.length cap) (n:=L.length) (sz:=7) (t:=125) (cells:=((L.set j ⟨uZ,rt,rr,rat,iJ,sO+1,dn⟩).map ka).flatten) hS Xp
 have A4:(L.set j (⟨uZ,rt,rr,rat,iJ,sO+1,dn⟩:Rq)).length=L.length:=List.length_set
 rw[p_,if_neg (by rintro (h|h|h|h);exact absurd h (by rw[h3];exact Bool.false_ne_true);exact h4 h;exact h5 h;simp only at h;omega)]
 exact⟨_,⟨H1,fF,rfl,_,rfl,by unfold mh;rw[A4];exact l9⟩,aR hS⟩
def FT(r:Rq)(a:Int):Prop:=0<=r.table/\r.table<8/\1<=r.weight/\r.weight<=8/\max a 1<=r.at_/\r.at_<=1099511627776/\0<=r.iJ/\r.iJ<=1099511627776/\0<=r.chunks/\r.chunks<=1099511627776
theorem bWd(r:Rq)(a:Int):SP 353 [agg (ka r),.int .i64 a] [] (λv post=>∃q:Bool,v= .bool q/\(q=true↔FT r a)/\post=[]):=by
 intro W F w hS;apply dI1;delta NB aF a_ cw ai;(try simp only[app]at hS)
 obtain⟨uZ,rt,rr,rat,wS,sO,rd⟩:=r
 unfold ka FT
 simp only
 refine⟨_,rfl,zI hS ?_⟩
 clear hS;intro b w hS
 have iT:∀{w:World},¬(0<=rt/\rt<8/\1<=rr/\rr<=8/\max a 1<=rat/\rat<=1099511627776/\0<=wS/\wS<=1099511627776/\0<=sO/\sO<=1099511627776)->SL W F w->∃post,(∃q:Bool,(.bool false:Value)= .bool q/\(q=true↔0<=rt/\rt<8/\1<=rr/\rr<=8/\max a 1<=rat/\rat<=1099511627776/\0<=wS/\wS<=1099511627776/\0<=sO/\sO<=1099511627776)/\post=[])/\SL W (app post F) w:=λh hS=>⟨_,⟨false,rfl,⟨λe=>(by cases e),λe=>absurd e h⟩,rfl⟩,hS⟩
 refine Gp ?_
 refine za (λc1=>?_) (λc=>iT (by omega) (aR hS))
 refine Gp ?_
 refine za (λc2=>?_) (λc=>iT (by omega) (aR hS))
 refine Gp ?_
 refine za (λc3=>?_) (λc=>iT (by omega) (aR hS))
 refine Gp ?_
 refine za (λc4=>?_) (λc=>iT (by omega) (aR hS))
 refine Gp ?_
 refine za (λc5=>?_) (λc=>iT (by omega) (aR hS))
 refine Gp ?_
 refine za (λc6=>?_) (λc=>iT (by omega) (aR hS))
 refine Gp ?_
 refine za (λc7=>?_) (λc=>iT (by omega) (aR hS))
 refine Gp ?_
 refine za (λc8=>?_) (λc=>iT (by omega) (aR hS))
 refine Gp ?_
 refine za (λc9=>?_) (λc=>iT (by omega) (aR hS))
 refine Gp ?_
 refine⟨_,⟨_,rfl,?_,rfl⟩,aR hS⟩
 rw[decide_eq_true_eq]
 exact⟨λc=>⟨c1,c2,c3,c4,c5,c6,c7,c8,c9,c⟩,λc=>c.2.2.2.2.2.2.2.2.2⟩
def vR(L:List Rq)(i t:Nat):Bool:=(L.take i).any λr=>decide (r.table=(t:Int)) && !r.done
theorem TY{L:List Rq}{i t:Nat}:vR L i t=true↔∃k,∃h:k<L.length,k<i/\L[k].table=(t:Int)/\L[k].done=false:=by
 unfold vR
 rw[List.any_eq_true]
 constructor
 ·rintro ⟨r,hr,hx⟩
  obtain⟨k,hk,rfl⟩:=List.mem_iff_getElem.1 hr
  rw[List.length_take]at hk
  refine⟨k,by omega,by omega,?_⟩
  simpa using hx
 ·rintro ⟨k,h,hk,h1,h2⟩
  refine⟨L[k],List.mem_iff_getElem.2 ⟨k,by rw[List.length_take];omega,by simp⟩,by simp[h1,h2]⟩
def wR(L:List Rq)(i:Nat):List Value:=(List.range 8).map λt=>.bool (vR L i t)
theorem TZ(L:List Rq)(i:Nat){t:Nat}(h:t<8){o:Nat}(ho:o=t):(wR L i)[o]?=some (.bool (vR L i t)):=by
 subst ho;unfold wR;simp[h]
theorem bWf{L:List Rq}{i t:Nat}(hi:i<L.length)(ht:L[i].table=(t:Int))(h:vR L i t=false){o:Nat}(ho:o=t):(wR L i).set o (.bool !L[i].done)=wR L (i+1):=by
 subst ho
 unfold wR
 refine List.ext_getElem (by simp) λj h1 h2=>?_
 have hj:j<8:=by simpa using h2
 rw[List.getElem_set]
 have hs:∀t:Nat,vR L (i+1) t=(vR L i t || (decide (L[i].table=(t:Int)) && !L[i].done)):=λt=>by
  unfold vR
  rw[List.take_succ_eq_append_getElem hi,List.any_append];simp
 split
 ·rename_i e;subst e
  simp only[List.getElem_map,List.getElem_range]
  rw[hs,h,ht];simp
 ·rename_i e
  simp only[List.getElem_map,List.getElem_range]
  rw[hs,ht]
  have:¬((o:Int)=(j:Int)):=by omega
  simp[this]
theorem bWg(L:List Rq):wR L 0=[.bool false,.bool false,.bool false,.bool false,.bool false,.bool false,.bool false,.bool false]:=by
 simp[wR,vR,List.range,List.range.loop]
def xc(L:List Rq)(i:Nat):Int:=if i=0 then 0 else (L[i-1]?.map (·.at_)).getD 0
theorem bIj(H:bw)(v:Value)(L:List Rq)(hv:mh H v L)(hn:L.length<=140737488351232):
  SP 306 [v] [.mem H] (λu post=>∃q:Bool,u= .bool q/\(q=true↔kW L)/\post=[.mem H]):=by
 intro W F w hS;apply dF7;delta Nc aF a_ aW dW cw ai;(try simp only[app]at hS)
 have iT:∀{w:World},¬kW L->SL W (.mem H::F) w->∃post,(∃q:Bool,(.bool false:Value)= .bool q/\(q=true↔kW L)/\post=[.mem H])/\SL W (app post F) w:=λh hS=>
  ⟨_,⟨false,rfl,⟨λe=>(by cases e),λe=>absurd e h⟩,rfl⟩,hS⟩
 refine zI hS ?_
 clear hS;intro ob w hS
 refine zn hv ?_
 rw[<- bWg L]at hS
 refine⟨λus w=>∃i:Nat,us=[.int .i64 (xc L i),.int .i64 i]/\i<=L.length/\(∀j,j<i->wa L j)/\SL W (.pt ob (wR L i) 428::.mem H::F) w,
  λus _=>match us with|[_,.int _ i]=>(L.length-i).toNat|_=>0,⟨0,rfl,by omega,λj h=>by omega,aR hS⟩,?_⟩
 clear hS
 rintro v4 v9 w ⟨i,dR,hi,iD,hS⟩
 cases dR
 refine b9 (λh=>?_) (λh=>?_)
 ·have b8:i<L.length:=by omega
  have gi:∀{w:World},¬wa L i->SL W (.mem H::F) w->∃post,(∃q:Bool,(.bool false:Value)= .bool q/\(q=true↔kW L)/\post=[.mem H])/\SL W (app post F) w:=λh hS=>iT (λhp=>h (hp.2 i)) hS
  refine zK hS Xh kU hv (x:=L[i]) (by simp[b8]) b8 ?_
  refine zI hS ?_
  clear hS;intro b w hS
  refine zB (vs:=ka L[i]) hS .hd rfl rfl (uE _) ?_
  clear hS;intro w hS
  have nh:wa L i->ui i L[i]/\(∀h0:0<i,L[i-1].at_<=L[i].at_)/\∀k (hk:k<i),¬(L[k].table=L[i].table/\L[k].done=false):=λh=>h b8
  have RH:max (xc L i) 1<=L[i].at_↔1<=L[i].at_/\∀h0:0<i,L[i-1].at_<=L[i].at_:=by
   unfold xc
   by_cases h0:i=0
   ·rw[if_pos h0];exact⟨λe=>⟨by omega,λh=>by omega⟩,λe=>by have:=e.1;omega⟩
   ·rw[if_neg h0,List.getElem?_eq_getElem (by omega)]
    simp only[Option.map_some,Option.getD_some]
    exact⟨λe=>⟨by omega,λ_=>by omega⟩,λe=>by have:=e.1;have:=e.2 (by omega);omega⟩
  unfold ka at hS
  refine Gp ?_
  refine za (λc=>gi (λhp=>by have:=(nh hp).1.1;omega) (aR hS)) (λc1=>?_)
  refine zL hS Xh rfl ?_
  refine Cc (bWd L[i] (xc L i)) ?_;clear hS
  rintro _ post ⟨q1,rfl,pQ,rfl⟩ w hS
  (try simp only[app]at hS);refine Gp ?_
  refine zz (λhe=>gi (λhp=>?_) (aR hS)) (λhe=>?_)
  ·have hp:=nh hp
   have h1:FT L[i] (xc L i):=⟨hp.1.2.1,hp.1.2.2.1,hp.1.2.2.2.1,hp.1.2.2.2.2.1,RH.2 ⟨hp.1.2.2.2.2.2.1,hp.2.1⟩,hp.1.2.2.2.2.2.2.1,hp.1.2.2.2.2.2.2.2.1,hp.1.2.2.2.2.2.2.2.2.1,hp.1.2.2.2.2.2.2.2.2.2.1,hp.1.2.2.2.2.2.2.2.2.2.2⟩
   rw[pQ.2 h1]at he;cases he
  ·have hQ:=pQ.1 he
   have kM:=RH.1 hQ.2.2.2.2.1
   obtain⟨t,ht⟩:∃t:Nat,L[i].table=(t:Int):=⟨L[i].table.toNat,by have:=hQ.1;omega⟩
   have CU:t<8:=by have:=hQ.2.1;omega
   have vI:Value.int .i64 L[i].table= .int .i64 (t:Int):=by rw[ht]
   refine Gp ?_
   rw[vI]at hS ⊢
   refine UE CU (ye hS Xh (TZ L i CU (by omega)) ?_)
   refine yO (λho=>gi (λhp=>?_) (aR hS)) (λho=>?_)
   ·obtain⟨k,hk,Cz,h1,h2⟩:=TY.1 ho
    exact (nh hp).2.2 k Cz ⟨by rw[h1,ht],h2⟩
   ·refine Gn λw hS=>?_
    refine UE CU ?_
    refine Zn hS Xu (TZ L i CU (by omega)) rfl ?_
    clear hS;intro w hS
    rw[bWf b8 ht ho (by omega)]at hS
    refine Gp ?_
    have ea:xc L (i+1)=L[i].at_:=by
     unfold xc;rw[if_neg (by omega),Nat.add_sub_cancel,List.getElem?_eq_getElem b8];rfl
    refine⟨⟨i+1,by rw[ea],by omega,λj hj=>?_,aR hS⟩,by dsimp only;omega⟩
    by_cases e:j=i
    ·subst e
     refine λ_=>⟨⟨by omega,hQ.1,hQ.2.1,hQ.2.2.1,hQ.2.2.2.1,kM.1,hQ.2.2.2.2.2.1,hQ.2.2.2.2.2.2.1,hQ.2.2.2.2.2.2.2.1,hQ.2.2.2.2.2.2.2.2.1,hQ.2.2.2.2.2.2.2.2.2⟩,kM.2,λk hk hx=>?_⟩
     have:=TY.2 ⟨k,by omega,hk,by rw[hx.1,ht],hx.2⟩
     rw[ho]at this;cases this
    ·exact iD j (by omega)
 ·have nf:i=L.length:=by omega
  subst nf
  refine zn hv ?_
  refine Gp ?_
  refine⟨_,⟨_,rfl,?_,rfl⟩,aR hS⟩
  rw[decide_eq_true_eq]
  exact⟨λh=>⟨by omega,λj hj=>iD j hj hj⟩,λhp=>by have:=hp.1;omega⟩
theorem Zq(H:bw)(v:Value)(L:List Rq)(hv:mh H v L)(hn:L.length<=140737488351232):
  SP 256 [v] [.mem H] (λu post=>∃q:Bool,u= .bool q/\(q=true↔kW L)/\post=[.mem H]):=by
 intro W F w hS;apply dwv;unfold Mp;(try simp only[app]at hS)
 refine Cc (bIj H v L hv hn) ?_;clear hS
 rintro _ post ⟨q,rfl,hq,rfl⟩ w hS
 try simp only[app]at hS
 exact⟨_,⟨q,rfl,hq,rfl⟩,aR hS⟩
def uj(L:List Rq)(id:Int):Bool:=decide (1<=id/\id<=L.length) && (match L[(id-1).toNat]? with|some r=>!r.done|none=>false)
theorem cwl{a b:Int}{K:Value->Prop}(h:K (.int .i64 (IntKind.i64.wrap (a-b)))):zc .sub (.int .i64 a) (.int .i64 b) K:=⟨_,rfl,h⟩
theorem Vv{n:Int}(h : -9223372036854775808<=n/\n<=9223372036854775807):IntKind.i64.wrap n=n:=IntWalk.i64_in _ h
theorem QG(H:bw)(v:Value)(L:List Rq)(id:Int)(hv:mh H v L)(hn:L.length<=1000)(hid : -9223372036854775808<=id/\id<=9223372036854775807):
  SP 263 [v,.int .i64 id] [.mem H] (eW (.tuple #[.int .i64 (IntKind.i64.wrap (id-1)),.bool (uj L id)]) [.mem H]):=by
 intro W F w hS;apply dw3;delta Mx aF aW ai;(try simp only[app]at hS)
 refine Gn λw hS=>?_
 refine cwl ?_
 refine b9 (λh1=>?_) (λh1=>?_)
 ·refine zn hv ?_
  refine b9 (λh2=>?_) (λh2=>?_)
  ·obtain⟨j,rfl⟩:∃j:Nat,id=((j+1:Nat):Int):=⟨(id-1).toNat,by omega⟩
   have hj:j<L.length:=by omega
   have ej:((j+1:Nat):Int)-1=(j:Int):=by omega
   have hp:uj L ((j+1:Nat):Int) = !L[j].done:=by
    unfold uj
    rw[decide_eq_true (by omega),show (((j+1:Nat):Int)-1).toNat=j by omega,List.getElem?_eq_getElem hj];rfl
   rw[hp,Vv (by omega),ej]
   refine Gp ?_
   rw[ej]
   have hd:=sy kU L j 6 L[j] (.bool L[j].done) (by simp[hj]) rfl
   refine ZH hv hj λb o hb=>zW (ZS hS Xh (hb 6 _ (by decide) hd) ?_)
   refine Gp ?_
   refine ZS hS Xh (hb 6 _ (by decide) hd) ?_
   exact⟨rfl,_,⟨rfl,rfl⟩,aR hS⟩
  ·have hp:uj L id=false:=by unfold uj;rw[decide_eq_false (by omega)];rfl
   rw[hp]
   exact fw hS
 ·have hp:uj L id=false:=by unfold uj;rw[decide_eq_false (by omega)];rfl
  rw[hp]
  exact fw hS
theorem yB(H:bw)(v:Value)(L:List Rq)(hv:mh H v L)(hn:L.length<=1000):
  SP 126 [v] [.mem H] (λu post=>post=[.ob (bI u 125 7 L.length (L.map ka).flatten),.mem H]):=by
 exact Pn cRe rfl (by decide) hv (I2 L) (by omega) (by omega)
theorem Y3(H:bw)(v:Value)(L:List Rq)(table weight at_:Int)(hv:mh H v L)(hn:L.length<=1000):
  SP 258 [v,.int .i64 table,.int .i64 weight,.int .i64 at_] [.mem H] (λu post=>An H u post (sn L table weight at_)):=by
 intro W F w hS;apply dwx;delta Mr dW ai bR;(try simp only[app]at hS)
 refine Cc (yB H v L hv hn) ?_;clear hS
 rintro v1 post rfl w hS;(try simp only[app]at hS)
 refine zn hv ?_
 refine Gm λb w hS=>?_
 refine zy (n:=L.length) (m:=1) (cells:=(L.map ka).flatten) hS Xr (lX (cs:=ka ⟨((L.length+1:Nat):Int),table,weight,at_,0,0,false⟩) hS .hd rfl) rfl rfl (uE _) (by omega) (by omega) ?_
 clear hS;intro v2 w hS
 rw[<- D9]at hS
 obtain⟨H1,fF,l9,hS⟩:=zu (H:=H) (v:=v2) (n:=L.length+1) (sz:=7) (t:=125) (cells:=((L++[(⟨((L.length+1:Nat):Int),table,weight,at_,0,0,false⟩:Rq)]).map ka).flatten) hS Xp
 have hlen:(L++[(⟨((L.length+1:Nat):Int),table,weight,at_,0,0,false⟩:Rq)]).length=L.length+1:=by simp
 have l9:mh H1 v2 (L++[(⟨((L.length+1:Nat):Int),table,weight,at_,0,0,false⟩:Rq)]):=by unfold mh;rw[hlen];exact l9
 have hN:Fl L table weight at_=⟨((L.length+1:Nat):Int),table,weight,at_,0,0,false⟩:=rfl
 unfold sn
 rw[hN]
 generalize G6:L++[(⟨((L.length+1:Nat):Int),table,weight,at_,0,0,false⟩:Rq)]=L2 at l9 hlen ⊢
 refine Cc (Zq H1 v L (hv.mono fF) (by omega)) ?_;clear hS
 rintro _ post ⟨q1,rfl,pQ,rfl⟩ w hS
 (try simp only[app]at hS);refine Gp ?_
 refine zz (λhe=>?_) (λhe=>?_)
 ·rw[if_neg λh=>by rw[pQ.2 h.1]at he;cases he]
  exact⟨_,⟨H1,fF,rfl,rfl⟩,aR hS⟩
 ·skip
  refine Cc (Zq H1 v2 L2 l9 (by omega)) ?_;clear hS
  rintro _ post ⟨q2,rfl,nL,rfl⟩ w hS
  (try simp only[app]at hS);refine Gp ?_
  refine zz (λvz=>?_) (λvz=>?_)
  ·rw[if_neg λh=>by rw[nL.2 h.2]at vz;cases vz]
   exact⟨_,⟨H1,fF,rfl,rfl⟩,aR hS⟩
  ·rw[if_pos ⟨pQ.1 he,nL.1 vz⟩]
   exact⟨_,⟨H1,fF,rfl,v2,rfl,l9⟩,aR hS⟩
theorem bW1{L:List Rq}{id:Int}(h:uj L id=true):∃j:Nat,∃hj:j<L.length,id=((j+1:Nat):Int)/\L[j].done=false:=by
 unfold uj at h
 rw[Bool.and_eq_true,decide_eq_true_eq]at h
 obtain⟨⟨h1,h2⟩,h3⟩:=h
 have hj:(id-1).toNat<L.length:=by omega
 rw[List.getElem?_eq_getElem hj]at h3
 exact⟨(id-1).toNat,hj,by omega,by simpa using h3⟩
theorem W5{L:List Rq}{id c:Int}{dn:Bool}(h:uj L id=false):oA L id c dn=none:=by
 unfold oA
 split
 ·rename_i hc
  have hj:(id-1).toNat<L.length:=by omega
  unfold uj at h
  rw[decide_eq_true hc.2,List.getElem?_eq_getElem hj]at h
  rw[List.getElem?_eq_getElem hj]
  simp only[Bool.true_and,Bool.not_eq_false']at h
  simp only[h,true_or,if_true]
 ·rfl
theorem I0{L:List Rq}{rest:List Value}{j i:Nat}(hj:j<L.length)(hi:i<7){v:Value}{y:Rq}(hy:(ka L[j]).set i v=ka y):((L.map ka).flatten++rest).set (0+j*7+i) v=((L.set j y).map ka).flatten++rest:=by
 rw[Nat.zero_add,List.set_append_left _ _ (by rw[l8 kU];omega),GU kU L j i hj y v hi hy]
theorem Fx{L:List Rq}{rest:List Value}{j i:Nat}(hj:j<L.length){u:Value}(hu:(ka L[j])[i]?=some u):((L.map ka).flatten++rest)[0+j*7+i]?=some u:=by
 have h:=sy kU L j i L[j] u (List.getElem?_eq_getElem hj) hu
 rw[Nat.zero_add,List.getElem?_append_left (List.getElem?_eq_some_iff.1 h).1];exact h
theorem qF(H:bw)(v:Value)(L:List Rq)(id iJ:Int)(dn:Bool)(hv:mh H v L)(hn:L.length<=1000)(hid : -9223372036854775808<=id/\id<=9223372036854775807):
  SP 201 [v,.int .i64 id,.int .i64 iJ,.bool dn] [.mem H] (λu post=>An H u post (oA L id iJ dn)):=by
 intro W F w hS;apply c_e;delta Lu aF a_ dW ai bR;(try simp only[app]at hS)
 have iT:∀{w:World},oA L id iJ dn=none->SL W (.mem H::F) w->∃post,An H (.tuple #[.slice none 0 0,.bool false]) post (oA L id iJ dn)/\SL W (app post F) w:=λe hS=>⟨_,⟨H,bw.le_refl H,rfl,by rw[e]⟩,hS⟩
 refine Cg (QG H v L id hv hn hid) λw hS=>?_
 refine Cc (Zq H v L hv (by omega)) ?_;clear hS
 rintro _ post ⟨q1,rfl,pQ,rfl⟩ w hS
 (try simp only[app]at hS);refine Gp ?_
 refine zz (λhe=>iT (DR λh=>by rw[pQ.2 h.1]at he;cases he) (aR hS)) (λhe=>?_)
 have hM:=pQ.1 he
 refine Gp ?_
 refine zz (λh=>iT (W5 h) (aR hS)) (λh1=>?_)
 obtain⟨j,hj,rfl,hd⟩:=bW1 h1
 have ew:IntKind.i64.wrap (((j+1:Nat):Int)-1)=(j:Int):=by rw[Vv (by omega)];omega
 rw[ew]
 have p_:=Pm hM hj iJ dn
 have cR:=(hM.2 j hj).1
 unfold ui at cR
 have hx:L[j]?=some L[j]:=List.getElem?_eq_getElem hj
 refine zA hS Xh kU hv hx hj (i:=4) rfl ?_
 refine Gp ?_
 refine za (λh=>iT (by rw[p_,if_pos (.inr (.inl h))]) (aR hS)) (λh4=>?_)
 refine Gp ?_
 refine za (λh=>iT (by rw[p_,if_pos (.inr (.inr (.inl h)))]) (aR hS)) (λh5=>?_)
 refine zA hS Xh kU hv hx hj (i:=5) rfl ?_
 refine Gp ?_
 refine za (λh=>iT (by rw[p_,if_pos (.inr (.inr (.inr h)))]) (aR hS)) (λh6=>?_)
 rw[p_,if_neg (by rw[hd];rintro (h|h|h|h);exact Bool.false_ne_true h;exact h4 h;exact h5 h;exact h6 h)]
 refine Cc (yB H v L hv hn) ?_;clear hS
 rintro v1 post rfl w hS;(try simp only[app]at hS)
 rcases bI.open hS with ⟨_,h0,_⟩|⟨ob,cap,rest,rfl,hc,hl,mW,hS⟩
 ·omega
 refine zH hj (zW (Zn hS Xu (Fx hj (i:=4) rfl) rfl ?_))
 clear hS;intro w hS
 rw[I0 hj (by decide) (y:={L[j] with iJ:=iJ}) rfl]at hS
 have AV:j<(L.set j {L[j] with iJ:=iJ}).length:=by rw[List.length_set];exact hj
 have e1:(L.set j {L[j] with iJ:=iJ})[j]={L[j] with iJ:=iJ}:=by simp
 refine zH hj (zW (Zn hS Xu (Fx AV (i:=6) (u:=.bool L[j].done) (by rw[e1];rfl)) rfl ?_))
 clear hS;intro w hS
 rw[I0 AV (by decide) (y:={L[j] with iJ:=iJ,done:=dn}) (by rw[e1];rfl),List.set_set]at hS
 have rh:j<(L.set j {L[j] with iJ:=iJ,done:=dn}).length:=by rw[List.length_set];exact hj
 have e2:(L.set j {L[j] with iJ:=iJ,done:=dn})[j]={L[j] with iJ:=iJ,done:=dn}:=by simp
 refine zH hj (zW (ye hS .hd (Fx rh (i:=5) (u:=.int .i64 L[j].chunks) (by rw[e2];rfl)) ?_))
 refine Gp ?_
 refine zH hj (zW (Zn hS Xu (Fx rh (i:=5) (u:=.int .i64 L[j].chunks) (by rw[e2];rfl)) rfl ?_))
 clear hS;intro w hS
 rw[I0 rh (by decide) (y:={L[j] with iJ:=iJ,chunks:=L[j].chunks+1,done:=dn}) (by rw[e2];rfl),List.set_set]at hS
 generalize G6:L.set j {L[j] with iJ:=iJ,chunks:=L[j].chunks+1,done:=dn}=L2 at *
 have hlen:L2.length=L.length:=by rw[<- G6,List.length_set]
 have hS:=bI.mk (n:=L2.length) (cap:=cap) (sz:=7) (rest:=rest) (by omega) (l8 kU L2) (by rw[hlen];exact mW) hS
 obtain⟨H1,fF,l9,hS⟩:=zu (H:=H) (v:=.slice (some ⟨ob,0,none⟩) L2.length cap) (n:=L2.length) (sz:=7) (t:=125) (cells:=(L2.map ka).flatten) hS Xp
 exact⟨_,⟨H1,fF,rfl,_,rfl,by rw[<- hlen];exact l9⟩,aR hS⟩
structure pg where
 tables:Int
 late:Int
 size:Int
 queue:Int
 chunk:Int
 batch:Int
 base:Int
 l4:Int
 C3:Int
 every:Int
def tJ(c:pg):List Value:=[.int .i64 c.tables,.int .i64 c.late,.int .i64 c.size,.int .i64 c.queue,.int .i64 c.chunk,.int .i64 c.batch,.int .i64 c.base,.int .i64 c.l4,.int .i64 c.C3,.int .i64 c.every]
theorem XR(c:pg):∀v∈tJ c,v.oneCell'=true:=by simp[tJ,Value.oneCell']
def vl(j:Nat):Int:=([64,128,256,1024]:List Int)[j]!
theorem WY{j:Nat}(h:j<4):([.int .i64 64,.int .i64 128,.int .i64 256,.int .i64 1024]:List Value)[0+j*1]?=some (.int .i64 (vl j)):=by
 match j,h with
 | 0,_=>rfl
 | 1,_=>rfl
 | 2,_=>rfl
 | 3,_=>rfl
theorem WZ{j:Nat}(h:j<4):64<=vl j/\vl j<=1024:=by
 match j,h with
 | 0,_=>decide
 | 1,_=>decide
 | 2,_=>decide
 | 3,_=>decide
def BQ(c:pg):pg:=
 ⟨1+(md c.tables 4:Int),(md c.late (2 ^ (1+md c.tables 4)):Int),vl (md c.size 4),1+(md c.queue 5:Int),1+(md c.chunk 4:Int),1+(md c.batch 4:Int),1+(md c.base 4:Int),1+(md c.base 4:Int)+(md c.l4 12:Int),(md c.C3 4:Int),1+(md c.every 8:Int)⟩
theorem Q8{a:Int}{k:IntKind}{n:Nat}{K:Value->Prop}(hn:n<=60)(hr : -9223372036854775808<=a*2 ^ n/\a*2 ^ n<=9223372036854775807)(h:K (.int .i64 (a*2 ^ n))):zc .shl (.int .i64 a) (.int k (n:Int)) K:=by
 refine⟨.int .i64 (a*2 ^ n),?_,h⟩
 have HA:min n 64=n:=Nat.min_eq_left (by omega)
 show (if ((n:Nat):Int)<0 then none else some (Value.int .i64 (IntKind.i64.wrap (a*2 ^ (min ((n:Nat):Int).toNat 64)))))=_
 rw[if_neg (by omega),Int.toNat_natCast,HA,IntWalk.i64_in _ hr]
theorem I6{j:IntKind}{n:Nat}{K:Value->Prop}(hr:n<=9223372036854775807)(h:K (.int .u64 (n:Int))):zG .u64 (.int j (n:Int)) K:=zO (by rw[show IntKind.u64.wrap (n:Int)=n by rw[IntKind.wrap_u64];omega];exact h)
def mz(v n:Int):Int:=(md v n.toNat:Int)
theorem bRf(v n:Int)(h:0<n/\n<=9223372036854775807):SP 16 [.int .i64 v,.int .i64 n] [] (eW (.int .i64 (mz v n)) []):=by
 have:=yI v n.toNat (by omega) (by omega)
 rw[show ((n.toNat:Nat):Int)=n by omega]at this
 exact this
theorem b_x{b o len cap sz:Nat}{k:IntKind}{j:Int}{K:Value->Prop}(h0:0<=j)(hj:j<len)(h:K (.pointer (some ⟨b,o+j.toNat*sz,none⟩))):ze sz (.slice (some ⟨b,o,none⟩) len cap) (.int k j) K:=by
 obtain⟨m,rfl⟩:∃m:Nat,j=m:=⟨j.toNat,by omega⟩
 rw[Int.toNat_natCast]at h
 exact zH (by omega) h
theorem WX{j:Int}(h0:0<=j)(h:j<4):([.int .i64 64,.int .i64 128,.int .i64 256,.int .i64 1024]:List Value)[0+j.toNat*1]?=some (.int .i64 (vl j.toNat)):=WY (by omega)
set_option maxHeartbeats 4000000 in
theorem qt(c:pg):SP 50 [agg (tJ c)] [] (eW (agg (tJ (BQ c))) []):=by
 intro W F w hS;apply dRm;delta NW a_ aW ai iV;(try simp only[app]at hS)
 refine zC hS λcb w hS=>?_
 unfold tJ at hS
 refine Gb λxb w hS=>?_
 obtain⟨ct,cl,cs,cq,cc,sr,uA,cm,cj,ce⟩:=c
 simp only at hS
 have h1:=oa ct 4 (by decide)
 have h2:=oa cs 4 (by decide)
 have h3:=oa cq 5 (by decide)
 have h4:=oa cc 4 (by decide)
 have h5:=oa sr 4 (by decide)
 have h6:=oa uA 4 (by decide)
 have h7:=oa cm 12 (by decide)
 have h8:=oa cj 4 (by decide)
 have h9:=oa ce 8 (by decide)
 have g1:0<=mz ct 4/\mz ct 4<4:=⟨Int.natCast_nonneg _,by show (md ct 4:Int)<4;omega⟩
 have g2:0<=mz cs 4:=Int.natCast_nonneg _
 have Ri:mz cs 4<((4:Nat):Int):=by show (md cs 4:Int)<4;omega
 have awq:mz cs 4<4:=Ri
 have g3:0<=mz cq 5/\mz cq 5<5:=⟨Int.natCast_nonneg _,by show (md cq 5:Int)<5;omega⟩
 have g4:0<=mz cc 4/\mz cc 4<4:=⟨Int.natCast_nonneg _,by show (md cc 4:Int)<4;omega⟩
 have g5:0<=mz sr 4/\mz sr 4<4:=⟨Int.natCast_nonneg _,by show (md sr 4:Int)<4;omega⟩
 refine⟨λus w=>∃yb:Nat,us=[.pointer (some ⟨yb,0,none⟩)]/\SL W (.pt yb [.int .i64 (1+mz ct 4),.int .i64 0,.int .i64 (vl (mz cs 4).toNat),.int .i64 (1+mz cq 5),.int .i64 (1+mz cc 4),.int .i64 (1+mz sr 4),.int .i64 0,.int .i64 0,.int .i64 0,.int .i64 0] 87 ::
   .pt xb [.int .i64 0,.int .i64 0,.int .i64 0,.int .i64 0,.int .i64 0,.int .i64 0,.int .i64 0,.int .i64 0,.int .i64 0,.int .i64 0] 87::.pt cb [.int .i64 ct,.int .i64 cl,.int .i64 cs,.int .i64 cq,.int .i64 cc,.int .i64 sr,.int .i64 uA,.int .i64 cm,.int .i64 cj,.int .i64 ce] 87::F) w,?_,?_⟩
 ·repeat' (first
   | refine Gp ?_
   | refine Gw λw hS=>?_
   | refine Gb λb w hS=>?_
   | ((with_reducible refine yQ (bRf _ _ (by decide)) hS (.nil) ?_);clear hS;(rintro v post ⟨rfl,rfl⟩ w hS);(try simp only[app]at hS))
   | (with_reducible refine b_x (by assumption) (by assumption) ?_)
   | (with_reducible refine ye hS (t:=3) Xh (WX (by assumption) (by assumption)) ?_)
   | with_reducible refine And.intro ?_ ?_
   | exact⟨_,rfl,aR hS⟩)
 ·clear hS
  rintro _ w ⟨yb,dR,hS⟩
  cases dR
  clear g1 g2 Ri awq g3 g4 g5
  have hS:SL W (.pt yb [.int .i64 (1+(md ct 4:Int)),.int .i64 0,.int .i64 (vl (md cs 4)),.int .i64 (1+(md cq 5:Int)),.int .i64 (1+(md cc 4:Int)),.int .i64 (1+(md sr 4:Int)),.int .i64 0,.int .i64 0,.int .i64 0,.int .i64 0] 87::_) w:=hS
  refine Gp ?_
  rw[show (1:Int)+(md ct 4:Int)=((1+md ct 4:Nat):Int) by omega]at hS ⊢
  refine I6 (by omega) ?_
  have hp:2 ^ (1+md ct 4)<=16:=Nat.pow_le_pow_right (by decide) (show 1+md ct 4<=4 by omega)
  have EJ:0<2 ^ (1+md ct 4):=Nat.pow_pos (by decide)
  have Sp:(1:Int)*2 ^ (1+md ct 4)=((2 ^ (1+md ct 4):Nat):Int):=by simp
  refine Q8 (by omega) (by rw[Sp];omega) ?_
  rw[Sp]
  have tU:=oa cl (2 ^ (1+md ct 4)) EJ
  have e:BQ ⟨ct,cl,cs,cq,cc,sr,uA,cm,cj,ce⟩=⟨((1+md ct 4:Nat):Int),(md cl (2 ^ (1+md ct 4)):Int),vl (md cs 4),1+(md cq 5:Int),1+(md cc 4:Int),1+(md sr 4:Int),1+(md uA 4:Int),1+(md uA 4:Int)+(md cm 12:Int),(md cj 4:Int),1+(md ce 8:Int)⟩:=by
   unfold BQ
   simp only
   rw[show (1:Int)+(md ct 4:Int)=((1+md ct 4:Nat):Int) by omega]
  rw[e]
  generalize hP:2 ^ (1+md ct 4)=P at *
  refine Cg (yI cl P EJ (by omega)) λw hS=>?_
  refine Cg (yj uA 4 (by decide) (by decide)) λw hS=>?_
  refine Cg (yj cm 12 (by decide) (by decide)) λw hS=>?_
  refine Cg (yj cj 4 (by decide) (by decide)) λw hS=>?_
  refine Cg (yj ce 8 (by decide) (by decide)) λw hS=>?_
  (exact fw hS)
theorem bwx{P:Program}{T:List Bool}{f g:FuncId}{sz:Nat}{α:Type}{enc:α->List Value}(hn:∀x,(enc x).length=sz)(hT:T.getD g false=true){cap:Array Value}{c:Chunk}{q:α->Bool}{H:bw}
  (vc:∀v0 v1 w R,DF P T sz v0 v1 w R->zV P f [v0,v1] w R) (one:∀x,Spec P g ([agg (enc x)]++cap.toList) [c] (eW (.bool (q x)) [c]))
  (v:Value) (xs:List α) (hv:fW H sz v xs.length (xs.map enc).flatten) (hl:xs.length<=9223372036854775806) :
  Spec P f [v,.func (.func g) #[] cap] [c,.mem H] (eW (.int .i64 (nj (xs.findIdx? q))) [c,.mem H]):=by
 intro W F w hS;apply vc;unfold DF
 have hS:SL W (c::.mem H::F) w:=hS
 refine zn hv ?_
 refine⟨λvs w=>∃k:Nat,vs=[.int .i64 k]/\k<=xs.length/\(∀j (h:j<xs.length),j<k->q xs[j]=false)/\SL W (c::.mem H::F) w,λvs _=>match vs with|[.int _ k]=>(xs.length-k).toNat|_=>0,⟨0,rfl,by omega,λj h hj=>by omega,hS⟩,?_⟩
 clear hS
 rintro v8 w ⟨k,hv,hk,hq,hS⟩
 cases hv
 refine b9 (λh=>?_) (λh=>?_)
 ·have ml:k<xs.length:=by omega
  refine zK hS Xh hn ‹_› (x:=xs[k]) (by simp[ml]) ml ?_
  refine ZX (args':=[agg (enc xs[k])]++cap.toList) hT (one xs[k]) (by simp) hS Xp ?_
  clear hS
  rintro _ post ⟨rfl,rfl⟩ w hS
  try simp only[app]at hS
  cases CM:q xs[k] with
  | true=>
   refine zw ?_
   have e:xs.findIdx? q=some k:=List.findIdx?_eq_some_iff_getElem.2 ⟨ml,CM,λj hj=>by rw[hq j (by omega) hj];decide⟩
   rw[e]
   exact⟨_,⟨rfl,rfl⟩,hS⟩
  | false=>
   refine zt ?_
   refine Gp ?_
   refine⟨⟨k+1,rfl,by omega,λj h hj=>?_,hS⟩,by dsimp only;omega⟩
   rcases Nat.lt_or_ge j k with Cw|Cw
   ·exact hq j h Cw
   ·obtain rfl:j=k:=by omega
    exact CM
 ·have e:xs.findIdx? q=none:=List.findIdx?_eq_none_iff.2 λx hx=>by
   obtain⟨j,hj,rfl⟩:=List.mem_iff_getElem.1 hx
   exact hq j hj (by omega)
  rw[e]
  exact⟨_,⟨rfl,rfl⟩,hS⟩
structure h_.Ok(m:h_):Prop where
 reqs:kW m.reqs
 t1:1<=m.tables/\m.tables<=8
 rows:m.cF.rows.length<=1000
 mO:0<=m.at_/\m.at_<=1099511627776
abbrev vP(m:h_)(wp:Nat)(rv:Value):List Value:=[eF wp,.int .i64 m.tables,.int .i64 m.late,.int .i64 m.at_,rv]
def gF(mp wp:Nat)(H:bw)(m:h_):zE:=nr λrv:Value=>zU (mh H rv m.reqs) [.pt mp (vP m wp rv) 111,.ob (iE wp m.cF)]
section
variable {W w:World} {l F:List Chunk} {mp wp:Nat} {H H':bw}
theorem gF.iff{m:h_}:SL W (.ob (gF mp wp H m)::l) w↔∃rv,mh H rv m.reqs/\SL W (.pt mp (vP m wp rv) 111::.ob (iE wp m.cF)::l) w:=by
 unfold gF
 simp only[SL.ex,SL.fact,List.cons_append,List.nil_append]
theorem gF.put(m:h_)(rv:Value)(hr:mh H rv m.reqs)(hS:SL W l w)(p:kI [.pt mp (vP m wp rv) 111,.ob (iE wp m.cF)] l F):SL W (.ob (gF mp wp H m)::F) w:=gF.iff.2 ⟨rv,hr,hS.pick p⟩
theorem gF.iK{m:h_}(hh:H.le H')(hS:SL W l w)(r:kG (.ob (gF mp wp H m)) l F):SL W (.ob (gF mp wp H' m)::F) w:=by
 obtain⟨rv,h1,h2⟩:=gF.iff.1 (hS.perm r.perm)
 exact gF.iff.2 ⟨rv,h1.mono hh,h2⟩
end
theorem Yv(H:bw)(v:Value)(L:List Rq)(tables aI:Int)(hv:mh H v L)(hn:L.length<=1000):
  SP 193 [v,.int .i64 tables,.int .i64 aI] [.mem H] (λu post=>∃q:Bool,u= .bool q/\(q=true↔kW L/\∀r∈L,r.table<tables/\r.at_<=aI)/\post=[.mem H]):=by
 intro W F w hS;apply cW6;delta Lm aF a_ cw ai;(try simp only[app]at hS)
 refine zn hv ?_
 refine⟨λus w=>∃i:Nat,us=[.int .i64 i]/\i<=L.length/\(∀j (h:j<L.length),j<i->L[j].table<tables/\L[j].at_<=aI)/\SL W (.mem H::F) w,λus _=>match us with|[.int _ i]=>(L.length-i).toNat|_=>0,⟨0,rfl,by omega,λj h hj=>by omega,hS⟩,?_⟩
 clear hS
 rintro v11 w ⟨i,dR,hi,iD,hS⟩
 cases dR
 refine b9 (λh=>?_) (λh=>?_)
 ·have b8:i<L.length:=by omega
  have hx:L[i]?=some L[i]:=List.getElem?_eq_getElem b8
  have hm:=List.getElem_mem b8
  refine zK hS Xh kU hv hx b8 ?_
  have rW:L[i].table<tables/\L[i].at_<=aI->∀j (h:j<L.length),j<i+1->L[j].table<tables/\L[j].at_<=aI:=λh j hj ll=>by
   rcases Nat.lt_or_ge j i with h2|h2
   ·exact iD j hj h2
   ·obtain rfl:j=i:=by omega
    exact h
  generalize L[i]=r at *
  refine Gb λxb w hS=>?_
  refine za (λh2=>⟨_,⟨false,rfl,⟨(λe=>by cases e),λx=>by have:=(x.2 r hm).1;omega⟩,rfl⟩,aR hS⟩) (λh2=>?_)
  refine Gp ?_
  refine za (λh3=>⟨_,⟨false,rfl,⟨(λe=>by cases e),λx=>by have:=(x.2 r hm).2;omega⟩,rfl⟩,aR hS⟩) (λh3=>?_)
  refine Gp ?_
  exact⟨⟨i+1,rfl,by omega,rW ⟨by omega,by omega⟩,aR hS⟩,by dsimp only;omega⟩
 ·refine Cc (Zq H v L hv (by omega)) ?_;clear hS
  rintro _ post ⟨q,rfl,hq,rfl⟩ w hS
  try simp only[app]at hS
  refine⟨_,⟨q,rfl,hq.trans ⟨λx=>⟨x,λr hr=>?_⟩,λx=>x.1⟩,rfl⟩,hS⟩
  obtain⟨j,hj,rfl⟩:=List.getElem_of_mem hr
  exact iD j hj (by omega)
def JP(H:bw)(tables late chunk aI:Int)(L:List Rq)(v:Value)(post:List Chunk):Prop:=
 (tq tables late chunk aI L/\(∃e:Int,e≠0/\v= .tuple #[.pointer none,.int .i64 e])/\post=[.mem H]) \/
 (¬tq tables late chunk aI L/\∃(mp wp:Nat) (H':bw),H.le H'/\v= .tuple #[eF mp,.int .i64 0]/\post=[.ob (gF mp wp H' ⟨tables,late,aI,L,m9 chunk⟩),.mem H'])
theorem bRe(H:bw)(tables late chunk aI:Int)(v:Value)(L:List Rq)(hv:mh H v L)(hn:L.length<=1000):
  SP 113 [.int .i64 tables,.int .i64 late,.int .i64 chunk,.int .i64 aI,v] [.mem H] (JP H tables late chunk aI L):=by
 intro W F w hS;apply cI0;delta J_ aF dW ai gw bR;(try simp only[app]at hS)
 have gi:∀{e:Int} {w:World},e≠0->tq tables late chunk aI L->SL W (.mem H::F) w->∃post,JP H tables late chunk aI L (.tuple #[.pointer none,.int .i64 e]) post/\SL W (app post F) w:=λhe h hS=>⟨_,.inl ⟨h,⟨_,he,rfl⟩,rfl⟩,hS⟩
 refine Gp ?_
 refine za (λh=>gi (by decide) (.inl h) hS) (λh1=>?_)
 refine Gp ?_
 refine za (λh=>gi (by decide) (.inr (.inl h)) hS) (λh2=>?_)
 refine Gp ?_
 refine za (λh=>gi (by decide) (.inr (.inr (.inl h))) hS) (λh3=>?_)
 obtain⟨n,rfl⟩:∃n:Nat,tables=n:=⟨tables.toNat,by omega⟩
 have a_d:(2:Int) ^ n<=256:=by
  have:n<=8:=by omega
  match n,this with
  | 0,_=>decide
  | 1,_=>decide
  | 2,_=>decide
  | 3,_=>decide
  | 4,_=>decide
  | 5,_=>decide
  | 6,_=>decide
  | 7,_=>decide
  | 8,_=>decide
 have A1:(0:Int)<2 ^ n:=Int.pow_pos (by decide)
 refine Q8 (by omega) (by omega) ?_
 rw[Int.one_mul]
 refine Gp ?_
 refine za (λh=>gi (by decide) (.inr (.inr (.inr (.inl (by rw[Int.toNat_natCast];exact h))))) hS) (λh4=>?_)
 refine Gp ?_
 refine za (λh=>gi (by decide) (.inr (.inr (.inr (.inr (.inl h))))) hS) (λh5=>?_)
 refine Gp ?_
 refine za (λh=>gi (by decide) (.inr (.inr (.inr (.inr (.inr (.inl h)))))) hS) (λh6=>?_)
 refine Cc (Yv H v L n aI hv hn) ?_;clear hS
 rintro _ post ⟨q,rfl,hq,rfl⟩ w hS
 (try simp only[app]at hS);refine Gp ?_
 refine zz (λhe=>?_) (λhe=>?_)
 ·refine gi (by decide) (.inr (.inr (.inr (.inr (.inr (.inr (.inr (.inr ?_)))))))) hS
  by_cases hm:kW L
  ·right
   refine Classical.byContradiction λhx=>?_
   have:q=true:=hq.2 ⟨hm,λr hr=>by
    refine⟨Int.not_le.1 λh=>hx ⟨r,hr,.inl h⟩,Int.not_lt.1 λh=>hx ⟨r,hr,.inr h⟩⟩⟩
   rw[he]at this;cases this
  ·exact .inl hm
 obtain⟨hm,iD⟩:=hq.1 he
 refine Cc (dW3 chunk) ?_;clear hS
 rintro r post nL w hS
 rcases nL with ⟨h7,rfl,rfl⟩|⟨h7,wp,rfl,rfl⟩
 ·(try simp only[app]at hS);refine Gp ?_
  refine za (λ_=>?_) (λh=>absurd (by decide) h)
  exact gi (by decide) (.inr (.inr (.inr (.inr (.inr (.inr (by omega))))))) hS
 ·(try simp only[app]at hS);refine Gp ?_
  refine za (λh=>absurd rfl h) (λ_=>?_)
  refine yz (cells:=[eF wp]) (by simp[lr,Value.cells,eF]) ?_
  refine Cc (yB H v L hv hn) ?_;clear hS
  rintro u post rfl w hS
  try simp only[app]at hS
  obtain⟨H1,fF,hR,hS⟩:=zu (H:=H) (v:=u) hS Xp
  have hu:u.oneCell'=true:=hR.one
  refine yz (cells:=[eF wp,.int .i64 n,.int .i64 late,.int .i64 aI,u]) (by simp[lr,show ∀n,(Value.int .i64 n).cells = #[.int .i64 n] from λ_=>rfl,show ∀v,(Value.agg #[v]).cells = #[v] from λ_=>rfl,vQ hu]) ?_
  refine⟨_,rfl,zI hS λmp w hS=>?_⟩
  have cR:¬tq n late chunk aI L:=by
   rintro (h|h|h|h|h|h|h|h|h|⟨r,hr,h⟩)
   ·exact h1 h
   ·exact h2 h
   ·exact h3 h
   ·rw[Int.toNat_natCast]at h;exact h4 h
   ·exact h5 h
   ·exact h6 h
   ·omega
   ·omega
   ·exact h hm
   ·have:=iD r hr;omega
  have hS:=gF.put (wp:=wp) ⟨n,late,aI,L,m9 chunk⟩ u hR hS Xp
  exact⟨_,.inr ⟨cR,mp,wp,H1,fF,rfl,rfl⟩,aR hS⟩
section
variable (mp wp:Nat) (H:bw) (m:h_)
theorem qC:SP 44 [eF mp] [.ob (gF mp wp H m)] (eW (.int .i64 m.at_) [.ob (gF mp wp H m)]):=by
 intro W F w hS;apply dRg;delta NQ bF;(try simp only[app]at hS)
 obtain⟨rv,hr,hS⟩:=gF.iff.1 hS
 refine Gp ?_
 exact⟨_,⟨rfl,rfl⟩,SL.b_ (gF.put m rv hr hS Xp) Xi⟩
theorem yJ(hn:m.reqs.length<=1000):SP 49 [eF mp] [.ob (gF mp wp H m),.mem H] (λu post=>post=[.ob (bI u 125 7 m.reqs.length (m.reqs.map ka).flatten),.ob (gF mp wp H m),.mem H]):=by
 intro W F w hS;apply dRl;delta NV bF;(try simp only[app]at hS)
 obtain⟨rv,hr,hS⟩:=gF.iff.1 hS
 refine Gp ?_
 refine Cc (yB H rv m.reqs hr hn) ?_;clear hS
 rintro u post rfl w hS
 try simp only[app]at hS
 exact⟨_,rfl,SL.b_ (gF.put m rv hr hS Xp) Xi⟩
theorem ZA:SP 47 [agg [eF wp]] [] (eW (eF wp) []):=by
 intro W F w hS;apply dRj;delta NT a_;(try simp only[app]at hS)
 refine zC hS λxb w hS=>?_
 refine Gp ?_
 exact fw hS
theorem qD(k:ir)(x:mu):SP 53 [agg [eF wp],agg (iG x)] [.ob (iE wp k)] (eW (.bool (k.waits x.kind x.mark)) [.ob (iE wp k)]):=by
 intro W F w hS;apply dRp;delta NZ a_;(try simp only[app]at hS)
 refine zC hS λxb w hS=>?_
 refine zC hS λyb w hS=>?_
 refine Gp ?_
 refine Cg (Qs wp k x) λw hS=>?_
 exact fw hS
theorem WS(b:Nat)(t:Int)(r:Rq):SP 260 ([agg (ka r)]++(#[eF b]:Array Value).toList) [.pt b [.int .i64 t] 3] (eW (.bool (decide (r.table=t))) [.pt b [.int .i64 t] 3]):=by
 intro W F w hS;apply dw0;delta Mu a_;(try simp only[app]at hS)
 refine zC hS λxb w hS=>?_
 unfold ka at hS
 refine Gp ?_
 exact fw hS
theorem V8{α:Type}{l:List α}{q:α->Bool}:decide (0<=nj (l.findIdx? q))=l.any q:=by
 cases h:l.findIdx? q with
 | none=>
  have:=List.findIdx?_eq_none_iff.1 h
  rw[show l.any q=false by rw[List.any_eq_false];exact λx hx=>by rw[this x hx];decide];rfl
 | some i=>
  obtain⟨hi,hk,_⟩:=List.findIdx?_eq_some_iff_getElem.1 h
  rw[show l.any q=true from List.any_eq_true.2 ⟨_,List.getElem_mem hi,hk⟩]
  exact decide_eq_true (by simp only[nj];omega)
theorem Yt(hn:m.reqs.length<=1000)(t:Int):SP 198 [eF mp,.int .i64 t] [.ob (gF mp wp H m),.mem H] (eW (.bool (m.captured t)) [.ob (gF mp wp H m),.mem H]):=by
 intro W F w hS;apply c_b;delta Lr aF bF cw ai;(try simp only[app]at hS)
 obtain⟨rv,hr,hS⟩:=gF.iff.1 hS
 unfold h_.captured
 refine⟨rfl,zI hS λb w hS=>?_⟩
 refine Gn λw hS=>?_
 refine za (λh=>?_) (λh1=>?_)
 ·rw[decide_eq_false (by omega),Bool.false_and]
  exact⟨_,⟨rfl,rfl⟩,SL.b_ (gF.put m rv hr hS Xp) Xi⟩
 refine b9 (λh=>?_) (λh2=>?_)
 ·rw[decide_eq_false (by omega),Bool.false_and]
  exact⟨_,⟨rfl,rfl⟩,SL.b_ (gF.put m rv hr hS Xp) Xi⟩
 rw[decide_eq_true (show 0<=t/\t<m.tables by omega),Bool.true_and]
 refine Gn λw hS=>?_
 refine Uz (by omega) ?_
 refine b9 (λh=>?_) (λh3=>?_)
 ·rw[decide_eq_true h,Bool.true_or]
  exact⟨_,⟨rfl,rfl⟩,SL.b_ (gF.put m rv hr hS Xp) Xi⟩
 rw[decide_eq_false h3,Bool.false_or]
 refine Gp ?_
 have hC:SP 259 [rv,.func (.func 260) #[] #[eF b]] [.pt b [.int .i64 t] 3,.mem H] (eW (.bool (m.reqs.any λr=>decide (r.table=t))) [.pt b [.int .i64 t] 3,.mem H]):=by
  intro W F w hS;apply dwy;delta Ms ai;(try simp only[app]at hS)
  refine Cg (bwx kU rfl (λv0 v1 w R h=>dIc v0 v1 w R h) (λr=>WS b t r) rv m.reqs hr (by omega)) λw hS=>?_
  rw[V8]
  exact⟨_,⟨rfl,rfl⟩,hS⟩
 refine Cg (hC) λw hS=>?_
 exact⟨_,⟨rfl,rfl⟩,SL.b_ (gF.put m rv hr hS Xp) Xi⟩
end
abbrev pe(v:Value)(l:List rF):Chunk:=.ob (bI v 295 7 l.length (l.map sx).flatten)
abbrev BC(v:Value)(l:List pU):Chunk:=.ob (bI v 123 5 l.length (l.map oO).flatten)
theorem Y1(mp wp:Nat)(H:bw)(m:h_)(hm:m.Ok)(s:ByteArray)(hs:s.size<=1000)(aI:Int):
  SP 197 [eF mp,.string s,.int .i64 aI] [.ob (gF mp wp H m),.mem H] (λv post=>∃H',H.le H'/\post=[pe v (m.accept s aI).2,.ob (gF mp wp H' {m with reqs:=(m.accept s aI).1}),.mem H']):=by
 intro W F w hS;apply c_a;delta Lq aF bF a_ fR dW ai bR;(try simp only[app]at hS)
 have vF:=hm.reqs.1
 have iT:∀{w:World},m.accept s aI=(m.reqs,[])->SL W (.ob (gF mp wp H m)::.mem H::F) w->∃post,(∃H',H.le H'/\post=[pe (.slice none 0 0) (m.accept s aI).2,.ob (gF mp wp H' {m with reqs:=(m.accept s aI).1}),.mem H'])/\SL W (app post F) w:=λe hS=>by
  rw[e]
  have hS:SL W (pe (.slice none 0 0) []::.ob (gF mp wp H m)::.mem H::F) _:=bI.nil hS
  exact⟨_,⟨H,bw.le_refl H,rfl⟩,hS⟩
 refine Cc (QF s (by omega)) ?_;clear hS
 rintro _ post ⟨rfl,rfl⟩ w hS
 try simp only[app]at hS
 unfold FB
 cases hp:uX s with
 | none=>
  simp only[Option.getD_none,Option.isSome_none]
  refine Gm λb w hS=>?_
  refine zw ?_
  exact iT (by unfold h_.accept;rw[hp]) (aR hS)
 | some g=>
  obtain⟨t,wt⟩:=g
  simp only[Option.getD_some,Option.isSome_some]
  refine Gm λb w hS=>?_
  refine zt ?_
  obtain⟨rv,hr,hS⟩:=gF.iff.1 (SL.b_ hS (t:=.ob (gF mp wp H m)::.pt b [.int .i64 t,.int .i64 wt] 351::.mem H::F) Xi)
  refine b9 (λh=>?_) (λh1=>?_)
  ·exact iT (by unfold h_.accept;rw[hp];simp only;rw[if_pos h]) (SL.b_ (gF.put m rv hr hS Xp) Xi)
  refine Gn λw hS=>?_
  have vw:m.accept s aI=match sn m.reqs t wt aI with
   | none=>(m.reqs,[])
   | some L=>(L,[⟨1,L.length,t,wt,aI,0,false⟩]):=by
   unfold h_.accept;rw[hp];simp only;rw[if_neg h1];rfl
  refine Cc (Y3 H rv m.reqs t wt aI hr (by omega)) ?_;clear hS
  rintro u post ⟨H1,fF,rfl,hq⟩ w hS
  try simp only[app]at hS
  cases ha:sn m.reqs t wt aI with
  | none=>
   rw[ha]at hq vw
   subst hq
   refine Gp ?_
   refine zw ?_
   have hS:=gF.put m rv (hr.mono fF) hS Xp
   rw[vw]
   have hS:SL W (pe (.slice none 0 0) []::.ob (gF mp wp H1 m)::_) _:=bI.nil hS
   exact⟨_,⟨H1,fF,rfl⟩,aR hS⟩
  | some L=>
   rw[ha]at hq vw
   obtain⟨x,rfl,hx⟩:=hq
   have ox:x.oneCell'=true:=hx.one
   refine Gp ?_
   refine zt ?_
   refine Gn λw hS=>?_
   refine zn hx ?_
   refine Gm λnb w hS=>?_
   rw[vw]
   have hS:=gF.put (mp:=mp) (wp:=wp) {m with reqs:=L} x hx hS Xp
   have hS:SL W (pe (.slice (some ⟨nb,0,none⟩) 1 1) [⟨1,L.length,t,wt,aI,0,false⟩]::.ob (gF mp wp H1 {m with reqs:=L})::.mem H1::F) w:=bI.full (sz:=7) rfl (SL.b_ hS (t:=.pt nb [.int .i64 1,.int .i64 L.length,.int .i64 t,.int .i64 wt,.int .i64 aI,.int .i64 0,.bool false] 295::.ob (gF mp wp H1 {m with reqs:=L})::.mem H1::F) Xi)
   exact⟨_,⟨H1,fF,rfl⟩,aR hS⟩
theorem F3(aI:Int):∀(l:List ByteArray) (m:h_) (s:ByteArray),m.jP aI (l++[s])=({(m.jP aI l).1 with reqs:=((m.jP aI l).1.accept s aI).1},(m.jP aI l).2++((m.jP aI l).1.accept s aI).2)
 | [],m,s=>by simp[h_.jP]
 | x::l,m,s=>by
  show (let r:=m.accept x aI;let y:=h_.jP {m with reqs:=r.1} aI (l++[s]);(y.1,r.2++y.2))=_
  simp only
  rw[F3 aI l]
  simp[h_.jP,List.append_assoc]
theorem ON{m:h_}(h:kW m.reqs)(s:ByteArray)(aI:Int):kW (m.accept s aI).1/\(m.accept s aI).2.length<=1:=by
 unfold h_.accept
 split
 ·exact⟨h,by simp⟩
 ·split
  ·exact⟨h,by simp⟩
  ·split
   ·exact⟨h,by simp⟩
   ·rename_i L hL
    exact⟨OM hL,by simp⟩
theorem BL(aI:Int):∀(l:List ByteArray) {m:h_},m.Ok->(m.jP aI l).1.Ok/\(m.jP aI l).2.length<=l.length/\(m.jP aI l).1.cF=m.cF/\(m.jP aI l).1.tables=m.tables/\(m.jP aI l).1.late=m.late/\(m.jP aI l).1.at_=m.at_
 | [],m,h=>⟨h,by simp[h_.jP],rfl,rfl,rfl,rfl⟩
 | x::l,m,h=>by
  have h1:=ON h.reqs x aI
  have h2:=BL aI l (m:={m with reqs:=(m.accept x aI).1}) ⟨h1.1,h.t1,h.rows,h.mO⟩
  unfold h_.jP
  simp only
  refine⟨h2.1,?_,h2.2.2⟩
  rw[List.length_append,List.length_cons]
  have:=h2.2.1
  omega
theorem bWv{α:Type}{enc:α->List Value}{v:Value}{t:TypeId}{sz:Nat}{A B:List α}:bI v t sz (A.length+B.length) ((A.map enc).flatten++(B.map enc).flatten)=bI v t sz (A++B).length ((A++B).map enc).flatten:=by
 rw[List.length_append,List.map_append,List.flatten_append]
def JN(mp wp:Nat)(H:bw)(y:h_ × si)(u:Value)(post:List Chunk):Prop:=∃(x:pd) (H':bw),H.le H'/\u=agg (kT x)/\pc H' x y.2/\post=[.ob (gF mp wp H' y.1),.mem H']
theorem Y2(mp wp:Nat)(H:bw)(m:h_)(hm:m.Ok)(x:mu)(t:gW)(hx:kS H x t)(hs:t.signals.length<=2)(HI:∀s∈t.signals,s.size<=40)(hc:t.changes.length<=16):
  SP 119 [eF mp,agg (iG x)] [.ob (gF mp wp H m),.mem H] (JN mp wp H (m.vm t)):=by
 intro W F w hS;apply cI6;delta Kf aF a_ aW d_ ai dw bR;(try simp only[app]at hS)
 refine zC hS λxb w hS=>?_
 unfold iG at hS
 rw[hx.aI]at hS
 have nz:=hx.cv
 have uV:=hx.sv
 refine Gm λzb w hS=>?_
 refine Gm λyb w hS=>?_
 refine zn uV ?_
 have hS:SL W (pe (.slice none 0 0) []::_) w:=bI.nil hS
 have hS:=SL.b_ hS (t:=pe (.slice none 0 0) []::.ob (gF mp wp H m)::.pt yb [.int .i64 t.aI,.slice none 0 0,.slice none 0 0] 100::.pt zb [.int .i64 0,.slice none 0 0,.slice none 0 0] 100::.pt xb [.int .i64 t.aI,.int .i64 x.kind,x.cv,x.sv,.int .i64 x.mark] 39::.mem H::F) Xi
 refine⟨λus w=>∃(i:Nat) (nv:Value) (H1:bw),us=[.int .i64 i]/\i<=t.signals.length/\H.le H1/\SL W (pe nv (m.jP t.aI (t.signals.take i)).2::.ob (gF mp wp H1 (m.jP t.aI (t.signals.take i)).1)::.pt yb [.int .i64 t.aI,.slice none 0 0,nv] 100::.pt zb [.int .i64 0,.slice none 0 0,.slice none 0 0] 100::.pt xb [.int .i64 t.aI,.int .i64 x.kind,x.cv,x.sv,.int .i64 x.mark] 39::.mem H1::F) w,
  λus _=>match us with|[.int _ i]=>(t.signals.length-i).toNat|_=>0,⟨0,.slice none 0 0,H,rfl,by omega,bw.le_refl H,hS⟩,?_⟩
 clear hS
 rintro u9 w ⟨i,nv,H1,dR,hi,fF,hS⟩
 cases dR
 refine b9 (λh=>?_) (λh=>?_)
 ·have b8:i<t.signals.length:=by omega
  have G_:=BL t.aI (t.signals.take i) hm
  have kK:t.signals.take (i+1)=t.signals.take i++[t.signals[i]]:=List.take_succ_eq_append_getElem b8
  have mX:=F3 t.aI (t.signals.take i) m t.signals[i]
  rw[<- kK]at mX
  have B8:=HI _ (List.getElem_mem b8)
  have iZ:(t.signals.take i).length<=2:=by rw[List.length_take];omega
  refine yn hS Xh (uV.mono fF) b8 (u:=.string t.signals[i]) (by simp[b8]) ?_
  refine Gn λw hS=>?_
  refine Cc (Y1 mp wp H1 (m.jP t.aI (t.signals.take i)).1 G_.1 t.signals[i] (by omega) t.aI) ?_;clear hS
  rintro v post ⟨H2,f',rfl⟩ w hS
  try simp only[app]at hS
  have ta:=(ON G_.1.reqs t.signals[i] t.aI).2
  have EE:=G_.2.1
  refine Gp ?_
  refine zy (n:=(m.jP t.aI (t.signals.take i)).2.length) (m:=((m.jP t.aI (t.signals.take i)).1.accept t.signals[i] t.aI).2.length) (cells:=((m.jP t.aI (t.signals.take i)).2.map sx).flatten) (cs:=(((m.jP t.aI (t.signals.take i)).1.accept t.signals[i] t.aI).2.map sx).flatten) hS Xr (rz hS Xh) (l8 BU _) rfl (pD PV _) (by omega) (by omega) λv2 w hS=>?_
  have o1:v2.oneCell'=true:=bI.one hS
  rw[bWv,show (m.jP t.aI (t.signals.take i)).2++((m.jP t.aI (t.signals.take i)).1.accept t.signals[i] t.aI).2=(m.jP t.aI (t.signals.take (i+1))).2 by rw[mX]]at hS
  refine Gn λw hS=>?_
  rw[show (⟨(m.jP t.aI (t.signals.take i)).1.tables,(m.jP t.aI (t.signals.take i)).1.late,(m.jP t.aI (t.signals.take i)).1.at_,((m.jP t.aI (t.signals.take i)).1.accept t.signals[i] t.aI).1,(m.jP t.aI (t.signals.take i)).1.cF⟩:h_)=(m.jP t.aI (t.signals.take (i+1))).1 by rw[mX]]at hS
  exact⟨⟨i+1,v2,H2,rfl,by omega,bw.le_trans fF f',aR hS⟩,by dsimp only;omega⟩
 have Hn:t.signals.take i=t.signals:=List.take_of_length_le (by omega)
 rw[Hn]at hS
 obtain⟨tV,AZ,H_,HV,iZ,kM⟩:=BL t.aI t.signals hm
 have kN:m.vm t=({(m.jP t.aI t.signals).1 with cF:=(m.jP t.aI t.signals).1.cF.tA t.changes},⟨t.aI,nk (m.jP t.aI t.signals).1 t.aI t.changes,(m.jP t.aI t.signals).2⟩):=rfl
 rw[kN]
 generalize m.jP t.aI t.signals=y at *
 obtain⟨m1,N⟩:=y
 simp only at hS tV AZ ⊢
 clear H_ HV iZ kM kN
 refine Gp ?_
 refine zn (nz.mono fF) ?_
 have hS:SL W (BC (.slice none 0 0) (nk m1 t.aI (t.changes.take 0))::_) w:=bI.nil hS
 refine⟨λus w=>∃(i:Nat) (ov:Value),us=[.int .i64 i]/\i<=t.changes.length/\SL W (BC ov (nk m1 t.aI (t.changes.take i))::pe nv N::.ob (gF mp wp H1 m1)::.pt yb [.int .i64 t.aI,ov,nv] 100::.pt zb [.int .i64 0,.slice none 0 0,.slice none 0 0] 100::.pt xb [.int .i64 t.aI,.int .i64 x.kind,x.cv,x.sv,.int .i64 x.mark] 39::.mem H1::F) w,
  λus _=>match us with|[.int _ i]=>(t.changes.length-i).toNat|_=>0,⟨0,.slice none 0 0,rfl,by omega,aR hS⟩,?_⟩
 clear hS
 rintro v33 w ⟨i,ov,dR,hi,hS⟩
 cases dR
 refine b9 (λh=>?_) (λh=>?_)
 ·have b8:i<t.changes.length:=by omega
  have Ia:t.changes[i]?=some t.changes[i]:=List.getElem?_eq_getElem b8
  have kK:t.changes.take (i+1)=t.changes.take i++[t.changes[i]]:=List.take_succ_eq_append_getElem b8
  have i_:nk m1 t.aI (t.changes.take (i+1))=nk m1 t.aI (t.changes.take i)++(if m1.captured t.changes[i].table=true then [⟨t.aI,t.changes[i].table,t.changes[i].key,t.changes[i].gone,t.changes[i].val⟩] else []):=by
   unfold nk
   rw[kK,List.filter_append,List.map_append]
   congr 1
   rw[List.filter_cons]
   split<;>simp
  have A0:(nk m1 t.aI (t.changes.take i)).length<=16:=by
   unfold nk
   rw[List.length_map]
   have:=List.length_filter_le (λc:iy=>m1.captured c.table) (t.changes.take i)
   rw[List.length_take]at this
   omega
  refine zK hS Xh mP (nz.mono fF) Ia b8 ?_
  generalize t.changes[i]=c at *
  refine Gb λcb w hS=>?_
  refine Cg (Yt mp wp H1 m1 (by have:=tV.reqs.1;omega) c.table) λw hS=>?_
  refine yO (λhq=>?_) (λhq=>?_)
  ·rw[if_pos hq]at i_
   refine Gm λob w hS=>?_
   refine zX (n:=(nk m1 t.aI (t.changes.take i)).length) (xs:=nk m1 t.aI (t.changes.take i)) (y:=⟨t.aI,c.table,c.key,c.gone,c.val⟩) (enc:=oO) hS Xr Xh BV (λx=>D0 x) rfl (by omega) (by omega) λv2 w hS=>?_
   have hS:=hS.o9 (x:=(⟨t.aI,c.table,c.key,c.gone,c.val⟩:pU))
   rw[<- i_]at hS
   have o1:v2.oneCell'=true:=bI.one hS
   refine Gn λw hS=>?_
   exact⟨⟨i+1,v2,rfl,by omega,aR hS⟩,by dsimp only;omega⟩
  ·rw[if_neg (by simp[hq]),List.append_nil]at i_
   rw[<- i_]at hS
   refine Gp ?_
   exact⟨⟨i+1,ov,rfl,by omega,aR hS⟩,by dsimp only;omega⟩
 have Hl:t.changes.take i=t.changes:=List.take_of_length_le (by omega)
 rw[Hl]at hS
 obtain⟨rv,hr,hS⟩:=gF.iff.1 (SL.b_ hS (t:=.ob (gF mp wp H1 m1)::BC ov (nk m1 t.aI t.changes)::pe nv N::.pt yb [.int .i64 t.aI,ov,nv] 100::.pt zb [.int .i64 0,.slice none 0 0,.slice none 0 0] 100::.pt xb [.int .i64 t.aI,.int .i64 x.kind,x.cv,x.sv,.int .i64 x.mark] 39::.mem H1::F) Xi)
 refine Gn λw hS=>?_
 refine Cc (dW7 wp m1.cF H1 x.cv t.changes (nz.mono fF) (by have:=tV.rows;omega) (by omega)) ?_;clear hS
 rintro _ post ⟨⟨q,rfl⟩,rfl⟩ w hS
 try simp only[app]at hS
 have hS:=gF.put (mp:=mp) {m1 with cF:=m1.cF.tA t.changes} rv hr hS Xp
 obtain⟨H2,f',Cd,hS⟩:=zu (H:=H1) (v:=nv) hS Xp
 obtain⟨H3,jA,Ce,hS⟩:=zu (H:=H2) (v:=ov) hS Xp
 have on:nv.oneCell'=true:=Cd.one
 have oo:ov.oneCell'=true:=Ce.one
 refine Gp ?_
 refine zB (vs:=[.int .i64 t.aI,ov,nv]) hS Xu rfl rfl (y' oo on) λw hS=>?_
 refine Gp ?_
 have AK:=bw.le_trans f' jA
 have hS:=gF.iK (m:={m1 with cF:=m1.cF.tA t.changes}) AK hS Xr
 exact⟨_,⟨⟨t.aI,ov,nv⟩,H3,bw.le_trans fF AK,rfl,⟨rfl,Ce,Cd.mono jA⟩,rfl⟩,aR hS⟩
theorem w4.all{wp:Nat}{k:ir}{H:bw}{mark aI:Int}{u:Value}{post:List Chunk}(h:w4 wp k H mark aI u post):∃(x:pd) (H':bw) (q:Bool) (k':ir),H.le H'/\u= .tuple #[agg (kT x),.bool q]/\post=[.ob (iE wp k'),.mem H']/\(∀v∈kT x,v.oneCell'=true) /\
  ((q=false/\k.high mark aI=(k',none))\/(q=true/\∃t,k.high mark aI=(k',some t)/\pc H' x t)):=by
 unfold w4 at h
 have e:k.high mark aI=(if k.tT mark aI then (k,none) else (m9 k.n,some ⟨aI,kZ k aI,[wQ k]⟩)):=rfl
 by_cases hb:k.tT mark aI
 ·rw[if_pos hb]at e
  rw[e]at h ⊢
  obtain⟨rfl,rfl⟩:=h
  exact⟨uf,H,false,k,bw.le_refl H,rfl,rfl,by simp[kT,Value.oneCell'],.inl ⟨rfl,rfl⟩⟩
 ·rw[if_neg hb]at e
  rw[e]at h ⊢
  obtain⟨x,H',hh,rfl,hx,rfl⟩:=h
  exact⟨x,H',true,_,hh,rfl,rfl,uD hx,.inr ⟨rfl,_,rfl,hx⟩⟩
theorem R8{k k':ir}{mark aI:Int}{t:si}(h:k.high mark aI=(k',some t)):t=⟨aI,kZ k aI,[wQ k]⟩:=by
 unfold ir.high at h
 split at h
 ·cases h
 ·cases h;rfl
theorem QD(mp wp:Nat)(H:bw)(m:h_)(hm:m.Ok)(x:mu)(t:gW)(hx:kS H x t)(hid : -9223372036854775808<=m.cF.id/\m.cF.id<=9223372036854775807):
  SP 120 [eF mp,agg (iG x)] [.ob (gF mp wp H m),.mem H] (JN mp wp H (m.high t)):=by
 intro W F w hS;apply cI8;delta Kh bF a_ fR aW d_ dW ai bR;(try simp only[app]at hS)
 have hn:=hm.rows
 have vF:=hm.reqs.1
 refine zC hS λxb w hS=>?_
 unfold iG at hS
 rw[hx.aI,hx.mark]at hS
 obtain⟨rv,hr,hS⟩:=gF.iff.1 (SL.b_ hS (t:=.ob (gF mp wp H m)::.pt xb [.int .i64 t.aI,.int .i64 x.kind,x.cv,x.sv,.int .i64 t.mark] 39::.mem H::F) Xi)
 refine Gm λzb w hS=>?_
 refine⟨λus w=>∃(yb:Nat) (y:pd) (H1:bw) (q:Bool) (k':ir),us=[eF yb,.bool q]/\H.le H1/\(∀v∈kT y,v.oneCell'=true)/\((q=false/\m.cF.high t.mark t.aI=(k',none))\/(q=true/\∃z,m.cF.high t.mark t.aI=(k',some z)/\pc H1 y z)) /\
   SL W (.pt yb (kT y) 100::.pt zb [.int .i64 0,.slice none 0 0,.slice none 0 0] 100::.pt xb [.int .i64 t.aI,.int .i64 x.kind,x.cv,x.sv,.int .i64 t.mark] 39::.pt mp (vP m wp rv) 111::.ob (iE wp k')::.mem H1::F) w,?_,?_⟩
 ·refine Gn λw hS=>?_
  refine⟨?_,?_⟩
  ·refine Cc (Yp wp m.cF H t.mark t.aI (by omega)) ?_;clear hS
   rintro _ post hq w hS
   obtain⟨y,H1,q,k',fF,rfl,rfl,rj,hc⟩:=hq.all
   try simp only[app]at hS
   refine Gm λyb w hS=>?_
   refine zB hS Xu rfl rfl rj λw hS=>?_
   exact⟨yb,y,H1,q,k',rfl,fF,rj,hc,aR hS⟩
  ·refine Gb λyb w hS=>?_
   refine Cc (Yp wp m.cF H t.mark t.aI (by omega)) ?_;clear hS
   rintro _ post hq w hS
   obtain⟨y,H1,q,k',fF,rfl,rfl,rj,hc⟩:=hq.all
   (try simp only[app]at hS);refine Gp ?_
   refine zB hS Xu rfl rfl rj λw hS=>?_
   exact⟨yb,y,H1,q,k',rfl,fF,rj,hc,aR hS⟩
 clear hS
 rintro v5 v6 w ⟨yb,y,H1,q,k',dR,fF,rj,hc,hS⟩
 cases dR
 rcases hc with ⟨rfl,hh⟩|⟨rfl,z,hh,hz⟩
 ·refine zQ (zw ?_)
  refine Gn λw hS=>?_
  have e:m.high t=(m,⟨t.aI,[],[]⟩):=by unfold h_.high;rw[hh]
  have hk:k'=m.cF:=by
   unfold ir.high at hh
   split at hh
   ·cases hh;rfl
   ·cases hh
  subst hk
  rw[e]
  have hS:=gF.put m rv (hr.mono fF) hS Xp
  exact⟨_,⟨⟨t.aI,.slice none 0 0,.slice none 0 0⟩,H1,fF,rfl,⟨rfl,fW.nil _ _,fW.nil _ _⟩,rfl⟩,aR hS⟩
 ·refine zQ (zt ?_)
  have Ic:=R8 hh
  subst Ic
  have sH:=hz.aI
  have HF:=hz.Bd
  have CI:=hz.ops
  have hS:SL W (.pt yb [.int .i64 y.aI,y.ov,y.nv] 100::_) w:=hS
  refine Gp ?_
  refine zK (j:=0) hS Xh BU HF (x:=wQ m.cF) rfl (by simp) ?_
  refine Gb λnb w hS=>?_
  refine Cc (qF H1 rv m.reqs m.cF.id m.cF.iJ m.cF.last (hr.mono fF) (by omega) hid) ?_;clear hS
  rintro u post ⟨H2,f',rfl,hq⟩ w hS
  try simp only[app]at hS
  have iS:=bw.le_trans fF f'
  cases nY:oA m.reqs m.cF.id m.cF.iJ m.cF.last with
  | none=>
   rw[nY]at hq
   subst hq
   have e:m.high t=({m with cF:=k'},⟨t.aI,kZ m.cF t.aI,[]⟩):=by unfold h_.high;rw[hh];simp only;rw[nY]
   rw[e]
   refine Gp ?_
   refine zw ?_
   refine Gn λw hS=>?_
   have oo:y.ov.oneCell'=true:=CI.one
   refine zB (vs:=[.int .i64 y.aI,y.ov,.slice none 0 0]) hS Xu rfl rfl (y' oo rfl) λw hS=>?_
   refine Gp ?_
   have hS:=gF.put (mp:=mp) {m with cF:=k'} rv (hr.mono iS) hS Xp
   exact⟨_,⟨⟨y.aI,y.ov,.slice none 0 0⟩,H2,iS,rfl,⟨sH,CI.mono f',fW.nil _ _⟩,rfl⟩,aR hS⟩
  | some L=>
   rw[nY]at hq
   obtain⟨rx,rfl,CQ⟩:=hq
   have e:m.high t=({m with cF:=k',reqs:=L},⟨t.aI,kZ m.cF t.aI,[wQ m.cF]⟩):=by unfold h_.high;rw[hh];simp only;rw[nY]
   rw[e]
   have ox:rx.oneCell'=true:=CQ.one
   refine Gp ?_
   refine zt ?_
   refine Gn λw hS=>?_
   refine zB (vs:=[.int .i64 y.aI,y.ov,y.nv]) hS Xu rfl rfl rj λw hS=>?_
   refine Gp ?_
   have hS:=gF.put (mp:=mp) {m with cF:=k',reqs:=L} rx CQ hS Xp
   exact⟨_,⟨y,H2,iS,rfl,hz.mono f',rfl⟩,aR hS⟩
def JZ(mp wp:Nat)(H:bw)(y:h_ × (si × Int))(u:Value)(post:List Chunk):Prop:=∃(x:pd) (H':bw),H.le H'/\u= .tuple #[agg (kT x),.int .i64 y.2.2]/\pc H' x y.2.1/\post=[.ob (gF mp wp H' y.1),.mem H']
theorem yV(mp wp:Nat)(H:bw)(m:h_)(hm:m.Ok)(x:mu)(t:gW)(hx:kS H x t)(hid : -9223372036854775808<=m.cF.id/\m.cF.id<=9223372036854775807):
  SP 45 [eF mp,agg (iG x)] [.ob (gF mp wp H m),.mem H] (JZ mp wp H (m.take t)):=by
 intro W F w hS;apply dRh;delta NR aF bF a_ fR d_ dW ai bR;(try simp only[app]at hS)
 have kM:=hm.mO
 refine zC hS λxb w hS=>?_
 refine Gm λzb w hS=>?_
 refine Cg (yx H x t hx) λw hS=>?_
 unfold h_.take
 refine zz (λh=>?_) (λh=>?_)
 ·rw[if_pos h]
  refine Gn λw hS=>?_
  exact⟨_,⟨uf,H,bw.le_refl H,rfl,⟨rfl,fW.nil _ _,fW.nil _ _⟩,rfl⟩,aR hS⟩
 rw[if_neg (by simp[h])]
 obtain⟨m1,m2,m3,m4,m5,m6,m7⟩:=nB h
 have hl:=hx.aI
 have hk:=hx.kind
 have td:=hx.mark
 obtain⟨rv,hr,hS⟩:=gF.iff.1 (SL.b_ hS (t:=.ob (gF mp wp H m)::.pt zb [.int .i64 0,.slice none 0 0,.slice none 0 0] 100::.pt xb (iG x) 39::.mem H::F) Xi)
 refine Gn λw hS=>?_
 rw[hl]
 have xX:∀{w:World},(t.aI≠m.at_+1\/m.cF.waits t.kind t.mark=true)->SL W (.pt mp (vP m wp rv) 111::.ob (iE wp m.cF)::.mem H::F) w->∃post,JZ mp wp H (if t.aI≠m.at_+1\/m.cF.waits t.kind t.mark=true then (m,(⟨0,[],[]⟩,10))
   else if t.kind=1 then let r:=({m with at_:=t.aI}:h_).vm t;(r.1,(r.2,0))
   else if t.kind=3 then let r:=({m with at_:=t.aI}:h_).high t;(r.1,(r.2,0))
   else ({m with at_:=t.aI,cF:=m.cF.low t.mark},(⟨t.aI,[],[]⟩,0))) (.tuple #[agg (kT uf),.int .i64 10]) post/\SL W (app post F) w:=λh hS=>by
  rw[if_pos h]
  have hS:=gF.put m rv hr hS Xp
  exact⟨_,⟨uf,H,bw.le_refl H,rfl,⟨rfl,fW.nil _ _,fW.nil _ _⟩,rfl⟩,aR hS⟩
 refine za (λh1=>?_) (λh1=>?_)
 ·refine Gn λw hS=>?_
  exact xX (.inl h1) (aR hS)
 refine Gp ?_
 refine Yk (vs:=[eF wp]) hS Xh rfl (λj v e=>by
  match j,e with
  | 0,e=>exact e) ?_
 refine Gp ?_
 refine Cg (qD wp m.cF x) λw hS=>?_
 rw[hk,td]
 refine yO (λh2=>?_) (λh2=>?_)
 ·refine Gn λw hS=>?_
  exact xX (.inr h2) (aR hS)
 clear xX
 rw[if_neg (show ¬(t.aI≠m.at_+1\/m.cF.waits t.kind t.mark=true) by rw[h2];simp;omega)]
 refine Gn λw hS=>?_
 rw[hl]at hS
 have hS:SL W (.pt mp (vP {m with at_:=t.aI} wp rv) 111::.ob (iE wp m.cF)::.pt zb [.int .i64 0,.slice none 0 0,.slice none 0 0] 100::.pt xb (iG x) 39::.mem H::F) w:=aR hS
 have cR:({m with at_:=t.aI}:h_).Ok:=⟨hm.reqs,hm.t1,hm.rows,by show 0<=t.aI/\t.aI<=1099511627776;omega⟩
 rw[hk]
 refine za (λh3=>?_) (λh3=>?_)
 ·rw[if_pos h3]
  have hS:=gF.put (mp:=mp) {m with at_:=t.aI} rv hr hS Xp
  refine Gp ?_
  refine Cc (Y2 mp wp H {m with at_:=t.aI} cR x t hx m5 m7 m4) ?_;clear hS
  rintro _ post ⟨y,H1,fF,rfl,hy,rfl⟩ w hS
  try simp only[app]at hS
  refine zB hS Xu rfl rfl (uD hy) λw hS=>?_
  refine Gp ?_
  exact⟨_,⟨y,H1,fF,rfl,hy,rfl⟩,aR hS⟩
 rw[if_neg h3]
 refine b9 (λh4=>?_) (λh4=>?_)
 ·rw[if_pos h4]
  have hS:=gF.put (mp:=mp) {m with at_:=t.aI} rv hr hS Xp
  refine Gp ?_
  refine Cc (QD mp wp H {m with at_:=t.aI} cR x t hx hid) ?_;clear hS
  rintro _ post ⟨y,H1,fF,rfl,hy,rfl⟩ w hS
  try simp only[app]at hS
  refine zB hS Xu rfl rfl (uD hy) λw hS=>?_
  refine Gp ?_
  exact⟨_,⟨y,H1,fF,rfl,hy,rfl⟩,aR hS⟩
 ·rw[if_neg h4]
  refine Gn λw hS=>?_
  rw[td]
  refine Cc (dW2 wp m.cF t.mark) ?_;clear hS
  rintro _ post ⟨⟨q,rfl⟩,rfl⟩ w hS
  refine Gn λw hS=>?_
  rw[hl]
  have hS:=gF.put (mp:=mp) (wp:=wp) {m with at_:=t.aI,cF:=m.cF.low t.mark} rv hr hS Xp
  exact⟨_,⟨⟨t.aI,.slice none 0 0,.slice none 0 0⟩,H,bw.le_refl H,rfl,⟨rfl,fW.nil _ _,fW.nil _ _⟩,rfl⟩,aR hS⟩
def rL(m:Int × Int):List Value:=[.int .i64 m.2,.int .i64 m.1]
theorem AB(m:Int × Int):(rL m).length=2:=rfl
theorem PU(m:Int × Int):∀v∈rL m,v.oneCell'=true:=by simp[rL,Value.oneCell']
structure FZ(d:il)(a:Nat)(pE:Bool)(lf:Int):Prop where
 t:pE=true->d.at_=a/\d.left=lf/\a<d.l.length
 f:pE=false->d.at_=(a:Int)-1/\d.left=0/\a<=d.l.length
structure Dv where
 v:Value
 a:Nat
 pE:Bool
 lf:Int
abbrev vO(x:Dv):List Value:=[x.v,.int .i64 x.a,.bool x.pE,.int .i64 x.lf]
abbrev uu(v:Value)(l:List (Int × Int)):Chunk:=.ob (bI v 363 2 l.length (l.map rL).flatten)
def jU(p:Nat)(d:il):zE:=nr λx:Dv=>zU (FZ d x.a x.pE x.lf) [.pt p (vO x) 289,uu x.v d.l]
theorem jU.iff{W w:World}{l:List Chunk}{p:Nat}{d:il}:SL W (.ob (jU p d)::l) w↔∃x:Dv,FZ d x.a x.pE x.lf/\SL W (.pt p (vO x) 289::uu x.v d.l::l) w:=by
 unfold jU
 simp only[SL.ex,SL.fact,List.cons_append,List.nil_append]
theorem jU.Bj{W w:World}{l F:List Chunk}{p:Nat}{d:il}(v:Value)(a:Nat)(pE:Bool)(lf:Int)(h:FZ d a pE lf)(hS:SL W l w)(k:kI [.pt p [v,.int .i64 a,.bool pE,.int .i64 lf] 289,uu v d.l] l F):SL W (.ob (jU p d)::F) w:=jU.iff.2 ⟨⟨v,a,pE,lf⟩,h,hS.pick k⟩
theorem XJ:SP 116 [] [] (λv post=>∃p:Nat,v= .pointer (some ⟨p,0,none⟩)/\post=[.ob (jU p nW)]):=by
 intro W F w hS;apply cI3;delta Kc ai bR;(try simp only[app]at hS)
 refine yz rfl ?_
 refine⟨_,rfl,zI hS λp w hS=>?_⟩
 have hS:SL W (uu (.slice none 0 0) []::.pt p (vO ⟨.slice none 0 0,0,false,0⟩) 289::F) w:=bI.nil hS
 exact⟨_,⟨p,rfl,rfl⟩,SL.b_ (jU.Bj (d:=nW) (.slice none 0 0) 0 false 0 ⟨(λh=>by cases h),λ_=>⟨rfl,rfl,Nat.le_refl _⟩⟩ hS Xp) Xi⟩
theorem Y0(b:Nat)(id:Int)(m:Int × Int):SP 357 [agg (rL m),.pointer (some ⟨b,0,none⟩)] [.pt b [.int .i64 id] 3] (eW (.bool (decide (m.1=id))) [.pt b [.int .i64 id] 3]):=by
 intro W F w hS;apply dI5;delta NF a_;(try simp only[app]at hS)
 refine zC hS λxb w hS=>?_
 unfold rL at hS
 refine Gp ?_
 (exact fw hS)
theorem ZK(p:Nat)(x:Dv)(l:List (Int × Int))(id:Int)(hn:l.length<=1000):
  SP 312 [.pointer (some ⟨p,0,none⟩),.int .i64 id] [.pt p (vO x) 289,uu x.v l] (eW (.int .i64 (nj (l.findIdx? λm=>decide (m.1=id)))) [.pt p (vO x) 289,uu x.v l]):=by
 intro W F w hS;apply dIe;delta Ni bF;(try simp only[app]at hS)
 refine⟨rfl,zI hS λb w hS=>?_⟩
 unfold vO at hS
 refine Gp ?_
 have hC:=SM (t:=363) AB rfl (λv0 v1 w R h=>dI4 v0 v1 w R h) (λm=>Y0 b id m) x.v l (by omega)
 simp only[List.cons_append,List.nil_append]at hC
 refine Cg (hC) λw hS=>?_
 (exact fw hS)
theorem Xo(p:Nat)(d:il)(id weight:Int)(hn:d.l.length<=1000):SP 265 [.pointer (some ⟨p,0,none⟩),.int .i64 id,.int .i64 weight] [.ob (jU p d)] (λv post=>(∃e:Int,v= .int .i64 e)/\post=[.ob (jU p (d.add id weight))]):=by
 intro W F w hS;apply dw5;delta Mz aF bF fR ai;(try simp only[app]at hS)
 have gi:∀{e:Int} {w:World},(id<1\/64<id\/weight<1\/8<weight)->SL W (.ob (jU p d)::F) w->∃post,((∃e':Int,Value.int .i64 e= .int .i64 e')/\post=[.ob (jU p (d.add id weight))])/\SL W (app post F) w:=λh hS=>by
  rw[show d.add id weight=d by unfold il.add;rw[if_pos h]]
  exact⟨_,⟨⟨_,rfl⟩,rfl⟩,hS⟩
 refine Gp ?_
 refine za (λh=>gi (by omega) hS) (λh1=>?_)
 refine Gp ?_
 refine za (λh=>gi (by omega) hS) (λh2=>?_)
 refine Gp ?_
 refine za (λh=>gi (by omega) hS) (λh3=>?_)
 refine Gp ?_
 refine za (λh=>gi (by omega) hS) (λh4=>?_)
 clear gi
 obtain⟨x,hr,hS⟩:=jU.iff.1 hS
 refine Cg (ZK p x d.l id hn) λw hS=>?_
 have ha:d.add id weight=match vK d id with|some _=>d|none=>{d with l:=d.l++[(id,weight)]}:=by
  unfold il.add;rw[if_neg (by omega)];rfl
 rw[ha]
 unfold vK
 cases hf:d.l.findIdx? (λm=>decide (m.1=id)) with
 | some i=>
  refine za (λ_=>?_) (λh=>by simp only[nj]at h;omega)
  exact⟨_,⟨⟨_,rfl⟩,rfl⟩,jU.iff.2 ⟨x,hr,aR hS⟩⟩
 | none=>
  refine za (λh=>by simp only[nj]at h;omega) (λ_=>?_)
  unfold vO at hS
  refine Gm λb w hS=>?_
  refine zX (n:=d.l.length) (xs:=d.l) (y:=(id,weight)) (enc:=rL) hS Xr Xh AB PU rfl (by omega) (by omega) λv2 w hS=>?_
  have hS:=hS.o9 (x:=(id,weight))
  have o1:v2.oneCell'=true:=bI.one hS
  refine Gn λw hS=>?_
  refine⟨_,⟨⟨_,rfl⟩,rfl⟩,SL.b_ (jU.Bj (d:={d with l:=d.l++[(id,weight)]}) v2 x.a x.pE x.lf ⟨λh=>?_,λh=>?_⟩ hS Xp) Xi⟩
  ·have:=hr.t h
   exact⟨this.1,this.2.1,by show x.a<(d.l++[_]).length;rw[List.length_append];omega⟩
  ·have:=hr.f h
   exact⟨this.1,this.2.1,by show x.a<=(d.l++[_]).length;rw[List.length_append];omega⟩
theorem Xt(p:Nat)(d:il)(id:Int)(hn:d.l.length<=1000):SP 264 [.pointer (some ⟨p,0,none⟩),.int .i64 id] [.ob (jU p d)] (λv post=>(∃e:Int,v= .int .i64 e)/\post=[.ob (jU p (d.del id))]):=by
 intro W F w hS;apply dw4;delta My aF bF fR ai;(try simp only[app]at hS)
 obtain⟨x,hr,hS⟩:=jU.iff.1 hS
 refine Cg (ZK p x d.l id hn) λw hS=>?_
 unfold il.del vK
 cases hf:d.l.findIdx? (λm=>decide (m.1=id)) with
 | none=>
  refine za (λ_=>?_) (λh=>by simp only[nj]at h;omega)
  exact⟨_,⟨⟨_,rfl⟩,rfl⟩,jU.iff.2 ⟨x,hr,aR hS⟩⟩
 | some i=>
  have hi:i<d.l.length:=(List.findIdx?_eq_some_iff_getElem.1 hf).1
  have hxa:x.a<=d.l.length:=by
   cases ht:x.pE with
   | true=>have:=hr.t ht;omega
   | false=>exact (hr.f ht).2.2
  simp only[nj]
  refine za (λh=>by omega) (λ_=>?_)
  unfold vO at hS
  refine Gp ?_
  refine Cc (PI (sz:=2) (lQ:=16) (z:=[.int .i64 0,.int .i64 0]) (zv:=.agg #[.int .i64 0,.int .i64 0]) (λv0 v1 v2 w R h=>dIf v0 v1 v2 w R h) Tryz.underlying287 (λw=>by kernel_rfl) rfl rfl (by simp[Value.oneCell']) x.v d.l.length i (d.l.map rL).flatten hi (pD PU _) (by omega) (by omega)) ?_;clear hS
  rintro v post rfl w hS
  try simp only[app]at hS
  have ef:List.take (i*2) (d.l.map rL).flatten++List.drop ((i+1)*2) (d.l.map rL).flatten=((d.l.eraseIdx i).map rL).flatten:=by
   rw[sA AB,rN AB,List.eraseIdx_eq_take_drop_succ];simp
  have el:d.l.length-1=(d.l.eraseIdx i).length:=by rw[List.length_eraseIdx,if_pos hi]
  rw[ef,el]at hS
  have o1:v.oneCell'=true:=bI.one hS
  refine Gn λw hS=>?_
  refine za (λh1=>?_) (λh1=>?_)
  ·refine Gn λw hS=>?_
   have hx:((x.a:Int)-1)=((x.a-1:Nat):Int):=by omega
   rw[hx]at hS
   refine⟨_,⟨⟨_,rfl⟩,rfl⟩,SL.b_ (jU.Bj (d:=⟨d.l.eraseIdx i,if (i:Int)<=d.at_ then d.at_-1 else d.at_,if (i:Int)=d.at_ then 0 else d.left⟩) v (x.a-1) x.pE x.lf ⟨λh=>?_,λh=>?_⟩ hS Xp) Xi⟩
   ·obtain⟨h2,h3,h4⟩:=hr.t h
    refine⟨?_,?_,by show x.a-1<(d.l.eraseIdx i).length;omega⟩
    ·show (if (i:Int)<=d.at_ then d.at_-1 else d.at_)=_
     rw[if_pos (by omega)];omega
    ·show (if (i:Int)=d.at_ then 0 else d.left)=_
     rw[if_neg (by omega)];exact h3
   ·obtain⟨h2,h3,h4⟩:=hr.f h
    refine⟨?_,?_,by show x.a-1<=(d.l.eraseIdx i).length;omega⟩
    ·show (if (i:Int)<=d.at_ then d.at_-1 else d.at_)=_
     rw[if_pos (by omega)];omega
    ·show (if (i:Int)=d.at_ then 0 else d.left)=_
     rw[h3];simp
  ·refine b9 (λh2=>?_) (λh2=>?_)
   ·refine Gn λw hS=>?_
    refine⟨_,⟨⟨_,rfl⟩,rfl⟩,SL.b_ (jU.Bj (d:=⟨d.l.eraseIdx i,if (i:Int)<=d.at_ then d.at_-1 else d.at_,if (i:Int)=d.at_ then 0 else d.left⟩) v x.a false x.lf ⟨(λh=>by cases h),λ_=>?_⟩ hS Xp) Xi⟩
    cases ht:x.pE with
    | true=>
     obtain⟨h3,h4,h5⟩:=hr.t ht
     refine⟨?_,?_,by show x.a<=(d.l.eraseIdx i).length;omega⟩
     ·show (if (i:Int)<=d.at_ then d.at_-1 else d.at_)=_
      rw[if_pos (by omega)];omega
     ·show (if (i:Int)=d.at_ then 0 else d.left)=_
      rw[if_pos (by omega)]
    | false=>
     obtain⟨h3,h4,h5⟩:=hr.f ht
     refine⟨?_,?_,by show x.a<=(d.l.eraseIdx i).length;omega⟩
     ·show (if (i:Int)<=d.at_ then d.at_-1 else d.at_)=_
      rw[if_neg (by omega)];omega
     ·show (if (i:Int)=d.at_ then 0 else d.left)=_
      rw[h4];simp
   ·refine⟨_,⟨⟨_,rfl⟩,rfl⟩,SL.b_ (jU.Bj (d:=⟨d.l.eraseIdx i,if (i:Int)<=d.at_ then d.at_-1 else d.at_,if (i:Int)=d.at_ then 0 else d.left⟩) v x.a x.pE x.lf ⟨λh=>?_,λh=>?_⟩ hS Xp) Xi⟩
    ·obtain⟨h3,h4,h5⟩:=hr.t h
     refine⟨?_,?_,by show x.a<(d.l.eraseIdx i).length;omega⟩
     ·show (if (i:Int)<=d.at_ then d.at_-1 else d.at_)=_
      rw[if_neg (by omega)];exact h3
     ·show (if (i:Int)=d.at_ then 0 else d.left)=_
      rw[if_neg (by omega)];exact h4
    ·obtain⟨h3,h4,h5⟩:=hr.f h
     refine⟨?_,?_,by show x.a<=(d.l.eraseIdx i).length;omega⟩
     ·show (if (i:Int)<=d.at_ then d.at_-1 else d.at_)=_
      rw[if_neg (by omega)];exact h3
     ·show (if (i:Int)=d.at_ then 0 else d.left)=_
      rw[h4];simp
theorem Qw(p:Nat)(d:il)(hd:d.Ok)(hn:d.l.length<=1000):SP 203 [.pointer (some ⟨p,0,none⟩)] [.ob (jU p d)] (λv post=>v= .tuple #[.int .i64 d.next.2,.bool (decide (d.l≠[]))]/\post=[.ob (jU p d.next.1)]):=by
 intro W F w hS;apply c_g;delta Lw aF bF a_ fR dW ai;(try simp only[app]at hS)
 have kM:=hd.xe
 have hl8:=hd.C5
 have ED:=hd.C4
 obtain⟨x,hr,hS⟩:=jU.iff.1 hS
 unfold vO at hS
 refine Gp ?_
 refine zx hS (v:=x.v) (t:=363) (sz:=2) (n:=d.l.length) (cells:=(d.l.map rL).flatten) Xh ?_
 refine b9 (λh=>?_) (λh=>?_)
 ·have he:d.l=[]:=List.eq_nil_of_length_eq_zero (by omega)
  have e:d.next=(d,0):=by unfold il.next;rw[if_pos he]
  rw[e,decide_eq_false (by simp[he])]
  exact⟨_,⟨rfl,rfl⟩,jU.iff.2 ⟨x,hr,aR hS⟩⟩
 have jJ:d.l≠[]:=λe=>h (by rw[e];rfl)
 have j7:0<=d.place/\d.place<d.l.length:=by
  unfold il.place
  have:=hd.neg
  have:=hd.mO
  split
  ·split<;>omega
  ·omega
 obtain⟨j,hj⟩:∃j:Nat,d.place=j:=⟨d.place.toNat,by omega⟩
 have jI:j<d.l.length:=by omega
 have vD:d.l[j]?=some d.mB:=by
  unfold il.mB
  rw[hj,Int.toNat_natCast,List.getElem?_eq_getElem jI];rfl
 have hw:=hd.w _ (List.mem_of_getElem? vD)
 refine⟨λus w=>∃(a:Nat) (t:Bool) (lf:Int),us=[]/\((t=true/\lf=d.left/\d.left≠0/\(a:Int)=d.at_)\/(t=false/\(a:Int)=d.at_+1/\d.left=0))/\SL W (.pt p [x.v,.int .i64 a,.bool t,.int .i64 lf] 289::uu x.v d.l::F) w,?_,?_⟩
 ·refine Gp ?_
  refine yO (λht=>?_) (λht=>?_)
  ·obtain⟨h3,h4,h5⟩:=hr.t ht
   refine b9 (λh0=>?_) (λh0=>?_)
   ·refine Gn λw hS=>?_
    exact⟨x.a+1,false,x.lf,rfl,.inr ⟨rfl,by omega,by omega⟩,aR hS⟩
   ·exact⟨x.a,true,x.lf,rfl,.inl ⟨rfl,h4.symm,by omega,h3.symm⟩,by rw[<- ht];exact aR hS⟩
  ·obtain⟨h3,h4,h5⟩:=hr.f ht
   exact⟨x.a,false,x.lf,rfl,.inr ⟨rfl,by omega,h4⟩,by rw[<- ht];exact aR hS⟩
 clear hS
 rintro w ⟨a,t,lf,-,hc,hS⟩
 refine⟨λus w=>us=[]/\SL W (.pt p [x.v,.int .i64 j,.bool true,.int .i64 (if d.left=0 then d.mB.2 else d.left)] 289::uu x.v d.l::F) w,?_,?_⟩
 ·refine Gp ?_
  rcases hc with ⟨rfl,rfl,kD,nJ⟩|⟨rfl,kD,nJ⟩
  ·refine zt ?_
   have e:d.place=d.at_:=by unfold il.place;rw[if_neg kD]
   have:a=j:=by omega
   subst this
   rw[if_neg kD]
   exact⟨rfl,aR hS⟩
  ·refine zw ?_
   refine⟨λus w=>us=[]/\SL W (.pt p [x.v,.int .i64 j,.bool false,.int .i64 lf] 289::uu x.v d.l::F) w,?_,?_⟩
   ·refine Gn λw hS=>?_
    refine zx hS (v:=x.v) (t:=363) (sz:=2) (n:=d.l.length) (cells:=(d.l.map rL).flatten) Xh ?_
    refine Gp ?_
    have e:d.place=if (d.l.length:Int)<=d.at_+1 then 0 else d.at_+1:=by unfold il.place;rw[if_pos nJ]
    refine za (λh0=>?_) (λh0=>?_)
    ·rw[if_pos (by omega)]at e
     have:j=0:=by omega
     subst this
     refine Gn λw hS=>?_
     have hS:SL W (.pt p [x.v,.int .i64 ((0:Nat):Int),.bool false,.int .i64 lf] 289::uu x.v d.l::F) w:=hS
     exact aR hS
    ·rw[if_neg (by omega)]at e
     have:a=j:=by omega
     subst this
     exact⟨rfl,aR hS⟩
   clear hS
   rintro w ⟨-,hS⟩
   refine Gn λw hS=>?_
   obtain⟨fa,fc,SG,_,hfx⟩:=bI.at hS (v:=x.v) (t:=363) (sz:=2) (n:=d.l.length) (cells:=(d.l.map rL).flatten) Xh
   obtain⟨fb,rfl,hfc⟩:=hfx j jI
   rw[SG]
   refine zH jI (zW (zW ?_))
   have kN:=hfc _ _ (sy AB d.l j 0 d.mB (.int .i64 d.mB.2) vD rfl)
   refine⟨_,_,rfl,by rw[Nat.zero_add];exact kN,?_⟩
   refine Gn λw hS=>?_
   rw[if_pos nJ,<- SG]
   exact aR hS
 clear hS hc
 rintro w ⟨-,hS⟩
 refine Gn λw hS=>?_
 refine zJ (i:=1) hS (v:=x.v) (t:=363) Xh AB vD jI (u:=.int .i64 d.mB.1) rfl ?_
 have e:d.next=(⟨d.l,d.place,(if d.left=0 then d.mB.2 else d.left)-1⟩,d.mB.1):=by unfold il.next;rw[if_neg jJ]
 rw[e,decide_eq_true jJ]
 exact⟨_,⟨rfl,rfl⟩,SL.b_ (jU.Bj (d:=⟨d.l,d.place,(if d.left=0 then d.mB.2 else d.left)-1⟩) x.v j true ((if d.left=0 then d.mB.2 else d.left)-1) ⟨λ_=>⟨hj,rfl,jI⟩,(λh=>by cases h)⟩ hS Xp) Xi⟩
theorem Tt(kind mark:Int):lr [.int .i64 0,.int .i64 0,.slice none 0 0,.slice none 0 0,.int .i64 0] [(0,1,.int .i64 1),(1,1,.int .i64 kind),(4,1,.int .i64 mark)]=some (iG ⟨1,kind,.slice none 0 0,.slice none 0 0,mark⟩):=by simp[lr,Value.cells,iG]
theorem Yn(sp tp dp lp:Nat)(k:g_)(H:bw)(kind mark:Int){N:Nat}(hk:nu k N)(hN:N<=1000000000)(iP:k.d.ops<=90000):
  SP 204 [eF sp,.int .i64 kind,.int .i64 mark] [.ob (iC sp tp dp lp k),.ob (dI dp k.d),.mem H] (Ad sp tp dp lp H (k.lV kind mark)):=by
 intro W F w hS;apply c_h;delta Lx aF dW ai bR;(try simp only[app]at hS)
 have hx:kS H ⟨1,kind,.slice none 0 0,.slice none 0 0,mark⟩ ⟨1,kind,[],[],mark⟩:=⟨rfl,rfl,rfl,fW.nil _ _,fW.nil _ _⟩
 have gi:∀{w:World},¬((kind=2\/kind=3)/\ji ⟨1,kind,[],[],mark⟩=true)->SL W (.ob (iC sp tp dp lp k)::.ob (dI dp k.d)::.mem H::F) w->∃post,Ad sp tp dp lp H (k.lV kind mark) (.tuple #[.int .i64 0,.int .i64 1]) post/\SL W (app post F) w:=λh hS=>by
  rw[show k.lV kind mark=(k,(0,1)) from if_neg h]
  exact⟨_,⟨rfl,rfl⟩,hS⟩
 refine yz (Tt kind mark) ?_
 refine Gb λxb w hS=>?_
 have s9:∀{w:World},(kind=2\/kind=3)->SL W (.pt xb (iG ⟨1,kind,.slice none 0 0,.slice none 0 0,mark⟩) 39::.ob (iC sp tp dp lp k)::.ob (dI dp k.d)::.mem H::F) w->zh 5 (eF xb) w λDs=>aw 61 [Ds] w λv20 pG=>y0 v20 λDt=>g9 Dt (∃post,Ad sp tp dp lp H (k.lV kind mark) (.tuple #[.int .i64 0,.int .i64 1]) post/\SL W (app post F) pG)
   (zh 5 (eF xb) pG λv24=>aw 63 [eF sp,v24] pG λv25 Jx=>zf 0 v25 λv26=>zf 1 v25 λv27=>∃post,Ad sp tp dp lp H (k.lV kind mark) (.tuple #[v26,v27]) post/\SL W (app post F) Jx):=λh2 hS=>by
  refine zL hS Xh rfl ?_
  refine Cg (yx H ⟨1,kind,.slice none 0 0,.slice none 0 0,mark⟩ ⟨1,kind,[],[],mark⟩ hx) λw hS=>?_
  refine zz (λh=>gi (λx=>by rw[x.2]at h;cases h) (aR hS)) (λh=>?_)
  rw[show k.lV kind mark=k.lP ⟨1,kind,[],[],mark⟩ from if_pos ⟨h2,h⟩]
  refine zL hS Xh rfl ?_
  refine Cg (YQ sp tp dp lp k H ⟨1,kind,.slice none 0 0,.slice none 0 0,mark⟩ ⟨1,kind,[],[],mark⟩ hx h hk hN iP) λw hS=>?_
  exact fw hS
 refine za (λh=>?_) (λh=>s9 (.inl (by omega)) (aR hS))
 refine Gp ?_
 exact za (λh2=>gi (λx=>by omega) (aR hS)) (λh2=>s9 (.inr (by omega)) (aR hS))
abbrev pV(v:Value)(l:List Rq):Chunk:=.ob (bI v 125 7 l.length (l.map ka).flatten)
theorem II{L:List Rq}{i:Nat}(h:i<L.length):kQ (L.take (i+1))=kQ (L.take i)++(if L[i].done=false then [L[i]] else []):=by
 unfold kQ
 rw[List.take_succ_eq_append_getElem h,List.filter_append,List.filter_cons]
 cases L[i].done<;>simp
theorem Db(L:List Rq)(i:Nat):(kQ (L.take i)).length<=L.length:=by
 have:=List.length_filter_le (λr:Rq=>!r.done) (L.take i)
 rw[List.length_take]at this
 unfold kQ;omega
theorem ZP(v:Value)(L:List Rq)(hn:L.length<=1000):SP 118 [v] [pV v L] (λu post=>post=[pV u (kQ L),pV v L]):=by
 intro W F w hS;apply cI5;delta Ke aF a_ dW ai bR;(try simp only[app]at hS)
 refine zx hS (v:=v) (t:=125) (sz:=7) (n:=L.length) (cells:=(L.map ka).flatten) Xh ?_
 have hS:SL W (pV (.slice none 0 0) []::_) w:=bI.nil hS
 refine⟨λus w=>∃(i:Nat) (u:Value),us=[u,.int .i64 i]/\i<=L.length/\SL W (pV u (kQ (L.take i))::pV v L::F) w,λus _=>match us with|[_,.int _ i]=>(L.length-i).toNat|_=>0,⟨0,.slice none 0 0,rfl,by omega,hS⟩,?_⟩
 clear hS
 rintro v3 v8 w ⟨i,u,dR,hi,hS⟩
 cases dR
 refine b9 (λh=>?_) (λh=>?_)
 ·have b8:i<L.length:=by omega
  have hx:L[i]?=some L[i]:=List.getElem?_eq_getElem b8
  have i_:=II b8
  have hle:=Db L i
  refine yd hS (v:=v) (t:=125) Xh kU hx b8 ?_
  generalize L[i]=r at *
  refine Gb λxb w hS=>?_
  refine zz (λhd=>?_) (λhd=>?_)
  ·rw[if_pos hd]at i_
   refine zL hS Xh rfl ?_
   refine Gm λyb w hS=>?_
   refine zX (n:=(kQ (L.take i)).length) (xs:=kQ (L.take i)) (y:=r) (enc:=ka) hS Xr Xh kU uE rfl (by omega) (by omega) λv2 w hS=>?_
   have hS:=hS.o9 (x:=r)
   rw[<- i_]at hS
   refine Gp ?_
   exact⟨⟨i+1,v2,rfl,by omega,aR hS⟩,by dsimp only;omega⟩
  ·rw[if_neg (by simp[hd]),List.append_nil]at i_
   rw[<- i_]at hS
   refine Gp ?_
   exact⟨⟨i+1,v3,rfl,by omega,aR hS⟩,by dsimp only;omega⟩
 ·rw[List.take_of_length_le (by omega)]at hS
  exact⟨_,rfl,aR hS⟩
abbrev lF(sp mp wp gp:Nat)(n:Int):List Value:=[eF sp,eF mp,eF wp,eF gp,.int .i64 n]
theorem cw5(sp mp wp:Nat)(H:bw)(m:h_)(n:Int):SP 41 [eF sp,eF mp,.int .i64 n] [.ob (gF mp wp H m)] (λv post=>(¬(1<=n/\n<=64)/\v= .tuple #[.pointer none,.int .i64 1]/\post=[.ob (gF mp wp H m)]) \/
  ((1<=n/\n<=64)/\∃pp gp:Nat,v= .tuple #[eF pp,.int .i64 0]/\post=[.pt pp (lF sp mp wp gp n) 201,.ob (jU gp nW),.ob (gF mp wp H m)])):=by
 intro W F w hS;apply dRd;delta NN aF d_ ai gw;(try simp only[app]at hS)
 refine Gp ?_
 refine za (λh=>⟨_,.inl ⟨by omega,rfl,rfl⟩,hS⟩) (λh1=>?_)
 refine Gp ?_
 refine za (λh=>⟨_,.inl ⟨by omega,rfl,rfl⟩,hS⟩) (λh2=>?_)
 obtain⟨rv,hr,hS⟩:=gF.iff.1 hS
 refine Gp ?_
 refine Yk (vs:=[eF wp]) hS Xh rfl (λj v e=>by
  match j,e with
  | 0,e=>exact e) ?_
 refine Cg (ZA wp) λw hS=>?_
 refine Cc (XJ) ?_;clear hS
 rintro _ post ⟨gp,rfl,rfl⟩ w hS
 (try simp only[app]at hS);refine Gp ?_
 refine⟨_,rfl,zI hS λpp w hS=>?_⟩
 have hS:=gF.put m rv hr hS Xp
 exact⟨_,.inr ⟨by omega,pp,gp,rfl,rfl⟩,aR hS⟩
theorem yG(sp mp wp pp gp:Nat)(n:Int)(H:bw)(m:h_)(hn:m.reqs.length<=1000):SP 43 [eF pp] [.pt pp (lF sp mp wp gp n) 201,.ob (gF mp wp H m),.mem H] (eW (.bool (uY m)) [.pt pp (lF sp mp wp gp n) 201,.ob (gF mp wp H m),.mem H]):=by
 intro W F w hS;apply dRf;delta NP aF bF cw ai;(try simp only[app]at hS)
 unfold uY
 refine Gp ?_
 obtain⟨rv,hr,hS⟩:=gF.iff.1 (SL.b_ hS (t:=.ob (gF mp wp H m)::.pt pp (lF sp mp wp gp n) 201::.mem H::F) Xi)
 refine Cg (Za wp m.cF) λw hS=>?_
 have hS:=gF.put m rv hr hS Xp
 refine za (λh=>?_) (λh1=>?_)
 ·rw[decide_eq_true (.inl h)]
  exact fw hS
 refine b9 (λh=>?_) (λh2=>?_)
 ·rw[decide_eq_true (.inr (.inl h))]
  exact fw hS
 refine b9 (λh3=>?_) (λh3=>?_)
 ·refine Gp ?_
  refine Cc (yJ mp wp H m hn) ?_;clear hS
  rintro u post rfl w hS
  try simp only[app]at hS
  refine Cc (ZP u m.reqs hn) ?_;clear hS
  rintro u2 post rfl w hS
  try simp only[app]at hS
  refine zx hS (v:=u2) (t:=125) (sz:=7) (n:=(kQ m.reqs).length) (cells:=((kQ m.reqs).map ka).flatten) Xh ?_
  refine Gp ?_
  have e:decide (m.cF.state=1\/m.cF.state=2\/m.cF.state=0/\kQ m.reqs≠[])=decide ((0:Int)<((kQ m.reqs).length:Int)):=by
   rw[decide_eq_decide]
   constructor
   ·rintro (h|h|h)
    ·exact absurd h h1
    ·exact absurd h h2
    ·have:=List.length_pos_iff.2 h.2;omega
   ·intro h
    exact .inr (.inr ⟨h3,λe=>by rw[e]at h;simp at h⟩)
  rw[e]
  exact fw hS
 ·rw[decide_eq_false (λh=>h.elim h1 (λh=>h.elim h2 (λh=>h3 h.1)))]
  exact fw hS
theorem Xq(d:il)(id:Int):(d.del id).l.length<=d.l.length:=by
 unfold il.del
 split
 ·exact Nat.le_refl _
 ·exact List.length_eraseIdx_le ..
theorem Xn(d:il)(id w:Int):(d.add id w).l.length<=d.l.length+1:=by
 unfold il.add
 split
 ·omega
 ·split
  ·omega
  ·simp
theorem Az:∀(L:List Rq) (d:il),(L.foldl (λd r=>d.del r.id) d).l.length<=d.l.length
 | [],d=>Nat.le_refl _
 | r::L,d=>Nat.le_trans (Az L (d.del r.id)) (Xq d r.id)
theorem DG:∀(L:List Rq) (d:il),(L.foldl (λd r=>d.add r.id r.weight) d).l.length<=d.l.length+L.length
 | [],d=>Nat.le_refl _
 | r::L,d=>by
  have h1:=DG L (d.add r.id r.weight)
  have h2:=Xn d r.id r.weight
  rw[List.foldl_cons,List.length_cons];omega
theorem PN{L:List Rq}{i:Nat}(h:i<L.length):(L.take (i+1)).filter (·.done)=(L.take i).filter (·.done)++(if L[i].done=true then [L[i]] else []):=by
 rw[List.take_succ_eq_append_getElem h,List.filter_append,List.filter_cons]
 cases L[i].done<;>simp
theorem cw6(sp mp wp pp gp:Nat)(n:Int)(H:bw)(m:h_)(d:il)(hn:m.reqs.length<=64)(hd:d.l.length<=500):SP 202 [eF pp] [.pt pp (lF sp mp wp gp n) 201,.ob (jU gp d),.ob (gF mp wp H m),.mem H] (λv post=>post=[.pt pp (lF sp mp wp gp n) 201,.ob (jU gp (nP d m.reqs)),.ob (gF mp wp H m),.mem H]):=by
 intro W F w hS;apply c_f;delta Lv aF bF a_ ai;(try simp only[app]at hS)
 refine Gp ?_
 refine Cc (yJ mp wp H m (by omega)) ?_;clear hS
 rintro u post rfl w hS
 try simp only[app]at hS
 refine zx hS (v:=u) (t:=125) (sz:=7) (n:=m.reqs.length) (cells:=(m.reqs.map ka).flatten) Xh ?_
 refine⟨λus w=>∃i:Nat,us=[.int .i64 i]/\i<=m.reqs.length/\SL W (.ob (jU gp (((m.reqs.take i).filter (·.done)).foldl (λd r=>d.del r.id) d))::pV u m.reqs::.ob (gF mp wp H m)::.mem H::.pt pp (lF sp mp wp gp n) 201::F) w,λus _=>match us with|[.int _ i]=>(m.reqs.length-i).toNat|_=>0,⟨0,rfl,by omega,SL.b_ hS (t:=.ob (jU gp d)::pV u m.reqs::.ob (gF mp wp H m)::.mem H::.pt pp (lF sp mp wp gp n) 201::F) Xi⟩,?_⟩
 clear hS
 rintro nS w ⟨i,dR,hi,hS⟩
 cases dR
 refine b9 (λh=>?_) (λh=>?_)
 ·have b8:i<m.reqs.length:=by omega
  have hx:m.reqs[i]?=some m.reqs[i]:=List.getElem?_eq_getElem b8
  have i_:=PN b8
  have hle:=Az ((m.reqs.take i).filter (·.done)) d
  refine yd hS (v:=u) (t:=125) Xh kU hx b8 ?_
  generalize m.reqs[i]=r at *
  refine Gb λxb w hS=>?_
  refine yO (λhq=>?_) (λhq=>?_)
  ·rw[if_pos hq]at i_
   refine Gn λw hS=>?_
   refine Cc (Xt gp (((m.reqs.take i).filter (·.done)).foldl (λd r=>d.del r.id) d) r.id (by omega)) ?_;clear hS
   rintro _ post ⟨⟨e,rfl⟩,rfl⟩ w hS
   (try simp only[app]at hS);refine Gp ?_
   refine⟨⟨i+1,rfl,by omega,?_⟩,by dsimp only;omega⟩
   rw[i_,List.foldl_append]
   exact SL.b_ hS (t:=.ob (jU gp ((((m.reqs.take i).filter (·.done)).foldl (λd r=>d.del r.id) d).del r.id))::pV u m.reqs::.ob (gF mp wp H m)::.mem H::.pt pp (lF sp mp wp gp n) 201::F) Xi
  ·rw[if_neg (by simp[hq]),List.append_nil]at i_
   rw[<- i_]at hS
   refine Gp ?_
   exact⟨⟨i+1,rfl,by omega,aR hS⟩,by dsimp only;omega⟩
 rw[List.take_of_length_le (by omega)]at hS
 have rY:nP d m.reqs=(kQ m.reqs).foldl (λd r=>d.add r.id r.weight) ((m.reqs.filter (·.done)).foldl (λd r=>d.del r.id) d):=rfl
 have sE:=Az (m.reqs.filter (·.done)) d
 rw[rY]
 generalize (m.reqs.filter (·.done)).foldl (λd r=>d.del r.id) d=d1 at *
 refine Gp ?_
 refine Cc (yJ mp wp H m (by omega)) ?_;clear hS
 rintro u1 post rfl w hS
 try simp only[app]at hS
 refine Cc (ZP u1 m.reqs (by omega)) ?_;clear hS
 rintro u2 post rfl w hS
 try simp only[app]at hS
 have A0:(kQ m.reqs).length<=64:=by
  have:=Db m.reqs m.reqs.length
  rw[List.take_length]at this;omega
 generalize kQ m.reqs=L at *
 refine zx hS (v:=u2) (t:=125) (sz:=7) (n:=L.length) (cells:=(L.map ka).flatten) Xh ?_
 refine⟨λus w=>∃i:Nat,us=[.int .i64 i]/\i<=L.length/\SL W (.ob (jU gp ((L.take i).foldl (λd r=>d.add r.id r.weight) d1))::pV u2 L::.ob (gF mp wp H m)::.mem H::.pt pp (lF sp mp wp gp n) 201::F) w,λus _=>match us with|[.int _ i]=>(L.length-i).toNat|_=>0,⟨0,rfl,by omega,SL.b_ hS (t:=.ob (jU gp d1)::pV u2 L::.ob (gF mp wp H m)::.mem H::.pt pp (lF sp mp wp gp n) 201::F) Xi⟩,?_⟩
 clear hS
 rintro v33 w ⟨i,dR,hi,hS⟩
 cases dR
 refine b9 (λh=>?_) (λh=>?_)
 ·have b8:i<L.length:=by omega
  have hx:L[i]?=some L[i]:=List.getElem?_eq_getElem b8
  have kK:L.take (i+1)=L.take i++[L[i]]:=List.take_succ_eq_append_getElem b8
  have hle:=DG (L.take i) d1
  rw[List.length_take]at hle
  refine yd hS (v:=u2) (t:=125) Xh kU hx b8 ?_
  generalize L[i]=r at *
  refine Gb λxb w hS=>?_
  refine Cc (Xo gp ((L.take i).foldl (λd r=>d.add r.id r.weight) d1) r.id r.weight (by omega)) ?_;clear hS
  rintro _ post ⟨⟨e,rfl⟩,rfl⟩ w hS
  (try simp only[app]at hS);refine Gp ?_
  refine⟨⟨i+1,rfl,by omega,?_⟩,by dsimp only;omega⟩
  rw[kK,List.foldl_append]
  exact SL.b_ hS (t:=.ob (jU gp (((L.take i).foldl (λd r=>d.add r.id r.weight) d1).add r.id r.weight))::pV u2 L::.ob (gF mp wp H m)::.mem H::.pt pp (lF sp mp wp gp n) 201::F) Xi
 ·rw[List.take_of_length_le (by omega)]at hS
  exact⟨_,rfl,aR hS⟩
structure ig.Ok(p:ig):Prop where
 m:p.m.Ok
 d:p.d.Ok
 dl:p.d.l.length<=64
 src:∃N,nu p.k N/\N<=900000000
 n:1<=p.n/\p.n<=64
 row:(nP p.d p.m.reqs).Ok
 id : -9223372036854775808<=p.m.cF.id/\p.m.cF.id<=9223372036854775807
abbrev DB(sp tp dp lp mp wp pp gp:Nat)(H:bw)(p:ig):List Chunk:=[.pt pp (lF sp mp wp gp p.n) 201,.ob (jU gp p.d),.ob (gF mp wp H p.m),.ob (iC sp tp dp lp p.k),.ob (dI dp p.k.d),.mem H]
def DC(sp tp dp lp mp wp pp gp:Nat)(H:bw)(y:ig × (Int × Int))(v:Value)(post:List Chunk):Prop:=∃H',H.le H'/\v= .tuple #[.int .i64 y.2.1,.int .i64 y.2.2]/\post=DB sp tp dp lp mp wp pp gp H' y.1
theorem cw4(sp tp dp lp mp wp pp gp:Nat)(H:bw)(p:ig)(hp:p.Ok)(iP:p.k.d.ops<=90000):SP 122 [eF pp] (DB sp tp dp lp mp wp pp gp H p) (DC sp tp dp lp mp wp pp gp H p.wM):=by
 intro W F w hS;apply cRa;delta Kj aF bF a_ dW ai;(try simp only[app]at hS)
 obtain⟨N,hk,hN⟩:=hp.src
 have vF:=hp.m.reqs.1
 have sE:=hp.dl
 have rY:=hp.row
 have Es:=uP hk.g.ok.bW
 have AS:=hk.g.hd
 refine Cc (cw6 sp mp wp pp gp p.n H p.m p.d vF (by omega)) ?_;clear hS
 rintro _ post rfl w hS
 (try simp only[app]at hS);refine Gp ?_
 have wJ:(nP p.d p.m.reqs).l.length<=1000:=by
  have h1:=DG (kQ p.m.reqs) ((p.m.reqs.filter (·.done)).foldl (λd r=>d.del r.id) p.d)
  have h2:=Az (p.m.reqs.filter (·.done)) p.d
  have h3:=Db p.m.reqs p.m.reqs.length
  rw[List.take_length]at h3
  unfold nP;omega
 unfold ig.wM
 generalize hx:nP p.d p.m.reqs=d1 at *
 refine Cc (Qw gp d1 rY wJ) ?_;clear hS
 rintro _ post ⟨rfl,rfl⟩ w hS
 (try simp only[app]at hS);refine Gp ?_
 refine Cc (yJ mp wp H p.m (by omega)) ?_;clear hS
 rintro u post rfl w hS
 try simp only[app]at hS
 have iT:∀{w:World},vU p.m.reqs d1.next.2=none->SL W (.pt pp (lF sp mp wp gp p.n) 201::.ob (jU gp d1.next.1)::.ob (gF mp wp H p.m)::.ob (iC sp tp dp lp p.k)::.ob (dI dp p.k.d)::.mem H::F) w->∃post,DC sp tp dp lp mp wp pp gp H (p.ug d1.next) (.tuple #[.int .i64 0,.int .i64 0]) post/\SL W (app post F) w:=λe hS=>by
  rw[show p.ug d1.next=({p with d:=d1.next.1},(0,0)) by unfold ig.ug;rw[e]]
  exact⟨_,⟨H,bw.le_refl H,rfl,rfl⟩,hS⟩
 refine Gp ?_
 refine zz (λhq=>?_) (λhq=>?_)
 ·refine iT ?_ (aR hS)
  have he:d1.l=[]:=Decidable.of_not_not (of_decide_eq_false hq)
  unfold il.next vU
  rw[if_pos he];rfl
 have jJ:d1.l≠[]:=of_decide_eq_true hq
 refine zx hS (v:=u) (t:=125) (sz:=7) (n:=p.m.reqs.length) (cells:=(p.m.reqs.map ka).flatten) Xh ?_
 refine Gp ?_
 have hid:1<=d1.next.2:=by
  unfold il.next
  rw[if_neg jJ]
  have j7:0<=d1.place/\d1.place<d1.l.length:=by
   have:=rY.neg
   have:=rY.mO
   have:=rY.xe
   have:0<d1.l.length:=List.length_pos_iff.2 jJ
   unfold il.place
   split
   ·split<;>omega
   ·omega
  have hm:d1.mB∈d1.l:=by
   unfold il.mB
   rw[List.getElem?_eq_getElem (show d1.place.toNat<d1.l.length by omega)]
   exact List.getElem_mem _
  exact (rY.w _ hm).1
 refine za (λh=>iT (by unfold vU;rw[if_neg (by omega),List.getElem?_eq_none (by omega)]) (aR hS)) (λh=>?_)
 clear iT
 obtain⟨j,hj⟩:∃j:Nat,d1.next.2=(j:Int)+1:=⟨(d1.next.2-1).toNat,by omega⟩
 have jI:j<p.m.reqs.length:=by omega
 have tY:vU p.m.reqs d1.next.2=some p.m.reqs[j]:=by
  unfold vU
  rw[if_neg (by omega),hj,show ((j:Int)+1-1).toNat=j by omega,List.getElem?_eq_getElem jI]
 rw[show p.ug d1.next=({p with d:=d1.next.1}:ig).vM p.m.reqs[j] by unfold ig.ug;rw[tY]]
 unfold ig.vM
 clear tY
 rw[hj]
 generalize d1.next.1=d2 at hS ⊢
 refine Gp ?_
 refine Cg (yi sp tp dp lp p.k hk.g (by omega)) λw hS=>?_
 refine Cc (Yn sp tp dp lp p.k H 2 (c_ p.k.g.bW+1) hk (by omega) iP) ?_;clear hS
 rintro _ post ⟨rfl,rfl⟩ w hS
 (try simp only[app]at hS);refine Gp ?_
 generalize p.k.lV 2 (c_ p.k.g.bW+1)=y at hS ⊢
 obtain⟨k',a,e⟩:=y
 simp only at hS ⊢
 refine za (λhe=>?_) (λhe=>?_)
 ·rw[if_pos he]
  exact⟨_,⟨H,bw.le_refl H,rfl,rfl⟩,aR hS⟩
 rw[if_neg he]
 refine Gp ?_
 rw[show ((j:Int)+1-1)=(j:Int) by omega]
 refine yd hS (v:=u) (t:=125) Xh kU (List.getElem?_eq_getElem jI) jI ?_
 generalize p.m.reqs[j]=r
 refine Gb λxb w hS=>?_
 obtain⟨rv,hr,hS⟩:=gF.iff.1 (SL.b_ hS (t:=.ob (gF mp wp H p.m)::.pt pp (lF sp mp wp gp p.n) 201::.ob (jU gp d2)::.ob (iC sp tp dp lp k')::.ob (dI dp k'.d)::.mem H::F) Xi)
 refine Cc (dW4 wp p.m.cF (c_ p.k.g.bW+1) r.id r.table r.iJ) ?_;clear hS
 rintro _ post ⟨⟨q,rfl⟩,rfl⟩ w hS
 try simp only[app]at hS
 have hS:=gF.put (mp:=mp) {p.m with cF:=p.m.cF.oE (c_ p.k.g.bW+1) r.id r.table r.iJ} rv hr hS Xp
 exact⟨_,⟨H,bw.le_refl H,rfl,rfl⟩,aR hS⟩
theorem Qp(sp tp dp lp mp wp pp gp:Nat)(H:bw)(p:ig)(hp:p.Ok)(iP:p.k.d.ops<=90000):SP 125 [eF pp] (DB sp tp dp lp mp wp pp gp H p) (DC sp tp dp lp mp wp pp gp H p.xL):=by
 intro W F w hS;apply cRd;delta Km aF bF aW d_ ai;(try simp only[app]at hS)
 obtain⟨N,hk,hN⟩:=hp.src
 refine Gn λw hS=>?_
 obtain⟨rv,hr,hS⟩:=gF.iff.1 (SL.b_ hS (t:=.ob (gF mp wp H p.m)::.pt pp (lF sp mp wp gp p.n) 201::.ob (jU gp p.d)::.ob (iC sp tp dp lp p.k)::.ob (dI dp p.k.d)::.mem H::F) Xi)
 refine Cg (Yq wp p.m.cF) λw hS=>?_
 unfold ig.xL
 refine Cc (Yn sp tp dp lp p.k H 3 p.m.cF.mark hk (by omega) iP) ?_;clear hS
 rintro _ post ⟨rfl,rfl⟩ w hS
 (try simp only[app]at hS);refine Gp ?_
 generalize p.k.lV 3 p.m.cF.mark=y at hS ⊢
 obtain⟨k',a,e⟩:=y
 simp only at hS ⊢
 refine za (λhe=>?_) (λhe=>?_)
 ·rw[if_pos he]
  have hS:=gF.put (mp:=mp) p.m rv hr hS Xp
  exact⟨_,⟨H,bw.le_refl H,rfl,rfl⟩,aR hS⟩
 rw[if_neg he]
 refine Gp ?_
 refine Cc (dW8 wp p.m.cF) ?_;clear hS
 rintro _ post ⟨⟨q,rfl⟩,rfl⟩ w hS
 try simp only[app]at hS
 have hS:=gF.put (mp:=mp) {p.m with cF:=p.m.cF.shut} rv hr hS Xp
 exact⟨_,⟨H,bw.le_refl H,rfl,rfl⟩,aR hS⟩
theorem yA(sp tp dp lp mp wp pp gp:Nat)(H:bw)(p:ig)(hp:p.Ok)(iP:p.k.d.ops<=90000):SP 46 [eF pp] (DB sp tp dp lp mp wp pp gp H p) (DC sp tp dp lp mp wp pp gp H p.step):=by
 intro W F w hS;apply dRi;delta NS aF bF aW d_ dW ai;(try simp only[app]at hS)
 obtain⟨N,hk,hN⟩:=hp.src
 have vF:=hp.m.reqs.1
 have aW4:=hp.n
 unfold ig.step
 refine Cg (yG sp mp wp pp gp p.n H p.m (by omega)) λw hS=>?_
 refine zz (λhq=>?_) (λhq=>?_)
 ·rw[if_pos hq]
  exact⟨_,⟨H,bw.le_refl H,rfl,rfl⟩,aR hS⟩
 rw[if_neg (by simp[hq])]
 obtain⟨rv,hr,hS⟩:=gF.iff.1 (SL.b_ hS (t:=.ob (gF mp wp H p.m)::.pt pp (lF sp mp wp gp p.n) 201::.ob (jU gp p.d)::.ob (iC sp tp dp lp p.k)::.ob (dI dp p.k.d)::.mem H::F) Xi)
 refine Gp ?_
 refine Cg (Za wp p.m.cF) λw hS=>?_
 refine za (λh0=>?_) (λh0=>?_)
 ·rw[if_pos h0]
  have hS:=gF.put (mp:=mp) p.m rv hr hS Xp
  refine Cc (cw4 sp tp dp lp mp wp pp gp H p hp iP) ?_;clear hS
  rintro _ post ⟨H1,fF,rfl,rfl⟩ w hS
  (try simp only[app]at hS);refine Gp ?_
  exact⟨_,⟨H1,fF,rfl,rfl⟩,aR hS⟩
 rw[if_neg h0]
 refine b9 (λh1=>?_) (λh1=>?_)
 ·rw[if_pos h1]
  refine Gn λw hS=>?_
  refine Cg (ZV wp p.m.cF) λw hS=>?_
  refine Cg (ZU wp p.m.cF) λw hS=>?_
  refine Cc (Qo sp tp dp lp p.k p.m.cF.table p.m.cF.after p.n (λC hC=>by have:=hk.len C hC;omega) (λC hC=>(hk.rows C hC).sorted) (by omega) (by omega)) ?_;clear hS
  rintro u post rfl w hS
  try simp only[app]at hS
  obtain⟨H1,fF,hR,hS⟩:=zu (H:=H) (v:=u) hS Xp
  have kN:(p.k.s6 p.m.cF.table p.m.cF.after p.n).length<=64:=by
   unfold g_.s6 oy
   rw[List.length_take];omega
  generalize p.k.s6 p.m.cF.table p.m.cF.after p.n=C at hR kN ⊢
  refine Gp ?_
  refine Cc (dW0 wp p.m.cF H1 u C hR (by omega)) ?_;clear hS
  rintro _ post ⟨⟨q,rfl⟩,rfl⟩ w hS
  try simp only[app]at hS
  have hS:=gF.put (mp:=mp) {p.m with cF:=p.m.cF.fill C} rv (hr.mono fF) hS Xp
  exact⟨_,⟨H1,fF,rfl,rfl⟩,aR hS⟩
 ·rw[if_neg h1]
  have hS:=gF.put (mp:=mp) p.m rv hr hS Xp
  refine Cc (Qp sp tp dp lp mp wp pp gp H p hp iP) ?_;clear hS
  rintro _ post ⟨H1,fF,rfl,rfl⟩ w hS
  (try simp only[app]at hS);refine Gp ?_
  exact⟨_,⟨H1,fF,rfl,rfl⟩,aR hS⟩
abbrev sW(H:bw)(v:Value)(l:List Int):Prop:=fW H 1 v l.length (l.map (Value.int .i64))
abbrev sU(v:Value)(l:List Int):Chunk:=.ob (bI v 3 1 l.length (l.map (Value.int .i64)))
def jy(p:Nat)(H:bw)(d:il):zE:=nr λx:Value × Value=>zU (sW H x.1 (d.l.map Prod.fst)/\sW H x.2 (d.l.map Prod.snd)) [.pt p [x.1,x.2,.int .i64 d.at_,.int .i64 d.left] 349]
section
variable {W w:World} {l F:List Chunk} {p:Nat} {H H':bw}
theorem jy.iff{d:il}:SL W (.ob (jy p H d)::l) w↔∃x:Value × Value,(sW H x.1 (d.l.map Prod.fst)/\sW H x.2 (d.l.map Prod.snd))/\SL W (.pt p [x.1,x.2,.int .i64 d.at_,.int .i64 d.left] 349::l) w:=by
 unfold jy
 simp only[SL.ex,SL.fact,List.cons_append,List.nil_append]
theorem jy.put(d:il)(u v:Value)(h1:sW H u (d.l.map Prod.fst))(h2:sW H v (d.l.map Prod.snd))(hS:SL W l w)(k:kG (.pt p [u,v,.int .i64 d.at_,.int .i64 d.left] 349) l F):SL W (.ob (jy p H d)::F) w:=jy.iff.2 ⟨(u,v),⟨h1,h2⟩,hS.perm k.perm⟩
theorem jy.iK{d:il}(hh:H.le H')(hS:SL W l w)(r:kG (.ob (jy p H d)) l F):SL W (.ob (jy p H' d)::F) w:=by
 obtain⟨x,⟨h1,h2⟩,h3⟩:=jy.iff.1 (hS.perm r.perm)
 exact jy.iff.2 ⟨x,⟨h1.mono hh,h2.mono hh⟩,h3⟩
end
theorem QQ(H:bw):SP 196 [] [] (λv post=>∃p:Nat,v=eF p/\post=[.ob (jy p H nW)]):=by
 intro W F w hS;apply cW9;delta Lp ai bR;(try simp only[app]at hS)
 refine yz rfl ?_
 refine⟨_,rfl,zI hS λp w hS=>?_⟩
 exact⟨_,⟨p,rfl,rfl⟩,SL.b_ (jy.put (H:=H) nW (.slice none 0 0) (.slice none 0 0) (fW.nil _ _) (fW.nil _ _) hS Xr) Xi⟩
theorem SK{l:List (Int × Int)}{id:Int}:(l.map Prod.fst).findIdx? (λx=>decide (x=id))=l.findIdx? λm=>decide (m.1=id):=by
 rw[List.findIdx?_map];rfl
theorem ZN(p:Nat)(H:bw)(u v:Value)(a b:Value)(l:List Int)(id:Int)(hu:sW H u l)(hn:l.length<=1000):
  SP 314 [eF p,.int .i64 id] [.pt p [u,v,a,b] 349,.mem H] (eW (.int .i64 (nj (l.findIdx? λx=>decide (x=id)))) [.pt p [u,v,a,b] 349,.mem H]):=by
 intro W F w hS;apply dIg;delta Nj aF bF ai;(try simp only[app]at hS)
 refine⟨λus w=>∃i:Nat,us=[.int .i64 i]/\i<=l.length/\(∀j (h:j<l.length),j<i->l[j]≠id)/\SL W (.pt p [u,v,a,b] 349::.mem H::F) w,λus _=>match us with|[.int _ i]=>(l.length-i).toNat|_=>0,⟨0,rfl,by omega,λj h hj=>by omega,hS⟩,?_⟩
 clear hS
 rintro v5 w ⟨i,dR,hi,iD,hS⟩
 cases dR
 refine Gp ?_
 refine zn hu ?_
 refine b9 (λh=>?_) (λh=>?_)
 ·have b8:i<l.length:=by omega
  refine Gp ?_
  refine yn hS Xh hu b8 (u:=.int .i64 l[i]) (by simp[b8]) ?_
  refine b9 (λhe=>?_) (λhe=>?_)
  ·have e:l.findIdx? (λx=>decide (x=id))=some i:=List.findIdx?_eq_some_iff_getElem.2 ⟨b8,decide_eq_true he,λj hj=>by simpa using iD j (by omega) hj⟩
   rw[e]
   exact fw hS
  ·refine Gp ?_
   refine⟨⟨i+1,rfl,by omega,λj hj ll=>?_,hS⟩,by dsimp only;omega⟩
   rcases Nat.lt_or_ge j i with h2|h2
   ·exact iD j hj h2
   ·obtain rfl:j=i:=by omega
    exact he
 ·have e:l.findIdx? (λx=>decide (x=id))=none:=List.findIdx?_eq_none_iff.2 λx hx=>by
   obtain⟨j,hj,rfl⟩:=List.getElem_of_mem hx
   exact decide_eq_false (iD j hj (by omega))
  rw[e]
  exact fw hS
theorem bI1{l:List Int}:∀v∈l.map (Value.int .i64),v.oneCell'=true:=by
 intro v hv
 obtain⟨x,_,rfl⟩:=List.mem_map.1 hv
 rfl
section
variable {W w:World} {l F:List Chunk} {H:bw}
theorem ZG{u v:Value}{A B:List Int}{K:Value->World->Prop}(hS:SL W l w)(hr:kG (sU u A) l F)(hm:Has (.mem H) l)(hv:sW H v B)(hn:A.length+B.length<=1000000)(h:∀u' w',SL W (sU u' (A++B)::F) w'->K u' w'):zr 1 8 [.int .i64 0] 3 u v w K:=by
 refine zy (n:=A.length) (m:=B.length) hS hr (o_ hS hm hv) (by simp) rfl bI1 (by omega) (by omega) λu' w' hS=>h u' w' ?_
 unfold sU
 rw[List.length_append,List.map_append];exact hS
theorem Uy{u:Value}{b:Nat}{A:List Int}{x:Int}{K:Value->World->Prop}(hS:SL W l w)(hr:kG (sU u A) l F)(hm:Has (.pt b [.int .i64 x] 3) l)(hn:A.length<=1000000)(h:∀u' w',SL W (sU u' (A++[x])::F) w'->K u' w'):zr 1 8 [.int .i64 0] 3 u (.slice (some ⟨b,0,none⟩) 1 1) w K:=by
 refine zy (n:=A.length) (m:=1) hS hr (lX (cs:=[.int .i64 x]) hS hm rfl) rfl rfl (by simp[Value.oneCell']) (by omega) (by omega) λu' w' hS=>h u' w' ?_
 unfold sU
 rw[List.length_append,List.map_append];exact hS
theorem sU.nil{b:Nat}(hS:SL W l w)(hr:kG (.pt b [] 3) l F):SL W (sU (.slice (some ⟨b,0,none⟩) 0 0) []::F) w:=bI.full (n:=0) (sz:=1) (cells:=[]) rfl (hS.perm hr.perm)
end
theorem QO(p:Nat)(H:bw)(d:il)(id weight:Int)(hn:d.l.length<=1000):SP 267 [eF p,.int .i64 id,.int .i64 weight] [.ob (jy p H d),.mem H] (λv post=>∃(e:Int) (H':bw),H.le H'/\v= .int .i64 e/\post=[.ob (jy p H' (d.add id weight)),.mem H']):=by
 intro W F w hS;apply dw7;delta MB aF bF fR ai;(try simp only[app]at hS)
 have gi:∀{e:Int} {w:World},(id<1\/64<id\/weight<1\/8<weight)->SL W (.ob (jy p H d)::.mem H::F) w->∃post,(∃(e':Int) (H':bw),H.le H'/\Value.int .i64 e= .int .i64 e'/\post=[.ob (jy p H' (d.add id weight)),.mem H'])/\SL W (app post F) w:=λh hS=>by
  rw[show d.add id weight=d by unfold il.add;rw[if_pos h]]
  exact⟨_,⟨_,H,bw.le_refl H,rfl,rfl⟩,hS⟩
 refine Gp ?_
 refine za (λh=>gi (by omega) hS) (λh1=>?_)
 refine Gp ?_
 refine za (λh=>gi (by omega) hS) (λh2=>?_)
 refine Gp ?_
 refine za (λh=>gi (by omega) hS) (λh3=>?_)
 refine Gp ?_
 refine za (λh=>gi (by omega) hS) (λh4=>?_)
 clear gi
 obtain⟨⟨u,v⟩,⟨hu,hv⟩,hS⟩:=jy.iff.1 hS
 simp only at hu hv hS
 refine Cg (ZN p H u v (.int .i64 d.at_) (.int .i64 d.left) (d.l.map Prod.fst) id hu (by rw[List.length_map];exact hn)) λw hS=>?_
 have ha:d.add id weight=match vK d id with|some _=>d|none=>{d with l:=d.l++[(id,weight)]}:=by
  unfold il.add;rw[if_neg (by omega)];rfl
 rw[ha,SK]
 unfold vK
 cases hf:d.l.findIdx? (λm=>decide (m.1=id)) with
 | some i=>
  refine za (λ_=>?_) (λh=>by simp only[nj]at h;omega)
  exact⟨_,⟨_,H,bw.le_refl H,rfl,rfl⟩,SL.b_ (jy.put d u v hu hv hS Xr) Xi⟩
 | none=>
  refine za (λh=>by simp only[nj]at h;omega) (λ_=>?_)
  have l1:(d.l.map Prod.fst).length=d.l.length:=List.length_map ..
  have l2:(d.l.map Prod.snd).length=d.l.length:=List.length_map ..
  refine Gm λb1 w hS=>?_
  have hS:=sU.nil hS Xr
  refine ZG hS Xr Xh hu (by rw[l1];simp;omega) λu1 w hS=>?_
  refine Gb λb2 w hS=>?_
  refine Uy hS Xr (x:=id) Xh (by rw[List.nil_append,l1];omega) λu2 w hS=>?_
  rw[List.nil_append,show d.l.map Prod.fst++[id]=(d.l++[(id,weight)]).map Prod.fst by simp]at hS
  have o1:u2.oneCell'=true:=bI.one hS
  refine Gm λb3 w hS=>?_
  have hS:=sU.nil hS Xr
  refine ZG hS Xr Xh hv (by rw[l2];simp;omega) λu3 w hS=>?_
  refine Gb λb4 w hS=>?_
  refine Uy hS Xr (x:=weight) Xh (by rw[List.nil_append,l2];omega) λu4 w hS=>?_
  rw[List.nil_append,show d.l.map Prod.snd++[weight]=(d.l++[(id,weight)]).map Prod.snd by simp]at hS
  have o2:u4.oneCell'=true:=bI.one hS
  refine Gn λw hS=>?_
  obtain⟨H1,fF,l9,hS⟩:=zu (H:=H) (v:=u2) hS Xp
  obtain⟨H2,f',l_,hS⟩:=zu (H:=H1) (v:=u4) hS Xp
  exact⟨_,⟨_,H2,bw.le_trans fF f',rfl,rfl⟩,SL.b_ (jy.put {d with l:=d.l++[(id,weight)]} u2 u4 (l9.mono f') l_ hS Xr) Xi⟩
theorem P2{α β:Type}(f:α->β)(l:List α)(i:Nat):(l.map f).take i++(l.map f).drop (i+1)=(l.eraseIdx i).map f:=by
 rw[List.eraseIdx_eq_take_drop_succ];simp
theorem QP(p:Nat)(H:bw)(d:il)(id:Int)(hn:d.l.length<=1000)(hd:d.Ok):SP 266 [eF p,.int .i64 id] [.ob (jy p H d),.mem H] (λv post=>∃(e:Int) (H':bw),H.le H'/\v= .int .i64 e/\post=[.ob (jy p H' (d.del id)),.mem H']):=by
 intro W F w hS;apply dw6;delta MA aF bF fR aW d_ ai;(try simp only[app]at hS)
 obtain⟨⟨u,v⟩,⟨hu,hv⟩,hS⟩:=jy.iff.1 hS
 simp only at hu hv hS
 have kM:=hd.mO
 have d_5:=hd.xe
 refine Cg (ZN p H u v (.int .i64 d.at_) (.int .i64 d.left) (d.l.map Prod.fst) id hu (by rw[List.length_map];exact hn)) λw hS=>?_
 rw[SK]
 unfold il.del vK
 cases hf:d.l.findIdx? (λm=>decide (m.1=id)) with
 | none=>
  refine za (λ_=>?_) (λh=>by simp only[nj]at h;omega)
  exact⟨_,⟨_,H,bw.le_refl H,rfl,rfl⟩,SL.b_ (jy.put d u v hu hv hS Xr) Xi⟩
 | some i=>
  have hi:i<d.l.length:=(List.findIdx?_eq_some_iff_getElem.1 hf).1
  have l1:(d.l.map Prod.fst).length=d.l.length:=List.length_map ..
  have l2:(d.l.map Prod.snd).length=d.l.length:=List.length_map ..
  have A6:fW H 1 u d.l.length ((d.l.map Prod.fst).map (Value.int .i64)):=by rw[<- l1];exact hu
  have oW:fW H 1 v d.l.length ((d.l.map Prod.snd).map (Value.int .i64)):=by rw[<- l2];exact hv
  simp only[nj]
  refine za (λh=>by omega) (λ_=>?_)
  have cut:∀{v:Value} {L:List Int},L.length=d.l.length->fW H 1 v d.l.length (L.map (Value.int .i64))->∀{K:Value->Prop} {kk:IntKind},(∀x,sW H x (L.take i)->K x)->iQ 1 v none (some (.int kk (i:Int))) none K:=λ{v L} hl hv {K kk} hK=>qi hv (by omega) λx hx=>hK x (by
   have e:(L.take i).length=i:=by rw[List.length_take];omega
   unfold sW;rw[e,List.map_take];rw[Nat.mul_one]at hx;exact hx)
  have Ps:∀{v:Value} {L:List Int},L.length=d.l.length->fW H 1 v d.l.length (L.map (Value.int .i64))->∀{K:Value->Prop} {kk:IntKind},(∀x,sW H x (L.drop (i+1))->K x)->iQ 1 v (some (.int kk ((i+1:Nat):Int))) none none K:=λ{v L} hl hv {K kk} hK=>Qm hv (by omega) λx hx=>hK x (by
   have e:(L.drop (i+1)).length=d.l.length-(i+1):=by rw[List.length_drop];omega
   unfold sW;rw[e,List.map_drop];rw[Nat.mul_one]at hx;exact hx)
  refine Gn λw hS=>?_
  refine cut l1 A6 λa1 ha1=>?_
  refine Gp ?_
  refine Ps l1 A6 λa2 vu=>?_
  refine Gb λb1 w hS=>?_
  have hS:=sU.nil hS Xr
  refine ZG hS Xr Xh ha1 (by rw[List.length_take];simp;omega) λu1 w hS=>?_
  refine Gp ?_
  refine ZG hS Xr Xh vu (by rw[List.nil_append,List.length_take,List.length_drop];omega) λu2 w hS=>?_
  rw[List.nil_append,P2]at hS
  have o1:u2.oneCell'=true:=bI.one hS
  refine Gn λw hS=>?_
  refine cut l2 oW λa3 ha3=>?_
  refine Gp ?_
  refine Ps l2 oW λa4 ha4=>?_
  refine Gb λb2 w hS=>?_
  have hS:=sU.nil hS Xr
  refine ZG hS Xr Xh ha3 (by rw[List.length_take];simp;omega) λu3 w hS=>?_
  refine Gp ?_
  refine ZG hS Xr Xh ha4 (by rw[List.nil_append,List.length_take,List.length_drop];omega) λu4 w hS=>?_
  rw[List.nil_append,P2]at hS
  have o2:u4.oneCell'=true:=bI.one hS
  refine Gn λw hS=>?_
  obtain⟨H1,fF,l9,hS⟩:=zu (H:=H) (v:=u2) hS Xp
  obtain⟨H2,f',l_,hS⟩:=zu (H:=H1) (v:=u4) hS Xp
  have l9:=l9.mono f'
  have iS:=bw.le_trans fF f'
  refine⟨λus w=>us=[]/\SL W (.pt p [u2,u4,.int .i64 d.at_,.int .i64 (if (i:Int)=d.at_ then 0 else d.left)] 349::.mem H2::F) w,?_,?_⟩
  ·refine b9 (λh=>?_) (λh=>?_)
   ·rw[if_pos h]
    refine Gn λw hS=>?_
    (first|exact aR hS|exact⟨rfl,aR hS⟩)
   ·rw[if_neg h]
    exact⟨rfl,aR hS⟩
  clear hS
  rintro w ⟨-,hS⟩
  refine b9 (λh=>?_) (λh=>?_)
  ·rw[if_pos h]
   refine Gn λw hS=>?_
   exact⟨_,⟨_,H2,iS,rfl,rfl⟩,SL.b_ (jy.put ⟨d.l.eraseIdx i,d.at_-1,if (i:Int)=d.at_ then 0 else d.left⟩ u2 u4 l9 l_ hS Xr) Xi⟩
  ·rw[if_neg h]
   exact⟨_,⟨_,H2,iS,rfl,rfl⟩,SL.b_ (jy.put ⟨d.l.eraseIdx i,d.at_,if (i:Int)=d.at_ then 0 else d.left⟩ u2 u4 l9 l_ hS Xr) Xi⟩
theorem qM(p:Nat)(H:bw)(d:il)(hd:d.Ok)(hn:d.l.length<=1000):SP 268 [eF p] [.ob (jy p H d),.mem H] (λv post=>v= .tuple #[.int .i64 d.next.2,.bool (decide (d.l≠[]))]/\post=[.ob (jy p H d.next.1),.mem H]):=by
 intro W F w hS;apply dw8;delta MC aF bF fR ai;(try simp only[app]at hS)
 have kM:=hd.xe
 have d_4:=hd.mO
 have hl8:=hd.C5
 have ED:=hd.C4
 obtain⟨⟨u,v⟩,⟨hu,hv⟩,hS⟩:=jy.iff.1 hS
 simp only at hu hv hS
 have l1:(d.l.map Prod.fst).length=d.l.length:=List.length_map ..
 have l2:(d.l.map Prod.snd).length=d.l.length:=List.length_map ..
 refine Gp ?_
 refine zn hu ?_
 refine b9 (λh=>?_) (λh=>?_)
 ·have he:d.l=[]:=List.eq_nil_of_length_eq_zero (by omega)
  have e:d.next=(d,0):=by unfold il.next;rw[if_pos he]
  rw[e,decide_eq_false (by simp[he])]
  exact⟨_,⟨rfl,rfl⟩,SL.b_ (jy.put d u v hu hv hS Xr) Xi⟩
 have jJ:d.l≠[]:=λe=>h (by rw[e];rfl)
 have j7:0<=d.place/\d.place<d.l.length:=by
  unfold il.place
  have:=hd.neg
  split
  ·split<;>omega
  ·omega
 obtain⟨j,hj⟩:∃j:Nat,d.place=j:=⟨d.place.toNat,by omega⟩
 have jI:j<d.l.length:=by omega
 have vD:d.l[j]?=some d.mB:=by
  unfold il.mB
  rw[hj,Int.toNat_natCast,List.getElem?_eq_getElem jI];rfl
 have hw:=hd.w _ (List.mem_of_getElem? vD)
 have hm1:((d.l.map Prod.fst).map (Value.int .i64))[j]?=some (.int .i64 d.mB.1):=by simp[vD]
 have tc:((d.l.map Prod.snd).map (Value.int .i64))[j]?=some (.int .i64 d.mB.2):=by simp[vD]
 refine⟨λus w=>us=[]/\SL W (.pt p [u,v,.int .i64 j,.int .i64 (if d.left=0 then d.mB.2 else d.left)] 349::.mem H::F) w,?_,?_⟩
 ·refine b9 (λh0=>?_) (λh0=>?_)
  ·rw[if_pos h0]
   have e:d.place=if (d.l.length:Int)<=d.at_+1 then 0 else d.at_+1:=by unfold il.place;rw[if_pos h0]
   refine Gn λw hS=>?_
   refine⟨λus w=>us=[]/\SL W (.pt p [u,v,.int .i64 j,.int .i64 d.left] 349::.mem H::F) w,?_,?_⟩
   ·refine Gn λw hS=>?_
    refine zn hu ?_
    refine Gp ?_
    rw[l1]
    refine za (λh1=>?_) (λh1=>?_)
    ·rw[if_pos (by omega)]at e
     have:j=0:=by omega
     subst this
     refine Gn λw hS=>?_
     (first|exact⟨rfl,hS⟩|exact hS)
    ·rw[if_neg (by omega)]at e
     have xM:d.at_+1=(j:Int):=by omega
     rw[xM]at hS
     exact⟨rfl,aR hS⟩
   clear hS
   rintro w ⟨-,hS⟩
   refine Gn λw hS=>?_
   refine yn hS Xh hv (by omega) tc ?_
   refine Gn λw hS=>?_
   (first|exact aR hS|exact⟨rfl,aR hS⟩)
  ·rw[if_neg h0]
   have e:d.place=d.at_:=by unfold il.place;rw[if_neg h0]
   rw[show d.at_=(j:Int) by omega]at hS
   exact⟨rfl,aR hS⟩
 clear hS
 rintro w ⟨-,hS⟩
 refine Gn λw hS=>?_
 refine yn hS Xh hu (by omega) hm1 ?_
 have e:d.next=(⟨d.l,d.place,(if d.left=0 then d.mB.2 else d.left)-1⟩,d.mB.1):=by unfold il.next;rw[if_neg jJ]
 rw[e,decide_eq_true jJ,hj]
 exact⟨_,⟨rfl,rfl⟩,SL.b_ (jy.put ⟨d.l,j,(if d.left=0 then d.mB.2 else d.left)-1⟩ u v hu hv hS Xr) Xi⟩
theorem qW(H:bw)(v:Value)(C:List Row)(after n:Int)(hv:fW H 2 v C.length (C.map iu).flatten)(hn:C.length<=1000000):
  SP 270 [.int .i64 after,.int .i64 n,v] [.mem H] (eW (.tuple #[.int .i64 (mQ after C),.bool (decide ((C.length:Int)<n))]) [.mem H]):=by
 intro W F w hS;apply dFa;delta ME aF a_ ai;(try simp only[app]at hS)
 refine zn hv ?_
 refine b9 (λh=>?_) (λh=>?_)
 ·obtain⟨j,hj⟩:∃j:Nat,j+1=C.length:=⟨C.length-1,by omega⟩
  have jI:j<C.length:=by omega
  rw[T' (after:=after) hj jI]
  refine zn hv ?_
  refine Gp ?_
  rw[show (C.length:Int)-1=(j:Int) by omega]
  refine zA hS Xh jG hv (x:=C[j]) (List.getElem?_eq_getElem jI) jI (i:=0) rfl ?_
  refine zn hv ?_
  refine Gp ?_
  (exact fw hS)
 ·have he:C=[]:=List.eq_nil_of_length_eq_zero (by omega)
  rw[show mQ after C=after by rw[he];rfl]
  refine zn hv ?_
  refine Gp ?_
  (exact fw hS)
abbrev sQ(k:ir)(rv:Value):List Value:=[.int .i64 k.n,.int .i64 k.state,.int .i64 k.id,.int .i64 k.table,.int .i64 k.mark,.int .i64 k.after,.int .i64 k.iJ,.bool k.last,rv]
abbrev DA(H:bw)(v:Value)(C:List Row):Prop:=fW H 2 v C.length (C.map iu).flatten
def iH(wp:Nat)(H:bw)(k:ir):zE:=nr λrv:Value=>zU (DA H rv k.rows) [.pt wp (sQ k rv) 214]
section
variable {W w:World} {l F:List Chunk} {wp:Nat} {H H':bw} {k:ir}
theorem iH.iff:SL W (.ob (iH wp H k)::l) w↔∃rv,DA H rv k.rows/\SL W (.pt wp (sQ k rv) 214::l) w:=by
 unfold iH
 simp only[SL.ex,SL.fact,List.cons_append,List.nil_append]
theorem iH.put(k:ir)(rv:Value)(h:DA H rv k.rows)(hS:SL W l w)(p:kG (.pt wp (sQ k rv) 214) l F):SL W (.ob (iH wp H k)::F) w:=iH.iff.2 ⟨rv,h,hS.perm p.perm⟩
theorem iH.iK(hh:H.le H')(hS:SL W l w)(r:kG (.ob (iH wp H k)) l F):SL W (.ob (iH wp H' k)::F) w:=by
 obtain⟨rv,h1,h2⟩:=iH.iff.1 (hS.perm r.perm)
 exact iH.iff.2 ⟨rv,h1.mono hh,h2⟩
end
section
variable (wp:Nat) (k:ir) (H:bw)
theorem q8(mark id table after:Int):SP 269 [eF wp,.int .i64 mark,.int .i64 id,.int .i64 table,.int .i64 after] [.ob (iH wp H k)] (λv post=>(∃q,v= .bool q)/\post=[.ob (iH wp H (k.oE mark id table after))]):=by
 intro W F w hS;apply dw9;delta MD aF bF cw ai bR;(try simp only[app]at hS)
 obtain⟨rv,hr,hS⟩:=iH.iff.1 hS
 have gi:∀{w:World},k.uW mark id table after->SL W (.pt wp (sQ k rv) 214::F) w->∃post,((∃q,Value.bool false= .bool q)/\post=[.ob (iH wp H (k.oE mark id table after))])/\SL W (app post F) w:=λh hS=>by
  rw[show k.oE mark id table after=k from if_pos h]
  exact⟨_,⟨⟨_,rfl⟩,rfl⟩,SL.b_ (iH.put k rv hr hS Xr) Xi⟩
 refine Gp ?_
 refine za (λh=>gi (.inl h) hS) (λh0=>?_)
 refine Gp ?_
 refine za (λh=>gi (.inr (by omega)) hS) (λh1=>?_)
 refine Gp ?_
 refine za (λh=>gi (.inr (by omega)) hS) (λh2=>?_)
 refine Gp ?_
 refine za (λh=>gi (.inr (by omega)) hS) (λh3=>?_)
 refine Gp ?_
 refine za (λh=>gi (.inr (by omega)) hS) (λh4=>?_)
 refine Gp ?_
 refine za (λh=>gi (.inr (by omega)) hS) (λh5=>?_)
 refine Gp ?_
 refine za (λh=>gi (.inr (by omega)) hS) (λh6=>?_)
 refine Gp ?_
 refine za (λh=>gi (.inr (by omega)) hS) (λh7=>?_)
 refine Gp ?_
 refine za (λh=>gi (.inr (by omega)) hS) (λh8=>?_)
 clear gi
 have cR:¬k.uW mark id table after:=by unfold ir.uW;omega
 rw[show k.oE mark id table after=⟨k.n,1,mark,after,id,table,[],0,false⟩ from if_neg cR]
 refine Gn λw hS=>?_
 exact⟨_,⟨⟨_,rfl⟩,rfl⟩,SL.b_ (iH.put (H:=H) (wp:=wp) ⟨k.n,1,mark,after,id,table,[],0,false⟩ (.slice none 0 0) (fW.nil _ _) hS Xr) Xi⟩
theorem q9:SP 211 [eF wp] [.ob (iH wp H k)] (λv post=>(∃q,v= .bool q)/\post=[.ob (iH wp H k.shut)]):=by
 intro W F w hS;apply c_p;delta LG aF bF fR cw ai;(try simp only[app]at hS)
 obtain⟨rv,hr,hS⟩:=iH.iff.1 hS
 unfold ir.shut
 refine b9 (λh=>?_) (λh=>?_)
 ·rw[if_neg h]
  exact⟨_,⟨⟨_,rfl⟩,rfl⟩,SL.b_ (iH.put k rv hr hS Xr) Xi⟩
 ·rw[if_pos (by omega)]
  refine Gn λw hS=>?_
  exact⟨_,⟨⟨_,rfl⟩,rfl⟩,SL.b_ (iH.put {k with state:=3} rv hr hS Xr) Xi⟩
theorem Q4(mark:Int):SP 273 [eF wp,.int .i64 mark] [.ob (iH wp H k)] (λv post=>(∃q,v= .bool q)/\post=[.ob (iH wp H (k.low mark))]):=by
 intro W F w hS;apply dFd;delta MH aF bF fR cw ai;(try simp only[app]at hS)
 obtain⟨rv,hr,hS⟩:=iH.iff.1 hS
 unfold ir.low
 refine b9 (λh=>?_) (λh=>?_)
 ·rw[if_neg (by omega)]
  exact⟨_,⟨⟨_,rfl⟩,rfl⟩,SL.b_ (iH.put k rv hr hS Xr) Xi⟩
 ·refine b9 (λh2=>?_) (λh2=>?_)
  ·rw[if_neg (by omega)]
   exact⟨_,⟨⟨_,rfl⟩,rfl⟩,SL.b_ (iH.put k rv hr hS Xr) Xi⟩
  ·rw[if_pos (by omega)]
   refine Gn λw hS=>?_
   exact⟨_,⟨⟨_,rfl⟩,rfl⟩,SL.b_ (iH.put {k with state:=4} rv hr hS Xr) Xi⟩
theorem qc(x:mu):SP 271 [eF wp,agg (iG x)] [.ob (iH wp H k)] (eW (.bool (k.waits x.kind x.mark)) [.ob (iH wp H k)]):=by
 intro W F w hS;apply dFb;delta MF aF bF a_ cw ai;(try simp only[app]at hS)
 obtain⟨rv,hr,hS⟩:=iH.iff.1 hS
 refine zC hS λxb w hS=>?_
 unfold iG at hS
 unfold ir.waits
 refine Gn λw hS=>?_
 refine za (λh=>?_) (λh=>?_)
 ·refine b9 (λh2=>?_) (λh2=>?_)
  ·refine Gp ?_
   rw[show decide (x.kind=2/\x.mark=k.mark/\(k.state=1\/k.state=2))=decide (x.mark=k.mark) by rw[decide_eq_decide];omega]
   exact⟨_,⟨rfl,rfl⟩,SL.b_ (iH.put k rv hr hS Xr) Xi⟩
  ·refine b9 (λh3=>?_) (λh3=>?_)
   ·refine Gp ?_
    rw[show decide (x.kind=2/\x.mark=k.mark/\(k.state=1\/k.state=2))=decide (x.mark=k.mark) by rw[decide_eq_decide];omega]
    exact⟨_,⟨rfl,rfl⟩,SL.b_ (iH.put k rv hr hS Xr) Xi⟩
   ·rw[decide_eq_false (by omega)]
    exact⟨_,⟨rfl,rfl⟩,SL.b_ (iH.put k rv hr hS Xr) Xi⟩
 ·rw[decide_eq_false (by omega)]
  exact⟨_,⟨rfl,rfl⟩,SL.b_ (iH.put k rv hr hS Xr) Xi⟩
end
theorem q7(wp:Nat)(k:ir)(H:bw)(v:Value)(C:List Row)(hv:DA H v C)(hn:C.length<=1000000):
  SP 209 [eF wp,v] [.ob (iH wp H k),.mem H] (λu post=>(∃q,u= .bool q)/\∃H',H.le H'/\post=[.ob (iH wp H' (k.fill C)),.mem H']):=by
 intro W F w hS;apply c_m;delta LC aF bF a_ fR cw ai dw;(try simp only[app]at hS)
 obtain⟨rv,hr,hS⟩:=iH.iff.1 hS
 have gi:∀{w:World},k.vo C->SL W (.pt wp (sQ k rv) 214::.mem H::F) w->∃post,((∃q,Value.bool false= .bool q)/\∃H',H.le H'/\post=[.ob (iH wp H' (k.fill C)),.mem H'])/\SL W (app post F) w:=λh hS=>by
  rw[show k.fill C=k from if_pos h]
  exact⟨_,⟨⟨_,rfl⟩,H,bw.le_refl H,rfl⟩,SL.b_ (iH.put k rv hr hS Xr) Xi⟩
 refine Gp ?_
 refine za (λh=>gi (.inl h) hS) (λh1=>?_)
 refine zn hv ?_
 refine Gp ?_
 refine za (λh=>gi (.inr (.inl (by omega))) hS) (λh2=>?_)
 refine Gp ?_
 refine⟨λus w=>∃i:Nat,us=[.int .i64 (mQ k.after (C.take i)),.int .i64 i]/\i<=C.length/\np k.after (C.take i)=true/\SL W (.pt wp (sQ k rv) 214::.mem H::F) w,
  λus _=>match us with|[_,.int _ i]=>(C.length-i).toNat|_=>0,⟨0,rfl,by omega,rfl,hS⟩,?_⟩
 clear hS
 rintro v5 v29 w ⟨i,dR,hi,EN,hS⟩
 cases dR
 refine zn hv ?_
 refine b9 (λh=>?_) (λh=>?_)
 ·have b8:i<C.length:=by omega
  have hx:C[i]?=some C[i]:=List.getElem?_eq_getElem b8
  have kK:C.take (i+1)=C.take i++[C[i]]:=List.take_succ_eq_append_getElem b8
  have iD:np k.after C=true->np k.after (C.take (i+1))=true:=λh=>by
   rw[<- List.take_append_drop (i+1) C,De,Bool.and_eq_true]at h;exact h.1
  have oV:np k.after (C.take (i+1))=decide (mQ k.after (C.take i)<C[i].key/\C[i].key<=1099511627776):=by
   rw[kK,De,EN];unfold np;simp[np]
  have kX:∀{w:World},¬(mQ k.after (C.take i)<C[i].key/\C[i].key<=1099511627776)->SL W (.pt wp (sQ k rv) 214::.mem H::F) w->∃post,((∃q,Value.bool false= .bool q)/\∃H',H.le H'/\post=[.ob (iH wp H' (k.fill C)),.mem H'])/\SL W (app post F) w:=λhb hS=>by
   refine gi (.inr (.inr ?_)) hS
   cases hq:np k.after C with
   | false=>rfl
   | true=>rw[iD hq]at oV;exact absurd (of_decide_eq_true oV.symm) hb
  refine zA hS Xh jG hv hx b8 (i:=0) rfl ?_
  refine Gp ?_
  refine za (λh=>kX (by omega) hS) (λh3=>?_)
  refine zA hS Xh jG hv hx b8 (i:=0) rfl ?_
  refine Gp ?_
  refine za (λh=>kX (by omega) hS) (λh4=>?_)
  refine zA hS Xh jG hv hx b8 (i:=0) rfl ?_
  refine Gp ?_
  refine⟨⟨i+1,?_,by omega,?_,aR hS⟩,by dsimp only;omega⟩
  ·rw[kK,T_]
  ·rw[oV];exact decide_eq_true (by omega)
 ·have he:C.take i=C:=List.take_of_length_le (by omega)
  rw[he]at EN
  have cR:¬k.vo C:=by
   rintro (h|h|h)
   ·exact h1 h
   ·omega
   ·rw[EN]at h;cases h
  rw[show k.fill C={k with state:=2,rows:=C,iJ:=mQ k.after C,last:=decide ((C.length:Int)<k.n)} from if_neg cR]
  clear gi
  refine Gm λb1 w hS=>?_
  have hS:SL W (.ob (bI (.slice (some ⟨b1,0,none⟩) 0 0) 52 2 0 [])::_) w:=bI.full (n:=0) (sz:=2) (cells:=[]) rfl hS
  refine zy (n:=0) (m:=C.length) hS Xr (o_ hS Xh hv) (l8 jG C) rfl (pD s7 C) (by omega) (by omega) λu w hS=>?_
  rw[List.nil_append,Nat.zero_add]at hS
  have o1:u.oneCell'=true:=bI.one hS
  refine Gn λw hS=>?_
  obtain⟨H1,fF,hR,hS⟩:=zu (H:=H) (v:=u) hS Xp
  refine Cg (qW H1 v C k.after k.n (hv.mono fF) hn) λw hS=>?_
  exact⟨_,⟨⟨_,rfl⟩,H1,fF,rfl⟩,SL.b_ (iH.put (wp:=wp) {k with state:=2,rows:=C,iJ:=mQ k.after C,last:=decide ((C.length:Int)<k.n)} u hR hS Xr) Xi⟩
theorem Q5(wp:Nat)(k:ir)(H:bw)(v:Value)(l:List iy)(hv:fW H 4 v l.length (l.map jE).flatten)(hn:k.rows.length<=1000000)(hl:l.length<=140737488351232):
  SP 318 [eF wp,v] [.ob (iH wp H k),.mem H] (λu post=>(∃q,u= .int .i64 q)/\∃H',H.le H'/\post=[.ob (iH wp H' (k.tA l)),.mem H']):=by
 intro W F w hS;apply dIk;delta Nn aF bF a_ fR dW ai dw bR;(try simp only[app]at hS)
 obtain⟨rv,hr,hS⟩:=iH.iff.1 hS
 unfold ir.tA
 refine b9 (λh=>?_) (λh=>?_)
 ·rw[if_neg h]
  exact⟨_,⟨⟨_,rfl⟩,H,bw.le_refl H,rfl⟩,SL.b_ (iH.put k rv hr hS Xr) Xi⟩
 rw[if_pos (by omega)]
 have hS:SL W (jC (.slice none 0 0) []::_) w:=jC.nil hS
 refine⟨λus w=>∃(i:Nat) (ou:Value),us=[ou,.int .i64 i]/\i<=k.rows.length/\SL W (jC ou ((k.rows.take i).filter λr=>!lg k.table l r)::.pt wp (sQ k rv) 214::.mem H::F) w,
  λus _=>match us with|[_,.int _ i]=>(k.rows.length-i).toNat|_=>0,⟨0,.slice none 0 0,rfl,by omega,hS⟩,?_⟩
 clear hS
 rintro v5 v6 w ⟨i,ou,dR,hi,hS⟩
 cases dR
 refine Gp ?_
 refine zn hr ?_
 refine b9 (λh=>?_) (λh=>?_)
 ·have b8:i<k.rows.length:=by omega
  have hx:k.rows[i]?=some k.rows[i]:=List.getElem?_eq_getElem b8
  have kK:k.rows.take (i+1)=k.rows.take i++[k.rows[i]]:=List.take_succ_eq_append_getElem b8
  have pP:((k.rows.take i).filter λr=>!lg k.table l r).length<=1000000:=by
   have:=List.length_filter_le (λr=>!lg k.table l r) (k.rows.take i)
   rw[List.length_take]at this;omega
  generalize k.rows[i]=r at *
  refine⟨λus w=>∃(j:Nat),us=[.bool (lg k.table (l.take j) r),.int .i64 j]/\j<=l.length/\SL W (jC v5 ((k.rows.take i).filter λr=>!lg k.table l r)::.pt wp (sQ k rv) 214::.mem H::F) w,
   λus _=>match us with|[_,.int _ j]=>(l.length-j).toNat|_=>0,⟨0,rfl,by omega,hS⟩,?_⟩
  clear hS
  rintro v7 v8 w ⟨j,dR,hj,hS⟩
  cases dR
  refine zn hv ?_
  refine b9 (λh=>?_) (λh=>?_)
  ·have jI:j<l.length:=by omega
   have pC:l[j]?=some l[j]:=List.getElem?_eq_getElem jI
   have hh:=R9 k.table l j jI r
   generalize l[j]=c at *
   refine Gn λw hS=>?_
   refine yO (λhq=>?_) (λhq=>?_)
   ·refine Gp ?_
    refine⟨⟨j+1,?_,by omega,aR hS⟩,by dsimp only;omega⟩
    rw[hh,hq];rfl
   rw[hq,Bool.false_or]at hh
   refine zA hS Xh mP hv pC jI (i:=0) rfl ?_
   refine b9 (λh2=>?_) (λh2=>?_)
   ·refine zA hS Xh mP hv pC jI (i:=1) rfl ?_
    refine Gp ?_
    refine zA hS Xh jG hr hx b8 (i:=0) rfl ?_
    refine Gp ?_
    refine⟨⟨j+1,?_,by omega,aR hS⟩,by dsimp only;omega⟩
    rw[hh,show decide (c.table=k.table/\c.key=r.key)=decide (c.key=r.key) by rw[decide_eq_decide];exact⟨λx=>x.2,λx=>⟨h2,x⟩⟩]
   ·refine Gp ?_
    refine⟨⟨j+1,?_,by omega,aR hS⟩,by dsimp only;omega⟩
    rw[hh,decide_eq_false (λx=>h2 x.1)]
  ·rw[List.take_of_length_le (show l.length<=j by omega)]
   refine Gp ?_
   refine zz (λhq=>?_) (λhq=>?_)
   ·refine Gp ?_
    refine zK hS Xh jG hr hx b8 ?_
    refine Gb λyb w hS=>?_
    refine zX (n:=((k.rows.take i).filter λr=>!lg k.table l r).length) (xs:=(k.rows.take i).filter λr=>!lg k.table l r) (y:=r) (enc:=iu) hS Xr Xh jG s7 rfl (by omega) (by omega) λv2 w hS=>?_
    have hS:=hS.o9 (x:=r)
    rw[show ((k.rows.take i).filter λr=>!lg k.table l r)++[r]=(k.rows.take (i+1)).filter λr=>!lg k.table l r by rw[kK,List.filter_append];simp[hq]]at hS
    refine Gp ?_
    exact⟨⟨i+1,v2,rfl,by omega,aR hS⟩,by dsimp only;omega⟩
   ·rw[show ((k.rows.take i).filter λr=>!lg k.table l r)=(k.rows.take (i+1)).filter λr=>!lg k.table l r by rw[kK,List.filter_append];simp[hq]]at hS
    refine Gp ?_
    exact⟨⟨i+1,v5,rfl,by omega,aR hS⟩,by dsimp only;omega⟩
 ·rw[List.take_of_length_le (show k.rows.length<=i by omega)]at hS
  have pP:(k.rows.filter λr=>!lg k.table l r).length<=k.rows.length:=List.length_filter_le _ _
  have o1:v5.oneCell'=true:=bI.one hS
  refine Gp ?_
  refine zn hr ?_
  refine zx hS (v:=v5) (t:=52) (sz:=2) (n:=(k.rows.filter λr=>!lg k.table l r).length) (cells:=((k.rows.filter λr=>!lg k.table l r).map iu).flatten) Xh ?_
  refine Gn λw hS=>?_
  obtain⟨H1,fF,hR,hS⟩:=zu (H:=H) (v:=v5) hS Xp
  exact⟨_,⟨⟨_,rfl⟩,H1,fF,rfl⟩,SL.b_ (iH.put {k with rows:=k.rows.filter λr=>!lg k.table l r} v5 hR hS Xr) Xi⟩
def JT(wp:Nat)(k:ir)(H:bw)(mark aI:Int)(u:Value)(post:List Chunk):Prop:=∃(x:pd) (H':bw) (q:Bool) (k':ir),H.le H'/\u= .tuple #[agg (kT x),.bool q]/\post=[.ob (iH wp H' k'),.mem H']/\(∀v∈kT x,v.oneCell'=true) /\
  ((q=false/\k.high mark aI=(k',none))\/(q=true/\∃t,k.high mark aI=(k',some t)/\pc H' x t))
theorem ZR(wp:Nat)(k:ir)(H:bw)(mark aI:Int)(hn:k.rows.length<=1000000):SP 274 [eF wp,.int .i64 mark,.int .i64 aI] [.ob (iH wp H k),.mem H] (JT wp k H mark aI):=by
 intro W F w hS;apply dFe;delta MI aF bF a_ aW d_ ai dw bR;(try simp only[app]at hS)
 obtain⟨rv,hr,hS⟩:=iH.iff.1 hS
 have gi:∀{w:World} {rb:Nat},k.tT mark aI->SL W (.pt rb [.int .i64 0,.slice none 0 0,.slice none 0 0] 100::.pt wp (sQ k rv) 214::.mem H::F) w->∃post,JT wp k H mark aI (.tuple #[agg (kT uf),.bool false]) post/\SL W (app post F) w:=λh hS=>by
  have e:k.high mark aI=(k,none):=by unfold ir.high;rw[if_pos h]
  exact⟨_,⟨uf,H,false,k,bw.le_refl H,rfl,rfl,by simp[kT,Value.oneCell'],.inl ⟨rfl,e⟩⟩,SL.b_ (iH.put k rv hr hS Xr) Xi⟩
 refine Gb λrb w hS=>?_
 refine za (λh=>?_) (λh1=>?_)
 ·refine Gn λw hS=>?_
  exact gi (.inl h) hS
 refine b9 (λh=>?_) (λh2=>?_)
 ·refine Gn λw hS=>?_
  exact gi (.inr (.inl h)) hS
 refine b9 (λh=>?_) (λh3=>?_)
 ·refine Gn λw hS=>?_
  exact gi (.inr (.inr (by omega))) hS
 refine b9 (λh=>?_) (λh4=>?_)
 ·refine Gn λw hS=>?_
  exact gi (.inr (.inr (by omega))) hS
 clear gi
 have cR:¬k.tT mark aI:=by unfold ir.tT;omega
 have e:k.high mark aI=(m9 k.n,some ⟨aI,kZ k aI,[wQ k]⟩):=by unfold ir.high;rw[if_neg cR]
 refine⟨λus w=>∃(b nb:Nat),us=[eF b]/\SL W (.pt b [.int .i64 aI,.slice none 0 0,.slice (some ⟨nb,0,none⟩) 1 1] 100::.pt nb [.int .i64 2,.int .i64 k.id,.int .i64 0,.int .i64 0,.int .i64 0,.int .i64 k.iJ,.bool k.last] 295::.pt rb [.int .i64 0,.slice none 0 0,.slice none 0 0] 100::.pt wp (sQ k rv) 214::.mem H::F) w,?_,?_⟩
 ·refine Gn λw hS=>?_
  refine⟨?_,?_⟩
  ·refine Gb λnb w hS=>?_
   refine Gb λb w hS=>?_
   exact⟨b,nb,rfl,aR hS⟩
  ·refine Gb λb w hS=>?_
   refine Gb λnb w hS=>?_
   exact⟨b,nb,rfl,aR hS⟩
 clear hS
 rintro v8 w ⟨b,nb,dR,hS⟩
 cases dR
 have A0:(kZ k aI).length=k.rows.length:=List.length_map ..
 have hS:SL W (.ob (bI (.slice none 0 0) 123 5 ((kZ k aI).take 0).length (((kZ k aI).take 0).map oO).flatten)::_) w:=bI.nil hS
 refine⟨λus w=>∃(i:Nat) (ov:Value),us=[.int .i64 i]/\i<=k.rows.length/\SL W (.ob (bI ov 123 5 ((kZ k aI).take i).length (((kZ k aI).take i).map oO).flatten)::.pt b [.int .i64 aI,ov,.slice (some ⟨nb,0,none⟩) 1 1] 100::.pt nb [.int .i64 2,.int .i64 k.id,.int .i64 0,.int .i64 0,.int .i64 0,.int .i64 k.iJ,.bool k.last] 295::.pt rb [.int .i64 0,.slice none 0 0,.slice none 0 0] 100::.pt wp (sQ k rv) 214::.mem H::F) w,
  λus _=>match us with|[.int _ i]=>(k.rows.length-i).toNat|_=>0,⟨0,.slice none 0 0,rfl,by omega,aR hS⟩,?_⟩
 clear hS
 rintro Jr w ⟨i,ov,dR,hi,hS⟩
 cases dR
 refine Gp ?_
 refine zn hr ?_
 refine b9 (λh=>?_) (λh=>?_)
 ·have b8:i<k.rows.length:=by omega
  have hx:k.rows[i]?=some k.rows[i]:=List.getElem?_eq_getElem b8
  have i_:(kZ k aI)[i]'(by omega)=⟨aI,k.table,k.rows[i].key,false,k.rows[i].val⟩:=by unfold kZ;rw[List.getElem_map]
  have kK:(kZ k aI).take (i+1)=(kZ k aI).take i++[⟨aI,k.table,k.rows[i].key,false,k.rows[i].val⟩]:=by rw[List.take_succ_eq_append_getElem (by omega),i_]
  have Hm:((kZ k aI).take i).length=i:=by rw[List.length_take];omega
  generalize k.rows[i]=r at *
  refine Gn λw hS=>?_
  refine zA hS Xh jG hr hx b8 (i:=0) rfl ?_
  refine Gp ?_
  refine zA hS Xh jG hr hx b8 (i:=1) rfl ?_
  refine Gm λyb w hS=>?_
  refine zX (n:=((kZ k aI).take i).length) (xs:=(kZ k aI).take i) (y:=⟨aI,k.table,r.key,false,r.val⟩) (enc:=oO) hS Xr Xh BV (λx=>D0 x) rfl (by omega) (by omega) λv2 w hS=>?_
  have hS:=hS.o9 (x:=(⟨aI,k.table,r.key,false,r.val⟩:pU))
  rw[<- kK]at hS
  have o1:v2.oneCell'=true:=bI.one hS
  refine Gn λw hS=>?_
  exact⟨⟨i+1,v2,rfl,by omega,aR hS⟩,by dsimp only;omega⟩
 ·have he:(kZ k aI).take i=kZ k aI:=List.take_of_length_le (by omega)
  rw[he]at hS
  have o1:ov.oneCell'=true:=bI.one hS
  refine Gn λw hS=>?_
  refine zB (vs:=[.int .i64 aI,ov,.slice (some ⟨nb,0,none⟩) 1 1]) hS Xu rfl rfl (y' o1 rfl) λw hS=>?_
  refine Gp ?_
  obtain⟨H1,fF,l9,hS⟩:=zu (H:=H) (v:=ov) hS Xp
  obtain⟨H2,f',l_,hS⟩:=SL.Fs (sz:=7) (H:=H1) (b:=nb) hS Xp rfl
  have hS:=iH.put (wp:=wp) (H:=H2) (m9 k.n) (.slice none 0 0) (fW.nil _ _) hS Xr
  exact⟨_,⟨⟨aI,ov,.slice (some ⟨nb,0,none⟩) 1 1⟩,H2,true,m9 k.n,bw.le_trans fF f',rfl,rfl,y' o1 rfl,.inr ⟨rfl,_,e,⟨rfl,l9.mono f',l_⟩⟩⟩,aR hS⟩
def BG(l:List UInt8):Prop:=(l.length=10\/l.length=12)/\l.take 9=mS/\∃d,l[9]?=some d/\48<=d.toNat/\d.toNat<=55
theorem bWz{l:List UInt8}(h:¬BG l):uX (jz l)=none:=by
 unfold uX
 rw[Gf]
 split
 ·rename_i hw
  generalize hr:l.drop 9=r
  have hl:l.length=9+r.length:=by
   have h1:=congrArg List.length hw
   have h2:=congrArg List.length hr
   rw[List.length_take]at h1
   rw[List.length_drop]at h2
   have:mS.length=9:=rfl
   omega
  have h9:l[9]?=r[0]?:=by rw[<- hr,List.getElem?_drop]
  match r,h9,hl with
  | [],_,_=>rfl
  | [d],h9,hl=>exact if_neg λhd=>h ⟨.inl hl,hw,d,h9,hd⟩
  | [d,s,e],h9,hl=>exact if_neg λhd=>h ⟨.inr hl,hw,d,h9,hd.1⟩
  | [d,s],_,_=>rfl
  | d::s::e::f::t,_,_=>rfl
 ·rfl
theorem qV(s:ByteArray):SP 315 [.string s] [] (eW (FB (uX s)) []):=by
 intro W F w hS;apply dIh;delta Nk aF ai;(try simp only[app]at hS)
 rw[Pc s]
 generalize s.data.toList=l at *
 refine Gb λrb w hS=>?_
 have gi:∀{w:World},¬BG l->SL W (.pt rb [.int .i64 0,.int .i64 0] 351::F) w->∃q,[Value.bool true]=[.bool q]/\(q=false↔BG l)/\SL W (.pt rb [.int .i64 0,.int .i64 0] 351::F) w:=λh hS=>⟨true,rfl,⟨(λe=>by cases e),λx=>absurd x h⟩,hS⟩
 have rU:∀{w:World} {d:UInt8},(l.length=10\/l.length=12)->l.take 9=mS->l[9]?=some d->¬(d.toNat:Int)<48->SL W (.pt rb [.int .i64 0,.int .i64 0] 351::F) w->∃q,[Value.bool (decide (55<(d.toNat:Int)))]=[.bool q]/\(q=false↔BG l)/\SL W (.pt rb [.int .i64 0,.int .i64 0] 351::F) w:=λ{w d} h1 h2 h3 h4 hS=>by
  refine⟨_,rfl,⟨λe=>?_,λx=>?_⟩,hS⟩
  ·have:=of_decide_eq_false e
   exact⟨h1,h2,d,h3,by omega,by omega⟩
  ·obtain⟨_,_,d',e,h5,h6⟩:=x
   rw[h3]at e
   cases e
   exact decide_eq_false (by omega)
 refine⟨λus w=>∃q,us=[.bool q]/\(q=false↔BG l)/\SL W (.pt rb [.int .i64 0,.int .i64 0] 351::F) w,?_,?_⟩
 ·refine Gp ?_
  rw[oz]
  refine za (λuK=>?_) (λuK=>?_)
  ·refine Gp ?_
   rw[oz]
   refine za (λf'=>gi (λx=>by have:=x.1;omega) hS) (λf'=>?_)
   have hlen:l.length=12:=by omega
   refine qk (k:=9) (by omega) ?_
   refine Gp ?_
   refine za (λhw=>gi (λx=>hw (by rw[x.2.1];rfl)) hS) (λhw=>?_)
   have hw:l.take 9=mS:=DP.1 (Decidable.of_not_not hw)
   have h9:l[9]?=some l[9]:=List.getElem?_eq_getElem (by omega)
   refine yP (j:=9) Tryz.underlying9 (by omega) ?_
   refine Gp ?_
   refine za (λh=>gi (λx=>by obtain⟨_,_,d,e,h5,_⟩:=x;rw[h9]at e;cases e;omega) hS) (λh=>?_)
   refine yP (j:=9) Tryz.underlying9 (by omega) ?_
   refine Gp ?_
   exact rU (.inr hlen) hw h9 h hS
  ·have hlen:l.length=10:=by omega
   refine qk (k:=9) (by omega) ?_
   refine Gp ?_
   refine za (λhw=>gi (λx=>hw (by rw[x.2.1];rfl)) hS) (λhw=>?_)
   have hw:l.take 9=mS:=DP.1 (Decidable.of_not_not hw)
   have h9:l[9]?=some l[9]:=List.getElem?_eq_getElem (by omega)
   refine yP (j:=9) Tryz.underlying9 (by omega) ?_
   refine Gp ?_
   refine za (λh=>gi (λx=>by obtain⟨_,_,d,e,h5,_⟩:=x;rw[h9]at e;cases e;omega) hS) (λh=>?_)
   refine yP (j:=9) Tryz.underlying9 (by omega) ?_
   refine Gp ?_
   exact rU (.inl hlen) hw h9 h hS
 clear hS gi rU
 rintro v35 w ⟨q,dR,hq,hS⟩
 cases dR
 cases q with
 | true=>
  rw[bWz (λx=>by have:=hq.2 x;cases this)]
  refine zw ?_
  refine Gn λw hS=>?_
  exact fw hS
 | false=>
  refine zt ?_
  obtain⟨h1,h2,d,h3,h4,h5⟩:=hq.1 rfl
  obtain⟨r,rfl⟩:∃r,l=mS++r:=⟨l.drop 9,by rw[<- h2,List.take_append_drop]⟩
  have hr:r[0]?=some d:=by rw[List.getElem?_append_right (by decide)]at h3;exact h3
  have hlr:r.length=1\/r.length=3:=by rw[List.length_append,show mS.length=9 from rfl]at h1;omega
  have hps:uX (jz (mS++r))=r6 r:=by
   unfold uX
   rw[Gf,if_pos h2]
   rfl
  rw[hps]
  match r,hr,hlr with
  | [d'],hr,_=>
   cases hr
   have e:r6 [d]=some ((d.toNat:Int)-48,1):=if_pos ⟨h4,h5⟩
   rw[e]
   refine yP (j:=9) Tryz.underlying9 (by simp[mS]) ?_
   refine Z0 (d:=d) h4 ?_
   refine Gm λnb w hS=>?_
   rw[oz]
   refine za (λh=>absurd h (by simp[mS])) (λ_=>?_)
   refine Gn λw hS=>?_
   exact fw hS
  | [d',s,e],hr,_=>
   cases hr
   refine yP (j:=9) Tryz.underlying9 (by simp[mS]) ?_
   refine Z0 (d:=d) h4 ?_
   refine Gm λnb w hS=>?_
   rw[oz]
   refine za (λ_=>?_) (λh=>absurd (by simp[mS]) h)
   refine Gp ?_
   refine yP (j:=10) Tryz.underlying9 (by simp[mS]) ?_
   show zc .neq (.int .u8 s.toNat) (.int .u8 32) _
   refine b9 (λh=>?_) (λh=>?_)
   ·refine Gn λw hS=>?_
    rw[show r6 [d,s,e]=none from if_neg (by omega)]
    exact fw hS
   refine Gp ?_
   refine yP (j:=11) Tryz.underlying9 (by simp[mS]) ?_
   show zc .lss (.int .u8 e.toNat) (.int .u8 49) _
   refine b9 (λh2=>?_) (λh2=>?_)
   ·refine Gn λw hS=>?_
    rw[show r6 [d,s,e]=none from if_neg (by omega)]
    exact fw hS
   refine Gp ?_
   refine yP (j:=11) Tryz.underlying9 (by simp[mS]) ?_
   show zc .gtr (.int .u8 e.toNat) (.int .u8 56) _
   refine b9 (λh3=>?_) (λh3=>?_)
   ·refine Gn λw hS=>?_
    rw[show r6 [d,s,e]=none from if_neg (by omega)]
    exact fw hS
   refine Gp ?_
   refine yP (j:=11) Tryz.underlying9 (by simp[mS]) ?_
   refine Z0 (d:=e) (by omega) ?_
   refine Gn λw hS=>?_
   rw[show r6 [d,s,e]=some ((d.toNat:Int)-48,(e.toNat:Int)-48) from if_pos (by omega)]
   exact fw hS
abbrev nO(m:h_)(wp:Nat)(rv:Value):List Value:=[.int .i64 m.tables,.int .i64 m.late,.int .i64 m.at_,rv,eF wp]
def iL(mp wp:Nat)(H:bw)(m:h_):zE:=nr λrv:Value=>zU (mh H rv m.reqs) [.pt mp (nO m wp rv) 212,.ob (iH wp H m.cF)]
section
variable {W w:World} {l F:List Chunk} {mp wp:Nat} {H H':bw}
theorem iL.iff{m:h_}:SL W (.ob (iL mp wp H m)::l) w↔∃rv,mh H rv m.reqs/\SL W (.pt mp (nO m wp rv) 212::.ob (iH wp H m.cF)::l) w:=by
 unfold iL
 simp only[SL.ex,SL.fact,List.cons_append,List.nil_append]
theorem iL.put(m:h_)(rv:Value)(hr:mh H rv m.reqs)(hS:SL W l w)(p:kI [.pt mp (nO m wp rv) 212,.ob (iH wp H m.cF)] l F):SL W (.ob (iL mp wp H m)::F) w:=iL.iff.2 ⟨rv,hr,hS.pick p⟩
theorem iL.iK{m:h_}(hh:H.le H')(hS:SL W l w)(r:kG (.ob (iL mp wp H m)) l F):SL W (.ob (iL mp wp H' m)::F) w:=by
 obtain⟨rv,h1,h2⟩:=iL.iff.1 (hS.perm r.perm)
 have h3:=iH.iK hh h2 (.tl .hd)
 exact iL.iff.2 ⟨rv,h1.mono hh,h3.perm (.swap _ _ _)⟩
end
theorem QV(H:bw)(tables late chunk aI:Int)(v:Value)(L:List Rq)(hv:mh H v L)(hn:L.length<=1000):
  SP 114 [.int .i64 tables,.int .i64 late,.int .i64 chunk,.int .i64 aI,v] [.mem H] (λu post=>(tq tables late chunk aI L/\u= .pointer none/\post=[.mem H])\/(¬tq tables late chunk aI L/\∃(mp wp:Nat) (H':bw),H.le H'/\u=eF mp/\post=[.ob (iL mp wp H' ⟨tables,late,aI,L,m9 chunk⟩),.mem H'])):=by
 intro W F w hS;apply cI1;delta Ka aF a_ dW ai gw bR;(try simp only[app]at hS)
 have gi:∀{w:World},tq tables late chunk aI L->SL W (.mem H::F) w->∃post,((tq tables late chunk aI L/\(Value.pointer none)= .pointer none/\post=[.mem H])\/(¬tq tables late chunk aI L/\∃(mp wp:Nat) (H':bw),H.le H'/\(Value.pointer none)=eF mp/\post=[.ob (iL mp wp H' ⟨tables,late,aI,L,m9 chunk⟩),.mem H']))/\SL W (app post F) w:=λh hS=>⟨_,.inl ⟨h,rfl,rfl⟩,hS⟩
 refine Gp ?_
 refine za (λh=>gi (.inl h) hS) (λh1=>?_)
 refine Gp ?_
 refine za (λh=>gi (.inr (.inl h)) hS) (λh2=>?_)
 refine Gp ?_
 refine za (λh=>gi (.inr (.inr (.inl h))) hS) (λh3=>?_)
 obtain⟨n,rfl⟩:∃n:Nat,tables=n:=⟨tables.toNat,by omega⟩
 have a_d:(2:Int) ^ n<=256:=by
  have:n<=8:=by omega
  match n,this with
  | 0,_=>decide
  | 1,_=>decide
  | 2,_=>decide
  | 3,_=>decide
  | 4,_=>decide
  | 5,_=>decide
  | 6,_=>decide
  | 7,_=>decide
  | 8,_=>decide
 have A1:(0:Int)<2 ^ n:=Int.pow_pos (by decide)
 refine I6 (by omega) ?_
 refine Q8 (by omega) (by omega) ?_
 rw[Int.one_mul]
 refine Gp ?_
 refine za (λh=>gi (.inr (.inr (.inr (.inl (by rw[Int.toNat_natCast];exact h))))) hS) (λh4=>?_)
 refine Gp ?_
 refine za (λh=>gi (.inr (.inr (.inr (.inr (.inr (.inr (.inl h))))))) hS) (λh5=>?_)
 refine Gp ?_
 refine za (λh=>gi (.inr (.inr (.inr (.inr (.inr (.inr (.inr (.inl h)))))))) hS) (λh6=>?_)
 refine Gp ?_
 refine za (λh=>gi (.inr (.inr (.inr (.inr (.inl h))))) hS) (λh7=>?_)
 refine Gp ?_
 refine za (λh=>gi (.inr (.inr (.inr (.inr (.inr (.inl h)))))) hS) (λh8=>?_)
 refine Cc (yC H v L hv (by omega)) ?_;clear hS
 rintro _ post ⟨q,rfl,hq,rfl⟩ w hS
 (try simp only[app]at hS);refine Gp ?_
 refine zz (λhe=>gi (.inr (.inr (.inr (.inr (.inr (.inr (.inr (.inr (.inl λh=>by rw[hq.2 h]at he;cases he))))))))) hS) (λhe=>?_)
 have hm:=hq.1 he
 refine⟨λus w=>∃i:Nat,us=[.int .i64 i]/\i<=L.length/\(∀j (h:j<L.length),j<i->L[j].table<(n:Int)/\L[j].at_<=aI)/\SL W (.mem H::F) w,λus _=>match us with|[.int _ i]=>(L.length-i).toNat|_=>0,⟨0,rfl,by omega,λj h hj=>by omega,hS⟩,?_⟩
 clear hS
 rintro v11 w ⟨i,dR,hi,iD,hS⟩
 cases dR
 refine zn hv ?_
 refine b9 (λh=>?_) (λh=>?_)
 ·have b8:i<L.length:=by omega
  have hx:L[i]?=some L[i]:=List.getElem?_eq_getElem b8
  have Sj:=List.getElem_mem b8
  refine zA hS Xh kU hv hx b8 (i:=1) rfl ?_
  refine Gp ?_
  refine za (λh=>gi (.inr (.inr (.inr (.inr (.inr (.inr (.inr (.inr (.inr ⟨_,Sj,.inl h⟩))))))))) hS) (λh9=>?_)
  refine zA hS Xh kU hv hx b8 (i:=3) rfl ?_
  refine Gp ?_
  refine za (λh=>gi (.inr (.inr (.inr (.inr (.inr (.inr (.inr (.inr (.inr ⟨_,Sj,.inr h⟩))))))))) hS) (λuK=>?_)
  refine Gp ?_
  refine⟨⟨i+1,rfl,by omega,λj hj ll=>?_,hS⟩,by dsimp only;omega⟩
  rcases Nat.lt_or_ge j i with xA|xA
  ·exact iD j hj xA
  ·obtain rfl:j=i:=by omega
   exact⟨by omega,by omega⟩
 ·clear gi
  refine Gb λb w hS=>?_
  have hS:SL W (.ob (bI (.slice (some ⟨b,0,none⟩) 0 0) 125 7 0 [])::_) w:=bI.full (n:=0) (sz:=7) (cells:=[]) rfl hS
  refine zy (n:=0) (m:=L.length) hS Xr (o_ hS Xh hv) (l8 kU L) rfl (pD uE L) (by omega) (by omega) λu w hS=>?_
  rw[List.nil_append,Nat.zero_add]at hS
  obtain⟨H1,fF,hR,hS⟩:=zu (H:=H) (v:=u) hS Xp
  have hu:u.oneCell'=true:=hR.one
  refine Gp ?_
  refine⟨_,rfl,zI hS λwp w hS=>?_⟩
  refine yz (cells:=[.int .i64 n,.int .i64 late,.int .i64 aI,u,eF wp]) (by simp[lr,show ∀n,(Value.int .i64 n).cells = #[.int .i64 n] from λ_=>rfl,show (Value.pointer (some ⟨wp,0,none⟩)).cells = #[eF wp] from rfl,vQ hu]) ?_
  refine⟨_,rfl,zI hS λmp w hS=>?_⟩
  have cR:¬tq n late chunk aI L:=by
   rintro (h|h|h|h|h|h|h|h|h|⟨r,hr,h⟩)
   ·exact h1 h
   ·exact h2 h
   ·exact h3 h
   ·rw[Int.toNat_natCast]at h;exact h4 h
   ·exact h7 h
   ·exact h8 h
   ·exact h5 h
   ·exact h6 h
   ·exact h hm
   ·obtain⟨j,hj,rfl⟩:=List.getElem_of_mem hr
    have:=iD j hj (by omega);omega
  have hS:=iH.put (wp:=wp) (H:=H1) (m9 chunk) (.slice none 0 0) (fW.nil _ _) hS Xr
  have hS:=iL.put (wp:=wp) ⟨n,late,aI,L,m9 chunk⟩ u hR hS Xp
  exact⟨_,.inr ⟨cR,mp,wp,H1,fF,rfl,rfl⟩,aR hS⟩
theorem V'{L:List Rq}{t:Int}{i:Nat}(h:∀j (hj:j<L.length),j<i->L[j].table≠t)(hi:L.length<=i):(L.any λr=>decide (r.table=t))=false:=by
 rw[List.any_eq_false]
 intro x hx
 obtain⟨j,hj,rfl⟩:=List.getElem_of_mem hx
 simpa using h j hj (by omega)
theorem Ye(mp wp:Nat)(H:bw)(m:h_)(rv:Value)(hr:mh H rv m.reqs)(hn:m.reqs.length<=1000)(ht:m.tables<=8)(t:Int):SP 317 [eF mp,.int .i64 t] [.pt mp (nO m wp rv) 212,.mem H] (eW (.bool (m.captured t)) [.pt mp (nO m wp rv) 212,.mem H]):=by
 intro W F w hS;apply dIj;delta Nm aF bF a_ cw ai;(try simp only[app]at hS)
 unfold h_.captured
 refine b9 (λh=>?_) (λh1=>?_)
 ·rw[decide_eq_false (by omega),Bool.false_and]
  exact⟨_,⟨rfl,rfl⟩,hS⟩
 refine b9 (λh=>?_) (λh2=>?_)
 ·rw[decide_eq_false (by omega),Bool.false_and]
  exact⟨_,⟨rfl,rfl⟩,hS⟩
 rw[decide_eq_true (show 0<=t/\t<m.tables by omega),Bool.true_and]
 obtain⟨n,rfl⟩:∃n:Nat,t=n:=⟨t.toNat,by omega⟩
 refine Gp ?_
 refine I6 (by omega) ?_
 refine Uz (by omega) ?_
 refine b9 (λh=>?_) (λh3=>?_)
 ·rw[decide_eq_true h,Bool.true_or]
  exact⟨_,⟨rfl,rfl⟩,hS⟩
 rw[decide_eq_false h3,Bool.false_or]
 refine⟨λus w=>∃i:Nat,us=[.int .i64 i]/\i<=m.reqs.length/\(∀j (h:j<m.reqs.length),j<i->m.reqs[j].table≠(n:Int))/\SL W (.pt mp (nO m wp rv) 212::.mem H::F) w,λus _=>match us with|[.int _ i]=>(m.reqs.length-i).toNat|_=>0,⟨0,rfl,by omega,λj h hj=>by omega,hS⟩,?_⟩
 clear hS
 rintro v5 w ⟨i,dR,hi,iD,hS⟩
 cases dR
 refine Gp ?_
 refine zn hr ?_
 refine b9 (λh=>?_) (λh=>?_)
 ·have b8:i<m.reqs.length:=by omega
  refine Gp ?_
  refine zA hS Xh kU hr (List.getElem?_eq_getElem b8) b8 (i:=1) rfl ?_
  refine b9 (λhe=>?_) (λhe=>?_)
  ·rw[show (m.reqs.any λr=>decide (r.table=(n:Int)))=true from List.any_eq_true.2 ⟨_,List.getElem_mem b8,decide_eq_true he⟩]
   exact fw hS
  ·refine Gp ?_
   refine⟨⟨i+1,rfl,by omega,λj hj ll=>?_,hS⟩,by dsimp only;omega⟩
   rcases Nat.lt_or_ge j i with h2|h2
   ·exact iD j hj h2
   ·obtain rfl:j=i:=by omega
    exact he
 ·rw[V' iD (by omega)]
  exact fw hS
def VH(mp wp:Nat)(H:bw)(y:h_ × si)(u:Value)(post:List Chunk):Prop:=∃(x:pd) (H':bw),H.le H'/\u=agg (kT x)/\pc H' x y.2/\post=[.ob (iL mp wp H' y.1),.mem H']
theorem Yy(mp wp:Nat)(H:bw)(m:h_)(hm:m.Ok)(x:mu)(t:gW)(hx:kS H x t)(hs:t.signals.length<=2)(HI:∀s∈t.signals,s.size<=40)(hc:t.changes.length<=16):
  SP 272 [eF mp,agg (iG x)] [.ob (iL mp wp H m),.mem H] (VH mp wp H (m.vm t)):=by
 intro W F w hS;apply dFc;delta MG aF bF a_ fR dW ai dw bR;(try simp only[app]at hS)
 refine zC hS λxb w hS=>?_
 unfold iG at hS
 rw[hx.aI]at hS
 have nz:=hx.cv
 have uV:=hx.sv
 refine Gm λzb w hS=>?_
 refine Gm λyb w hS=>?_
 have hS:SL W (pe (.slice none 0 0) []::_) w:=bI.nil hS
 have hS:=SL.b_ hS (t:=pe (.slice none 0 0) []::.ob (iL mp wp H m)::.pt yb [.int .i64 t.aI,.slice none 0 0,.slice none 0 0] 100::.pt zb [.int .i64 0,.slice none 0 0,.slice none 0 0] 100::.pt xb [.int .i64 t.aI,.int .i64 x.kind,x.cv,x.sv,.int .i64 x.mark] 39::.mem H::F) Xi
 obtain⟨I1,Ei⟩:∃I1:List Value->World->Prop,I1=λus w=>∃(i:Nat) (nv:Value) (H1:bw),us=[.int .i64 i]/\i<=t.signals.length/\H.le H1/\SL W (pe nv (m.jP t.aI (t.signals.take i)).2::.ob (iL mp wp H1 (m.jP t.aI (t.signals.take i)).1)::.pt yb [.int .i64 t.aI,.slice none 0 0,nv] 100::.pt zb [.int .i64 0,.slice none 0 0,.slice none 0 0] 100::.pt xb [.int .i64 t.aI,.int .i64 x.kind,x.cv,x.sv,.int .i64 x.mark] 39::.mem H1::F) w:=⟨_,rfl⟩
 obtain⟨μ1,hμ⟩:∃μ1:List Value->World->Nat,μ1=λus _=>match us with|[.int _ i]=>(t.signals.length-i).toNat|_=>0:=⟨_,rfl⟩
 refine⟨I1,μ1,by rw[Ei];exact⟨0,.slice none 0 0,H,rfl,by omega,bw.le_refl H,hS⟩,?_⟩
 clear hS
 intro u9 w0 hI
 rw[Ei]at hI
 obtain⟨i,nv,H1,dR,hi,fF,hS⟩:=hI
 cases dR
 have s9:∀{w:World} {H2:bw} {Fo:Value} {m2:h_} {N2:List rF},i<t.signals.length->H1.le H2->m.jP t.aI (t.signals.take (i+1))=(m2,N2)->SL W (pe Fo N2::.ob (iL mp wp H2 m2)::.pt yb [.int .i64 t.aI,.slice none 0 0,Fo] 100::.pt zb [.int .i64 0,.slice none 0 0,.slice none 0 0] 100::.pt xb [.int .i64 t.aI,.int .i64 x.kind,x.cv,x.sv,.int .i64 x.mark] 39::.mem H2::F) w->I1 [.int .i64 ((i+1:Nat):Int)] w/\μ1 [.int .i64 ((i+1:Nat):Int)] w<μ1 [.int .i64 (i:Int)] w0:=λ{w H2 Fo m2 N2} hl hh e hS=>by
  rw[Ei,hμ]
  refine⟨⟨i+1,Fo,H2,rfl,by omega,bw.le_trans fF hh,?_⟩,by dsimp only;omega⟩
  rw[e];exact hS
 refine Gp ?_
 refine zn (uV.mono fF) ?_
 refine b9 (λh=>?_) (λh=>?_)
 ·have b8:i<t.signals.length:=by omega
  obtain⟨cR,EE,aRh,aRi,aRj,aRk⟩:=BL t.aI (t.signals.take i) hm
  have kK:t.signals.take (i+1)=t.signals.take i++[t.signals[i]]:=List.take_succ_eq_append_getElem b8
  have mX:=F3 t.aI (t.signals.take i) m t.signals[i]
  rw[<- kK]at mX
  have B8:=HI _ (List.getElem_mem b8)
  have iZ:(t.signals.take i).length<=2:=by rw[List.length_take];omega
  refine Gp ?_
  refine yn hS Xh (uV.mono fF) b8 (u:=.string t.signals[i]) (by simp[b8]) ?_
  generalize t.signals[i]=s at mX B8 ⊢
  generalize m.jP t.aI (t.signals.take (i+1))=y2 at mX s9
  generalize m.jP t.aI (t.signals.take i)=y at mX cR EE hS
  obtain⟨m1,N⟩:=y
  simp only at mX cR EE hS
  clear aRh aRi aRj aRk
  have vF:=cR.reqs.1
  have uU:m1.accept s t.aI=(m1.reqs,[])->y2=(m1,N):=λe=>by rw[mX,e];simp
  refine Cc (qV s) ?_;clear hS
  rintro _ post ⟨rfl,rfl⟩ w hS
  try simp only[app]at hS
  unfold FB
  cases hp:uX s with
  | none=>
   simp only[Option.getD_none,Option.isSome_none]
   refine Gm λb w hS=>?_
   refine zw ?_
   refine Gp ?_
   exact s9 b8 (bw.le_refl _) (uU (by unfold h_.accept;rw[hp])) (aR hS)
  | some g=>
   obtain⟨tb,wt⟩:=g
   simp only[Option.getD_some,Option.isSome_some]
   refine Gm λb w hS=>?_
   refine zt ?_
   obtain⟨rv,hr,hS⟩:=iL.iff.1 (SL.b_ hS (t:=.ob (iL mp wp H1 m1)::.pt b [.int .i64 tb,.int .i64 wt] 351::pe nv N::.pt yb [.int .i64 t.aI,.slice none 0 0,nv] 100::.pt zb [.int .i64 0,.slice none 0 0,.slice none 0 0] 100::.pt xb [.int .i64 t.aI,.int .i64 x.kind,x.cv,x.sv,.int .i64 x.mark] 39::.mem H1::F) Xi)
   refine b9 (λh=>?_) (λh1=>?_)
   ·have hS:=iL.put m1 rv hr hS Xp
    refine Gp ?_
    exact s9 b8 (bw.le_refl _) (uU (by unfold h_.accept;rw[hp];simp only;rw[if_pos h])) (aR hS)
   refine Gn λw hS=>?_
   have vw:m1.accept s t.aI=match sn m1.reqs tb wt t.aI with
    | none=>(m1.reqs,[])
    | some L=>(L,[⟨1,L.length,tb,wt,t.aI,0,false⟩]):=by
    unfold h_.accept;rw[hp];simp only;rw[if_neg h1];rfl
   refine Cc (Y6 H1 rv m1.reqs tb wt t.aI hr (by omega)) ?_;clear hS
   rintro u post ⟨H2,f',rfl,hq⟩ w hS
   try simp only[app]at hS
   have hS:=iH.iK f' hS Xr
   cases ha:sn m1.reqs tb wt t.aI with
   | none=>
    rw[ha]at hq vw
    subst hq
    have hS:=iL.put m1 rv (hr.mono f') hS Xp
    refine Gp ?_
    exact s9 b8 f' (uU vw) (aR hS)
   | some L=>
    rw[ha]at hq vw
    obtain⟨xr,rfl,A8⟩:=hq
    have ox:xr.oneCell'=true:=A8.one
    refine Gn λw hS=>?_
    refine zn A8 ?_
    refine Gm λnb w hS=>?_
    refine zX (n:=N.length) (xs:=N) (y:=⟨1,L.length,tb,wt,t.aI,0,false⟩) (enc:=sx) hS Xr Xh BU PV rfl (by omega) (by omega) λv2 w hS=>?_
    have hS:=hS.o9 (x:=(⟨1,L.length,tb,wt,t.aI,0,false⟩:rF))
    have o1:v2.oneCell'=true:=bI.one hS
    refine Gn λw hS=>?_
    have hS:=iL.put (mp:=mp) {m1 with reqs:=L} xr A8 hS Xp
    exact s9 b8 f' (by rw[mX,vw]) (aR hS)
 clear s9 Ei hμ
 have Hn:t.signals.take i=t.signals:=List.take_of_length_le (by omega)
 rw[Hn]at hS
 obtain⟨tV,AZ,H_,HV,iZ,kM⟩:=BL t.aI t.signals hm
 have kN:m.vm t=({(m.jP t.aI t.signals).1 with cF:=(m.jP t.aI t.signals).1.cF.tA t.changes},⟨t.aI,nk (m.jP t.aI t.signals).1 t.aI t.changes,(m.jP t.aI t.signals).2⟩):=rfl
 rw[kN]
 generalize m.jP t.aI t.signals=y at hS tV AZ ⊢
 obtain⟨m1,N⟩:=y
 simp only at hS tV AZ ⊢
 clear H_ HV iZ kM kN
 obtain⟨rv,hr,hS⟩:=iL.iff.1 (SL.b_ hS (t:=.ob (iL mp wp H1 m1)::pe nv N::.pt yb [.int .i64 t.aI,.slice none 0 0,nv] 100::.pt zb [.int .i64 0,.slice none 0 0,.slice none 0 0] 100::.pt xb [.int .i64 t.aI,.int .i64 x.kind,x.cv,x.sv,.int .i64 x.mark] 39::.mem H1::F) Xi)
 have hS:SL W (BC (.slice none 0 0) (nk m1 t.aI (t.changes.take 0))::_) _:=bI.nil hS
 refine⟨λus w=>∃(i:Nat) (ov:Value),us=[.int .i64 i]/\i<=t.changes.length/\SL W (BC ov (nk m1 t.aI (t.changes.take i))::pe nv N::.pt mp (nO m1 wp rv) 212::.ob (iH wp H1 m1.cF)::.pt yb [.int .i64 t.aI,ov,nv] 100::.pt zb [.int .i64 0,.slice none 0 0,.slice none 0 0] 100::.pt xb [.int .i64 t.aI,.int .i64 x.kind,x.cv,x.sv,.int .i64 x.mark] 39::.mem H1::F) w,
  λus _=>match us with|[.int _ i]=>(t.changes.length-i).toNat|_=>0,⟨0,.slice none 0 0,rfl,by omega,aR hS⟩,?_⟩
 clear hS
 rintro v33 w ⟨i,ov,dR,hi,hS⟩
 cases dR
 refine Gp ?_
 refine zn (nz.mono fF) ?_
 refine b9 (λh=>?_) (λh=>?_)
 ·have b8:i<t.changes.length:=by omega
  have Ia:t.changes[i]?=some t.changes[i]:=List.getElem?_eq_getElem b8
  have kK:t.changes.take (i+1)=t.changes.take i++[t.changes[i]]:=List.take_succ_eq_append_getElem b8
  have i_:nk m1 t.aI (t.changes.take (i+1))=nk m1 t.aI (t.changes.take i)++(if m1.captured t.changes[i].table=true then [⟨t.aI,t.changes[i].table,t.changes[i].key,t.changes[i].gone,t.changes[i].val⟩] else []):=by
   unfold nk
   rw[kK,List.filter_append,List.map_append]
   congr 1
   rw[List.filter_cons]
   split<;>simp
  have A0:(nk m1 t.aI (t.changes.take i)).length<=16:=by
   unfold nk
   rw[List.length_map]
   have:=List.length_filter_le (λc:iy=>m1.captured c.table) (t.changes.take i)
   rw[List.length_take]at this
   omega
  refine Gp ?_
  refine zK hS Xh mP (nz.mono fF) Ia b8 ?_
  generalize t.changes[i]=c at *
  refine Gb λcb w hS=>?_
  refine Cg (Ye mp wp H1 m1 rv hr (by have:=tV.reqs.1;omega) tV.t1.2 c.table) λw hS=>?_
  refine yO (λhq=>?_) (λhq=>?_)
  ·rw[if_pos hq]at i_
   refine Gm λob w hS=>?_
   refine zX (n:=(nk m1 t.aI (t.changes.take i)).length) (xs:=nk m1 t.aI (t.changes.take i)) (y:=⟨t.aI,c.table,c.key,c.gone,c.val⟩) (enc:=oO) hS Xr Xh BV (λx=>D0 x) rfl (by omega) (by omega) λv2 w hS=>?_
   have hS:=hS.o9 (x:=(⟨t.aI,c.table,c.key,c.gone,c.val⟩:pU))
   rw[<- i_]at hS
   have o1:v2.oneCell'=true:=bI.one hS
   refine Gn λw hS=>?_
   exact⟨⟨i+1,v2,rfl,by omega,aR hS⟩,by dsimp only;omega⟩
  ·rw[if_neg (by simp[hq]),List.append_nil]at i_
   rw[<- i_]at hS
   refine Gp ?_
   exact⟨⟨i+1,ov,rfl,by omega,aR hS⟩,by dsimp only;omega⟩
 have Hl:t.changes.take i=t.changes:=List.take_of_length_le (by omega)
 rw[Hl]at hS
 refine Gn λw hS=>?_
 refine Cc (Q5 wp m1.cF H1 x.cv t.changes (nz.mono fF) (by have:=tV.rows;omega) (by omega)) ?_;clear hS
 rintro _ post ⟨⟨q,rfl⟩,H2,f',rfl⟩ w hS
 try simp only[app]at hS
 have hS:=iL.put (mp:=mp) {m1 with cF:=m1.cF.tA t.changes} rv (hr.mono f') hS Xp
 obtain⟨H3,jA,Cd,hS⟩:=zu (H:=H2) (v:=nv) hS Xp
 obtain⟨H4,ld,Ce,hS⟩:=zu (H:=H3) (v:=ov) hS Xp
 have on:nv.oneCell'=true:=Cd.one
 have oo:ov.oneCell'=true:=Ce.one
 refine Gp ?_
 refine zB (vs:=[.int .i64 t.aI,ov,nv]) hS Xu rfl rfl (y' oo on) λw hS=>?_
 refine Gp ?_
 have hS:=iL.iK (m:={m1 with cF:=m1.cF.tA t.changes}) (bw.le_trans jA ld) hS Xr
 exact⟨_,⟨⟨t.aI,ov,nv⟩,H4,bw.le_trans fF (bw.le_trans f' (bw.le_trans jA ld)),rfl,⟨rfl,Ce,Cd.mono ld⟩,rfl⟩,aR hS⟩
def JW(mp wp:Nat)(H:bw)(y:h_ × (si × Int))(u:Value)(post:List Chunk):Prop:=∃(x:pd) (H':bw),H.le H'/\u= .tuple #[agg (kT x),.int .i64 y.2.2]/\pc H' x y.2.1/\post=[.ob (iL mp wp H' y.1),.mem H']
theorem ZO(mp wp:Nat)(H:bw)(m:h_)(hm:m.Ok)(x:mu)(t:gW)(hx:kS H x t)(hid : -9223372036854775808<=m.cF.id/\m.cF.id<=9223372036854775807):
  SP 212 [eF mp,agg (iG x)] [.ob (iL mp wp H m),.mem H] (JW mp wp H (m.take t)):=by
 intro W F w hS;apply c_q;delta LH aF bF a_ fR aW d_ dW ai bR;(try simp only[app]at hS)
 have kM:=hm.mO
 have hn:=hm.rows
 have vF:=hm.reqs.1
 refine zC hS λxb w hS=>?_
 refine Gm λzb w hS=>?_
 refine Cg (yy H x t hx) λw hS=>?_
 unfold h_.take
 refine zz (λh=>?_) (λh=>?_)
 ·rw[if_pos h]
  refine Gn λw hS=>?_
  exact⟨_,⟨uf,H,bw.le_refl H,rfl,⟨rfl,fW.nil _ _,fW.nil _ _⟩,rfl⟩,aR hS⟩
 rw[if_neg (by simp[h])]
 obtain⟨m1,m2,m3,m4,m5,m6,m7⟩:=nB h
 have hl:=hx.aI
 have hk:=hx.kind
 have td:=hx.mark
 obtain⟨rv,hr,hS⟩:=iL.iff.1 (SL.b_ hS (t:=.ob (iL mp wp H m)::.pt zb [.int .i64 0,.slice none 0 0,.slice none 0 0] 100::.pt xb (iG x) 39::.mem H::F) Xi)
 refine Gn λw hS=>?_
 rw[hl]
 have xX:∀{w:World},(t.aI≠m.at_+1\/m.cF.waits t.kind t.mark=true)->SL W (.pt mp (nO m wp rv) 212::.ob (iH wp H m.cF)::.mem H::F) w->∃post,JW mp wp H (if t.aI≠m.at_+1\/m.cF.waits t.kind t.mark=true then (m,(⟨0,[],[]⟩,10))
   else if t.kind=1 then let r:=({m with at_:=t.aI}:h_).vm t;(r.1,(r.2,0))
   else if t.kind=3 then let r:=({m with at_:=t.aI}:h_).high t;(r.1,(r.2,0))
   else ({m with at_:=t.aI,cF:=m.cF.low t.mark},(⟨t.aI,[],[]⟩,0))) (.tuple #[agg (kT uf),.int .i64 10]) post/\SL W (app post F) w:=λh hS=>by
  rw[if_pos h]
  have hS:=iL.put m rv hr hS Xp
  exact⟨_,⟨uf,H,bw.le_refl H,rfl,⟨rfl,fW.nil _ _,fW.nil _ _⟩,rfl⟩,aR hS⟩
 refine za (λh1=>?_) (λh1=>?_)
 ·refine Gn λw hS=>?_
  exact xX (.inl h1) (aR hS)
 refine Gp ?_
 refine Cg (qc wp m.cF H x) λw hS=>?_
 rw[hk,td]
 refine yO (λh2=>?_) (λh2=>?_)
 ·refine Gn λw hS=>?_
  exact xX (.inr h2) (aR hS)
 clear xX
 rw[if_neg (show ¬(t.aI≠m.at_+1\/m.cF.waits t.kind t.mark=true) by rw[h2];simp;omega)]
 refine Gn λw hS=>?_
 rw[hl]at hS
 have hS:SL W (.pt mp (nO {m with at_:=t.aI} wp rv) 212::.ob (iH wp H m.cF)::.pt zb [.int .i64 0,.slice none 0 0,.slice none 0 0] 100::.pt xb (iG x) 39::.mem H::F) w:=aR hS
 have cR:({m with at_:=t.aI}:h_).Ok:=⟨hm.reqs,hm.t1,hm.rows,by show 0<=t.aI/\t.aI<=1099511627776;omega⟩
 rw[hk]
 refine za (λh3=>?_) (λh3=>?_)
 ·rw[if_pos h3]
  have hS:=iL.put (mp:=mp) {m with at_:=t.aI} rv hr hS Xp
  refine Gp ?_
  refine Cc (Yy mp wp H {m with at_:=t.aI} cR x t hx m5 m7 m4) ?_;clear hS
  rintro _ post ⟨y,H1,fF,rfl,hy,rfl⟩ w hS
  try simp only[app]at hS
  refine zB hS Xu rfl rfl (uD hy) λw hS=>?_
  refine Gp ?_
  exact⟨_,⟨y,H1,fF,rfl,hy,rfl⟩,aR hS⟩
 rw[if_neg h3]
 refine b9 (λh4=>?_) (λh4=>?_)
 ·rw[if_neg (by omega)]
  refine Gn λw hS=>?_
  rw[td]
  refine Cc (Q4 wp m.cF H t.mark) ?_;clear hS
  rintro _ post ⟨⟨q,rfl⟩,rfl⟩ w hS
  refine Gn λw hS=>?_
  rw[hl]
  have hS:=iL.put (mp:=mp) (wp:=wp) {m with at_:=t.aI,cF:=m.cF.low t.mark} rv hr hS Xp
  exact⟨_,⟨⟨t.aI,.slice none 0 0,.slice none 0 0⟩,H,bw.le_refl H,rfl,⟨rfl,fW.nil _ _,fW.nil _ _⟩,rfl⟩,aR hS⟩
 rw[if_pos (show t.kind=3 by omega)]
 refine⟨λus w=>∃(yb:Nat) (y:pd) (H1:bw) (q:Bool) (k':ir),us=[eF yb,.bool q]/\H.le H1/\(∀v∈kT y,v.oneCell'=true)/\((q=false/\m.cF.high t.mark t.aI=(k',none))\/(q=true/\∃z,m.cF.high t.mark t.aI=(k',some z)/\pc H1 y z)) /\
   SL W (.pt yb (kT y) 100::.pt zb [.int .i64 0,.slice none 0 0,.slice none 0 0] 100::.pt xb (iG x) 39::.pt mp (nO {m with at_:=t.aI} wp rv) 212::.ob (iH wp H1 k')::.mem H1::F) w,?_,?_⟩
 ·refine Gn λw hS=>?_
  rw[td,hl]
  refine⟨?_,?_⟩
  ·refine Cc (ZR wp m.cF H t.mark t.aI (by omega)) ?_;clear hS
   rintro _ post ⟨y,H1,q,k',fF,rfl,rfl,rj,hc⟩ w hS
   try simp only[app]at hS
   refine Gm λyb w hS=>?_
   refine zB hS Xu rfl rfl rj λw hS=>?_
   exact⟨yb,y,H1,q,k',rfl,fF,rj,hc,aR hS⟩
  ·rw[<- td,<- hl]
   refine Gb λyb w hS=>?_
   rw[td,hl]
   refine Cc (ZR wp m.cF H t.mark t.aI (by omega)) ?_;clear hS
   rintro _ post ⟨y,H1,q,k',fF,rfl,rfl,rj,hc⟩ w hS
   (try simp only[app]at hS);refine Gp ?_
   refine zB hS Xu rfl rfl rj λw hS=>?_
   exact⟨yb,y,H1,q,k',rfl,fF,rj,hc,aR hS⟩
 clear hS
 rintro v5 v6 w ⟨yb,y,H1,q,k',dR,fF,rj,hc,hS⟩
 cases dR
 have uR:({m with at_:=t.aI}:h_).high t=match m.cF.high t.mark t.aI with
  | (_,none)=>({m with at_:=t.aI},⟨t.aI,[],[]⟩)
  | (w,some x)=>match oA m.reqs m.cF.id m.cF.iJ m.cF.last with
   | none=>({m with at_:=t.aI,cF:=w},{x with notes:=[]})
   | some L=>({m with at_:=t.aI,cF:=w,reqs:=L},x):=rfl
 rcases hc with ⟨rfl,hh⟩|⟨rfl,z,hh,hz⟩
 ·refine zQ (zw ?_)
  refine Gn λw hS=>?_
  rw[hl]
  rw[hh]at uR
  have wH:k'=m.cF:=by
   unfold ir.high at hh
   split at hh
   ·cases hh;rfl
   ·cases hh
  subst wH
  simp only at uR ⊢
  rw[uR]
  have hS:=iL.put {m with at_:=t.aI} rv (hr.mono fF) hS Xp
  exact⟨_,⟨⟨t.aI,.slice none 0 0,.slice none 0 0⟩,H1,fF,rfl,⟨rfl,fW.nil _ _,fW.nil _ _⟩,rfl⟩,aR hS⟩
 ·refine zQ (zt ?_)
  have Ic:=R8 hh
  subst Ic
  have sH:=hz.aI
  have HF:=hz.Bd
  have CI:=hz.ops
  rw[hh]at uR
  have hS:SL W (.pt yb [.int .i64 y.aI,y.ov,y.nv] 100::_) w:=hS
  refine Gp ?_
  refine zK (j:=0) hS Xh BU HF (x:=wQ m.cF) rfl (by simp) ?_
  refine Gb λnb w hS=>?_
  refine Cc (qK H1 rv m.reqs m.cF.id m.cF.iJ m.cF.last (hr.mono fF) (by omega) hid) ?_;clear hS
  rintro u post ⟨H2,f',rfl,hq⟩ w hS
  try simp only[app]at hS
  have hS:=iH.iK f' hS Xr
  have iS:=bw.le_trans fF f'
  cases nY:oA m.reqs m.cF.id m.cF.iJ m.cF.last with
  | none=>
   rw[nY]at hq uR
   subst hq
   simp only at uR ⊢
   rw[uR]
   refine Gn λw hS=>?_
   have oo:y.ov.oneCell'=true:=CI.one
   refine zB (vs:=[.int .i64 y.aI,y.ov,.slice none 0 0]) hS Xu rfl rfl (y' oo rfl) λw hS=>?_
   refine Gp ?_
   have hS:=iL.put (mp:=mp) {m with at_:=t.aI,cF:=k'} rv (hr.mono iS) hS Xp
   exact⟨_,⟨⟨y.aI,y.ov,.slice none 0 0⟩,H2,iS,rfl,⟨sH,CI.mono f',fW.nil _ _⟩,rfl⟩,aR hS⟩
  | some L=>
   rw[nY]at hq uR
   obtain⟨rx,rfl,CQ⟩:=hq
   simp only at uR ⊢
   rw[uR]
   have ox:rx.oneCell'=true:=CQ.one
   refine Gn λw hS=>?_
   refine zB (vs:=[.int .i64 y.aI,y.ov,y.nv]) hS Xu rfl rfl rj λw hS=>?_
   refine Gp ?_
   have hS:=iL.put (mp:=mp) {m with at_:=t.aI,cF:=k',reqs:=L} rx CQ hS Xp
   exact⟨_,⟨y,H2,iS,rfl,hz.mono f',rfl⟩,aR hS⟩
theorem XC{b:List UInt8}{l:List ie}(h:lL b= .ok l)(h2:¬((oI ⟨l,false⟩).2.bad=false/\(oI ⟨l,false⟩).2.l=[]/\ji (oI ⟨l,false⟩).1=true)):mw b= .error 3:=by
 unfold mw;rw[h];simp only;rw[<- PC];unfold DY;simp only;rw[if_neg h2]
theorem XB{b:List UInt8}{l:List ie}(h:lL b= .ok l)(h2:(oI ⟨l,false⟩).2.bad=false/\(oI ⟨l,false⟩).2.l=[]/\ji (oI ⟨l,false⟩).1=true):mw b= .ok (oI ⟨l,false⟩).1:=by
 unfold mw;rw[h];simp only;rw[<- PC];unfold DY;simp only;rw[if_pos h2]
structure F1(l:List ie)(aI kind mark:Int)(r3:e_):Prop where
 aI:(oI ⟨l,false⟩).1.aI=aI
 kind:(oI ⟨l,false⟩).1.kind=kind
 mark:(oI ⟨l,false⟩).1.mark=mark
 ch:(oI ⟨l,false⟩).1.changes=(iX mU (gI 16 r3).1.toNat (gI 16 r3).2).1
 sg:∀r4,(iX mU (gI 16 r3).1.toNat (gI 16 r3).2).2=r4->(oI ⟨l,false⟩).1.signals=(iX jF (gI 2 r4).1.toNat (gI 2 r4).2).1/\(oI ⟨l,false⟩).2=(iX jF (gI 2 r4).1.toNat (gI 2 r4).2).2
theorem F1.is(l:List ie):F1 l (gI 1099511627776 ⟨l,false⟩).1 (gI 3 (gI 1099511627776 ⟨l,false⟩).2).1 (gI 1099511627776 (gI 3 (gI 1099511627776 ⟨l,false⟩).2).2).1 (gI 1099511627776 (gI 3 (gI 1099511627776 ⟨l,false⟩).2).2).2:=⟨rfl,rfl,rfl,rfl,λr4 h=>by subst h;exact⟨rfl,rfl⟩⟩
theorem Q2(X:Chunk)(H:bw)(v:Value)(bs:List UInt8)(hv:ix X v bs)(hN:bs.length<=140737488355328):SP 180 [v] [X,.mem H] (sS X H bs):=by
 intro W F w hS;apply cWw;delta Lc aF bF aW dW ai dw bR;(try simp only[app]at hS)
 refine Gb λzb w hS=>?_
 refine Cc (yX X v bs hv hN) ?_;clear hS
 rintro r post hq w hS
 unfold se at hq
 cases hd:lL bs with
 | error e=>
  rw[hd]at hq
  obtain⟨rfl,rfl⟩:=hq
  have he:=DW hd
  (try simp only[app]at hS);refine Gp ?_
  refine za (λ_=>?_) (λh=>absurd he h)
  refine Gn λw hS=>?_
  exact⟨[X,.mem H],by unfold sS;rw[PD hd];exact⟨he,H,bw.le_refl H,rfl,rfl⟩,aR hS⟩
 | ok l=>
  rw[hd]at hq
  obtain⟨lv,rfl,rfl⟩:=hq
  try simp only[app]at hS
  refine Gp ?_
  refine za (λh=>absurd rfl h) (λ_=>?_)
  obtain⟨la,lc,rfl,_⟩:=bI.at hS (v:=lv) .hd
  refine Gp ?_
  refine zC hS λrp w hS=>?_
  have hS:=(ks.iff (r:=⟨l,false⟩)).2 ⟨_,l,0,⟨Nat.zero_le _,Pw hd,rfl⟩,hS⟩
  refine Cc (zR rp ⟨l,false⟩ 1099511627776) ?_;clear hS
  rintro v1 post ⟨rfl,rfl⟩ w hS
  try simp only[app]at hS
  refine Gp ?_
  refine Gb λxb w hS=>?_
  refine Cc (zR rp _ 3) ?_;clear hS
  rintro v1 post ⟨rfl,rfl⟩ w hS
  refine Gn λw hS=>?_
  refine Cc (zR rp _ 1099511627776) ?_;clear hS
  rintro v1 post ⟨rfl,rfl⟩ w hS
  refine Gn λw hS=>?_
  have hI:=F1.is l
  generalize (gI 1099511627776 (gI 3 (gI 1099511627776 ⟨l,false⟩).2).2).1=mark at *
  generalize (gI 1099511627776 (gI 3 (gI 1099511627776 ⟨l,false⟩).2).2).2=r3 at *
  generalize (gI 3 (gI 1099511627776 ⟨l,false⟩).2).1=kind at *
  generalize (gI 1099511627776 ⟨l,false⟩).1=aI at *
  have xT:=E4 (m:=16) (by decide) r3
  have hS:SL W (ur (.slice none 0 0) []::_) _:=bI.nil hS
  have hS:SL W (uw (.slice none 0 0) []::_) _:=bI.nil hS
  refine Cc (zR rp r3 16) ?_;clear hS
  rintro v1 post ⟨rfl,rfl⟩ w hS
  try simp only[app]at hS
  refine⟨λus w=>us=[]/\∃cv,SL W (ur cv (iX mU (gI 16 r3).1.toNat (gI 16 r3).2).1::.ob (ks rp (iX mU (gI 16 r3).1.toNat (gI 16 r3).2).2)::uw (.slice none 0 0) []::.pt xb [.int .i64 aI,.int .i64 kind,cv,.slice none 0 0,.int .i64 mark] 39::wi zb::X::.mem H::F) w,?_,?_⟩
  ·generalize (gI 16 r3).1=n1 at *
   generalize (gI 16 r3).2=r2 at *
   refine⟨λus w=>∃(i k:Nat) (k8:List iy) (r:e_) (cv:Value),us=[.int .i64 i]/\n1=((i+k:Nat):Int)/\nT mU n1.toNat r2 k8 k r/\SL W (ur cv k8::.ob (ks rp r)::uw (.slice none 0 0) []::.pt xb [.int .i64 aI,.int .i64 kind,cv,.slice none 0 0,.int .i64 mark] 39::wi zb::X::.mem H::F) w,
    λus _=>match us with|[.int _ i]=>(n1-i).toNat|_=>0,⟨0,n1.toNat,[],r2,.slice none 0 0,rfl,by omega,nT.start _ _ _,aR hS⟩,?_⟩
   clear hS
   rintro v8 w ⟨i,k,k8,r,cv,dR,hn,hM,hS⟩
   cases dR
   have hle:=hM.le
   refine b9 (λh=>?_) (λh=>?_)
   ·refine Gp ?_
    refine ks.DN (r:=r) (Has.front hS Xr) ?_
    refine Gp ?_
    refine zz (λhb=>?_) (λhb=>?_)
    ·obtain⟨k,rfl⟩:∃j,k=j+1:=⟨k-1,by omega⟩
     have hM:=hM.step hb
     refine Gn λw hS=>?_
     refine Cg (b9u rp r) λw hS=>?_;refine Gm λb w hS=>?_
     refine zX (n:=k8.length) (xs:=k8) (y:=(mU r).1) (enc:=jE) hS Xr Xh mP (λx=>GF x) rfl (by omega) (by omega) λu w hS=>?_
     have h1:=bI.one hS
     refine Gn λw hS=>?_
     refine⟨⟨i+1,k,_,_,u,rfl,by omega,hM,?_⟩,by dsimp only;omega⟩
     have hS:=hS.o9 (x:=(mU r).1)
     exact aR hS
    ·refine⟨rfl,cv,?_⟩
     rw[hM.stop (.inr hb)];exact aR hS
   ·refine⟨rfl,cv,?_⟩
    rw[hM.stop (.inl (by omega))];exact aR hS
  ·clear hS
   rintro w ⟨_,cv,hS⟩
   have nY:=hI.ch
   obtain⟨A3,iA⟩:=hI.sg _ rfl
   generalize (iX mU (gI 16 r3).1.toNat (gI 16 r3).2).1=k8 at *
   generalize (iX mU (gI 16 r3).1.toNat (gI 16 r3).2).2=r4 at *
   have HD:=E4 (m:=2) (by decide) r4
   refine Cc (zR rp r4 2) ?_;clear hS
   rintro v1 post ⟨rfl,rfl⟩ w hS
   try simp only[app]at hS
   refine⟨λus w=>us=[]/\∃sv,SL W (uw sv (iX jF (gI 2 r4).1.toNat (gI 2 r4).2).1::.ob (ks rp (iX jF (gI 2 r4).1.toNat (gI 2 r4).2).2)::ur cv k8::.pt xb [.int .i64 aI,.int .i64 kind,cv,sv,.int .i64 mark] 39::wi zb::X::.mem H::F) w,?_,?_⟩
   ·generalize (gI 2 r4).1=n1 at *
    generalize (gI 2 r4).2=r2 at *
    refine⟨λus w=>∃(i k:Nat) (sR:List ByteArray) (r:e_) (sv:Value),us=[.int .i64 i]/\n1=((i+k:Nat):Int)/\nT jF n1.toNat r2 sR k r/\SL W (uw sv sR::.ob (ks rp r)::ur cv k8::.pt xb [.int .i64 aI,.int .i64 kind,cv,sv,.int .i64 mark] 39::wi zb::X::.mem H::F) w,
     λus _=>match us with|[.int _ i]=>(n1-i).toNat|_=>0,⟨0,n1.toNat,[],r2,.slice none 0 0,rfl,by omega,nT.start _ _ _,aR hS⟩,?_⟩
    clear hS
    rintro v8 w ⟨i,k,sR,r,sv,dR,hn,hM,hS⟩
    cases dR
    have hle:=hM.le
    refine b9 (λh=>?_) (λh=>?_)
    ·refine Gp ?_
     refine ks.DN (r:=r) (Has.front hS Xr) ?_
     refine Gp ?_
     refine zz (λhb=>?_) (λhb=>?_)
     ·obtain⟨k,rfl⟩:∃j,k=j+1:=⟨k-1,by omega⟩
      have hM:=hM.step hb
      refine Gn λw hS=>?_
      refine Cg (y9 rp r) λw hS=>?_;refine Gm λb w hS=>?_
      refine zX (n:=sR.length) (xs:=sR) (y:=(jF r).1) (enc:=λs=>[Value.string s]) hS Xr Xh (λ_=>rfl) (by simp[Value.oneCell']) rfl (by omega) (by omega) λu w hS=>?_
      have h1:=bI.one hS
      refine Gn λw hS=>?_
      refine⟨⟨i+1,k,_,_,u,rfl,by omega,hM,?_⟩,by dsimp only;omega⟩
      have hS:=hS.o9 (x:=(jF r).1)
      exact aR hS
     ·refine⟨rfl,sv,?_⟩
      rw[hM.stop (.inr hb)];exact aR hS
    ·refine⟨rfl,sv,?_⟩
     rw[hM.stop (.inl (by omega))];exact aR hS
   ·clear hS
    rintro w ⟨_,sv,hS⟩
    generalize (iX jF (gI 2 r4).1.toNat (gI 2 r4).2).1=sR at *
    generalize (iX jF (gI 2 r4).1.toNat (gI 2 r4).2).2=r at *
    have sG:=hI.aI
    have Hp:=hI.kind
    have Hx:=hI.mark
    clear hI
    generalize ht:(oI ⟨l,false⟩).1=t at *
    generalize hr:(oI ⟨l,false⟩).2=r' at *
    subst iA nY A3
    obtain⟨H1,fF,hO,hS⟩:=bI.freeze (SL.b_ hS (t:=.mem H::ur cv t.changes::uw sv t.signals::.ob (ks rp r')::.pt xb [.int .i64 aI,.int .i64 kind,cv,sv,.int .i64 mark] 39::wi zb::X::F) Xi)
    obtain⟨H2,f',Ca,hS⟩:=bI.freeze hS
    rw[U8]at Ca
    have hx:kS H2 ⟨aI,kind,cv,sv,mark⟩ t:=⟨sG.symm,Hp.symm,Hx.symm,hO.mono f',Ca⟩
    have iS:=bw.le_trans fF f'
    have kD:=hO.one
    have nJ:=Ca.one
    refine Cg (YM rp r') λw hS=>?_
    have iT:¬(r'.bad=false/\r'.l=[]/\ji t=true)->∀{w:World},SL W (X::.mem H2::F) w->∃post,sS X H bs (.tuple #[agg (iG uq),.int .i64 3]) post/\SL W (app post F) w:=λh w hS=>⟨[X,.mem H2],by unfold sS;rw[XC hd (by rw[ht,hr];exact h)];exact⟨by decide,H2,iS,rfl,rfl⟩,hS⟩
    refine zz (λhb=>?_) (λhb=>?_)
    ·have hb:=of_decide_eq_false hb
     refine Gn λw hS=>?_
     exact iT (λh=>hb ⟨h.1,h.2.1⟩) (aR hS)
    ·have hb:=of_decide_eq_true hb
     refine Gp ?_
     refine Cg (yy H2 ⟨aI,kind,cv,sv,mark⟩ t hx) λw hS=>?_
     refine zz (λhm=>?_) (λhm=>?_)
     ·refine Gn λw hS=>?_
      exact iT (λh=>by rw[h.2.2]at hm;cases hm) (aR hS)
     ·refine Gp ?_
      refine zB (vs:=iG ⟨aI,kind,cv,sv,mark⟩) hS Xu rfl rfl (rM kD nJ) λw hS=>?_
      refine Gp ?_
      exact⟨[X,.mem H2],by unfold sS;rw[XB hd (by rw[ht,hr];exact⟨hb.1,hb.2,hm⟩),ht];exact⟨⟨aI,kind,cv,sv,mark⟩,H2,iS,rfl,hx,rfl⟩,aR hS⟩
theorem SL.bIh{W w:World}{l:List Chunk}{H:bw}{b:Nat}{cs:List Value}{t:TypeId}(h:SL W (.mem H::.pt b cs t::l) w):∃H',H.le H'/\(∀o v,cs[o]?=some v->H'.cell b o=some v)/\SL W (.mem H'::l) w/\∀{W':World} {l':List Chunk} {w':World},SL W' (.mem H'::l') w'->SL W' (.mem H::.pt b cs t::l') w':=by
 obtain⟨a1,a2,a3,k,⟨h1,h2,s,e1,h3,h4,s',⟨f,hf,e3⟩,r⟩,m⟩:=h
 have e1:h1=H:=e1
 subst e1 e3
 obtain⟨k',x,y⟩:=s.join s'
 refine⟨k',λb o e=>y.left b o e,λo v e=>?_,⟨a1,a2,a3,k,⟨k',h4,x,rfl,r⟩,m⟩,?_⟩
 ·have:k' b=some (.cells cs.toArray t f):=y.right b _ (by simp[bw.one])
  simp[bw.cell,this,e]
 ·rintro W' l' w' ⟨c1,c2,c3,kk,⟨q1,q2,sq,e4,rq⟩,mq⟩
  have e4:q1=k':=e4
  subst e4
  obtain⟨j,u,v⟩:=sq.assoc y
  exact⟨c1,c2,c3,kk,⟨_,j,u,rfl,_,q2,v,⟨f,hf,rfl⟩,rq⟩,mq⟩
theorem b_2{W w:World}{l F:List Chunk}{H:bw}{v:Value}{t:TypeId}{sz n:Nat}{cells:List Value}(hS:SL W l w)(hp:kI [.mem H,.ob (bI v t sz n cells)] l F):
  ∃H',H.le H'/\fW H' sz v n cells/\SL W (.mem H'::F) w/\∀{W':World} {l':List Chunk} {w':World},SL W' (.mem H'::l') w'->SL W' (.mem H::.ob (bI v t sz n cells)::l') w':=by
 have h:=hS.pick hp
 rcases bI.open (h.perm (.swap _ _ _)) with ⟨⟨a,rfl⟩,rfl,rfl,hS⟩|⟨b,cap,rest,rfl,hc,hlen,mW,hS⟩
 ·exact⟨H,bw.le_refl H,⟨by simp,a,0,rfl,Nat.le_refl _,.inl rfl⟩,hS,λh2=>(bI.sK h2).perm (.swap _ _ _)⟩
 ·obtain⟨H',h1,h2,h3,h4⟩:=SL.bIh (hS.perm (.swap _ _ _))
  refine⟨H',h1,⟨hlen,_,cap,rfl,hc,.inr ⟨b,0,rfl,λj u hu=>?_⟩⟩,h3,λh5=>?_⟩
  ·rw[Nat.zero_add]
   refine h2 j u ?_
   rw[List.getElem?_append_left (List.getElem?_eq_some_iff.1 hu).1];exact hu
  ·exact (bI.mk hc hlen mW ((h4 h5).perm (.swap _ _ _))).perm (.swap _ _ _)
theorem Zs(H:bw)(v:Value)(aI:Int)(ts:List (List Row))(hv:u_ H v ts)(hn:ts.length<=140737488351232)(hc:∀C∈ts,C.length<=140737488351232):SP 91 [.int .i64 aI,v] [.mem H] (eW (.bool (lD aI ts)) [.mem H]):=by
 intro W F w hS;apply dWn;delta Oz aF a_ cw ai;(try simp only[app]at hS)
 have hF:∀{w:World},¬(0<=aI/\aI<=1099511627776/\1<=ts.length/\ts.length<=8)->SL W (.mem H::F) w->∃post,eW (.bool (lD aI ts)) [.mem H] (.bool false) post/\SL W (app post F) w:=λiT hS=>⟨_,⟨by unfold lD;rw[decide_eq_false iT];rfl,rfl⟩,hS⟩
 refine Gp ?_
 refine za (λh=>hF (by omega) hS) (λh1=>?_)
 refine Gp ?_
 refine za (λh=>hF (by omega) hS) (λh2=>?_)
 refine yt hv ?_
 refine Gp ?_
 refine za (λh=>hF (by omega) hS) (λh3=>?_)
 refine yt hv ?_
 refine Gp ?_
 refine za (λh=>hF (by omega) hS) (λh4=>?_)
 have hM:lD aI ts=ts.all nA:=by unfold lD;rw[decide_eq_true (show 0<=aI/\aI<=1099511627776/\1<=ts.length/\ts.length<=8 by omega)];rfl
 refine⟨λus w=>∃i:Nat,us=[.int .i64 i]/\i<=ts.length/\(∀j (h:j<ts.length),j<i->nA ts[j]=true)/\SL W (.mem H::F) w,λus _=>match us with|[.int _ i]=>(ts.length-i).toNat|_=>0,⟨0,rfl,by omega,λj h hj=>by omega,hS⟩,?_⟩
 clear hS
 rintro v5 w ⟨i,dR,hi,iD,hS⟩
 cases dR
 refine yt hv ?_
 refine b9 (λh=>?_) (λh=>?_)
 ·have b8:i<ts.length:=by omega
  refine qe hS Xh hv b8 λcv nz=>?_
  have vt:=hc _ (List.getElem_mem b8)
  have iT:∀{w:World},nA ts[i]=false->SL W (.mem H::F) w->∃post,eW (.bool (lD aI ts)) [.mem H] (.bool false) post/\SL W (app post F) w:=λhb hS=>
   ⟨_,⟨by rw[hM,show ts.all nA=false from List.all_eq_false.2 ⟨_,List.getElem_mem b8,by rw[hb];decide⟩],rfl⟩,hS⟩
  have a_2:nA ts[i]=true->∀j (h:j<ts.length),j<i+1->nA ts[j]=true:=λhb j hj ll=>by
   by_cases e:j=i
   ·subst e;exact hb
   ·exact iD j hj (by omega)
  generalize ts[i]=C at *
  refine zn nz ?_
  refine Gp ?_
  refine za (λh5=>iT (by unfold nA;rw[decide_eq_false (show ¬C.length<=1000 by omega),Bool.and_false]) hS) (λh5=>?_)
  refine⟨λus w=>∃(j:Nat) (k:Int),us=[.int .i64 j]/\j<=C.length/\0<=k/\(∀(h:0<j) (h2:j<=C.length),k=(C[j-1]'(by omega)).key)/\(j=0->k=0)/\sP 0 C=sP k (C.drop j)/\SL W (.mem H::F) w,
   λus _=>match us with|[.int _ i]=>(C.length-i).toNat|_=>0,⟨0,0,rfl,by omega,Int.le_refl _,λh=>absurd h (by decide),λ_=>rfl,rfl,hS⟩,?_⟩
  clear hS
  rintro v7 w ⟨j,k,dR,hj,EC,CA,aWr,hr,hS⟩
  cases dR
  refine zn nz ?_
  refine b9 (λh=>?_) (λh=>?_)
  ·have jI:j<C.length:=by omega
   rw[List.drop_eq_getElem_cons jI,sP]at hr
   have hx:C[j]?=some C[j]:=List.getElem?_eq_getElem jI
   have Eh:∀{w:World},¬(k<C[j].key/\C[j].key<=1099511627776/\C[j].val.size<=32)->SL W (.mem H::F) w->∃post,eW (.bool (lD aI ts)) [.mem H] (.bool false) post/\SL W (app post F) w:=λhn hS=>
    iT (by unfold nA;rw[hr,decide_eq_false hn];rfl) hS
   have oV:∀{w:World},(k<C[j].key/\C[j].key<=1099511627776/\C[j].val.size<=32)->SL W (.mem H::F) w->∃(j':Nat) (k':Int),[Value.int .i64 ((j+1:Nat):Int)]=[.int .i64 j']/\j'<=C.length/\0<=k'/\(∀(h:0<j') (h2:j'<=C.length),k'=(C[j'-1]'(by omega)).key)/\(j'=0->k'=0)/\sP 0 C=sP k' (C.drop j')/\SL W (.mem H::F) w:=λhn hS=>
    ⟨j+1,C[j].key,rfl,by omega,by omega,λ_ _=>rfl,λh=>by omega,by rw[hr,decide_eq_true hn];rfl,hS⟩
   refine Gn λw hS=>?_
   refine zA hS Xh jG nz hx jI (i:=0) rfl ?_
   refine Gp ?_
   refine za (λh=>Eh (by omega) hS) (λh6=>?_)
   refine zA hS Xh jG nz hx jI (i:=0) rfl ?_
   refine Gp ?_
   refine za (λh=>Eh (by omega) hS) (λh7=>?_)
   refine zA hS Xh jG nz hx jI (i:=1) rfl ?_
   refine Gp ?_
   refine za (λh=>Eh (by omega) hS) (λh8=>?_)
   refine b9 (λh9=>?_) (λh9=>?_)
   ·have Sb:j-1<C.length:=by omega
    have hp:=CA (by omega) hj
    refine zA hS Xh jG nz hx jI (i:=0) rfl ?_
    refine Gp ?_
    rw[show ((j:Nat):Int)-1=((j-1:Nat):Int) by omega]
    refine zA hS Xh jG nz (x:=C[j-1]) (List.getElem?_eq_getElem Sb) Sb (i:=0) rfl ?_
    refine Gp ?_
    refine za (λh=>Eh (by omega) hS) (λuK=>?_)
    refine Gp ?_
    exact⟨oV (by omega) (aR hS),by dsimp only;omega⟩
   ·have hp:=aWr (by omega)
    refine Gp ?_
    exact⟨oV (by omega) (aR hS),by dsimp only;omega⟩
  ·have xM:j=C.length:=by omega
   subst xM
   rw[List.drop_length]at hr
   refine Gp ?_
   exact⟨⟨i+1,rfl,by omega,a_2 (by unfold nA;rw[hr,decide_eq_true (show C.length<=1000 by omega)];rfl),aR hS⟩,by dsimp only;omega⟩
 ·refine⟨_,⟨?_,rfl⟩,hS⟩
  rw[hM,show ts.all nA=true from List.all_eq_true.2 λC hC=>by
   obtain⟨j,hj,rfl⟩:=List.getElem_of_mem hC
   exact iD j hj (by omega)]
theorem Y'{aI:Int}{ts:List (List Row)}{i:Nat}{C:List Row}{j:Nat}(h:j<C.length):s8 aI ts i C (j+1)=s8 aI ts i C j++[iF C[j].key,tF C[j].val]:=by
 rw[X_ h,List.append_assoc];rfl
theorem eId(H:bw)(v:Value)(aI:Int)(ts:List (List Row))(hv:u_ H v ts)(hn:ts.length<=140737488351232)(hc:∀C∈ts,C.length<=140737488351232):SP 32 [.int .i64 aI,v] [.mem H] (FO H aI ts):=by
 intro W F w hS;apply dIm;delta No aF a_ aW dW ai dw bR;(try simp only[app]at hS)
 refine Cg (Zs H v aI ts hv hn hc) λw hS=>?_
 refine zz (λh=>?_) (λhm=>?_)
 ·exact⟨[.mem H],by unfold FO GI;rw[if_neg (by rw[h];decide)];exact⟨rfl,rfl⟩,aR hS⟩
 obtain⟨hb,hT⟩:=uh.1 hm
 have G9:∀C∈ts,C.length<=1000:=λC hC=>(hT C hC).len
 have h8:ts.length*2001<=8*2001:=Nat.mul_le_mul_right _ (by omega)
 obtain⟨vs,n3,ni⟩:=id hv
 refine Cg (zP aI) λw hS=>?_
 refine yt hv ?_
 refine Cg (zP ts.length) λw hS=>?_
 refine zD hS (P_ (iF aI) (iF ts.length)) λb w hS=>?_
 have hS:=bI.full (n:=2) (sz:=3) rfl hS
 have hS:SL W (mH _ (tL aI ts 0)::_) _:=hS
 refine⟨λus w=>∃(i:Nat) (u:Value),us=[u,.int .i64 i]/\i<=ts.length/\SL W (mH u (tL aI ts i)::.mem H::F) w,λus _=>match us with|[_,.int _ i]=>(ts.length-i).toNat|_=>0,⟨0,_,rfl,by omega,aR hS⟩,?_⟩
 clear hS
 rintro u v7 w ⟨i,_,dR,hi,hS⟩
 cases dR
 have uL:=P3 (aI:=aI) G9 i
 refine yt hv ?_
 refine b9 (λh=>?_) (λh=>?_)
 ·have b8:i<ts.length:=by omega
  have hs:=X8 (aI:=aI) b8
  have vt:=G9 _ (List.getElem_mem b8)
  have Hm:i<vs.length:=by rw[ni.1];exact b8
  have hu:vs[i]?=some vs[i]:=List.getElem?_eq_getElem Hm
  have nz:=ni.2 i _ _ hu (List.getElem?_eq_getElem b8)
  generalize vs[i]=cv at *
  generalize ts[i]=C at *
  refine yn hS Xh n3 b8 hu ?_
  refine zn nz ?_
  refine Cg (zP C.length) λw hS=>?_;refine Gm λb w hS=>?_
  refine yE (L:=tL aI ts i) (M:=[iF C.length]) hS Xr (Dl hS Xh) (by simp;omega) λu3 w hS=>?_
  have hS:SL W (mH u3 (s8 aI ts i C 0)::_) _:=hS
  refine⟨λus w=>∃(j:Nat) (u:Value),us=[u,.int .i64 j]/\j<=C.length/\SL W (mH u (s8 aI ts i C j)::.mem H::F) w,λus _=>match us with|[_,.int _ i]=>(C.length-i).toNat|_=>0,⟨0,_,rfl,by omega,aR hS⟩,?_⟩
  clear hS
  rintro u v8 w ⟨j,_,dR,hj,hS⟩
  cases dR
  have Ee:=X9 (aI:=aI) G9 i vt j
  refine yn hS Xh n3 b8 hu ?_
  refine zn nz ?_
  refine b9 (λh=>?_) (λh=>?_)
  ·have jI:j<C.length:=by omega
   have hs2:=Y' (aI:=aI) (ts:=ts) (i:=i) jI
   have hx:C[j]?=some C[j]:=List.getElem?_eq_getElem jI
   generalize C[j]=r at *
   obtain⟨rk,rv⟩:=r
   refine Gn λw hS=>?_
   refine yn hS Xh n3 b8 hu ?_
   refine zA hS Xh jG nz hx jI (i:=0) rfl ?_
   refine ZH n3 b8 λb1 o1 wC=>?_
   have kD:=wC 0 cv (by omega) (by simpa using hu)
   refine ZS hS Xh kD ?_
   refine ZH nz jI λb2 o2 pM=>zW ?_
   have nJ:=pM 1 (.string rv) (by omega) (sy jG C j 1 _ _ hx rfl)
   refine ZS hS Xh nJ ?_
   refine Cg (zP rk) λw hS=>?_
   refine ZS hS Xh kD (qf ?_)
   refine ZS hS Xh nJ (qf ?_)
   refine Cg (Zf rv) λw hS=>?_
   refine zD hS (P_ (iF rk) (tF rv)) λb w hS=>?_
   refine yE (L:=s8 aI ts i C j) (M:=[iF rk,tF rv]) hS Xr (lX (m:=2) (sz:=3) (cap:=2) hS Xh rfl) (by simp;omega) λu5 w hS=>?_
   refine Gp ?_
   refine⟨⟨j+1,_,rfl,by omega,?_⟩,by dsimp only;omega⟩
   rw[hs2]
   exact aR hS
  ·obtain rfl:j=C.length:=by omega
   refine Gp ?_
   refine⟨⟨i+1,_,rfl,by omega,?_⟩,by dsimp only;omega⟩
   rw[hs]
   exact aR hS
 ·obtain rfl:i=ts.length:=by omega
  rw[X7]at hS uL
  refine Cc (yY (mH u (pq aI ts)) u (pq aI ts) rG.own (by omega)) ?_;clear hS
  rintro r post hq w hS
  try simp only[app]at hS
  have he:=(SO hm).1
  have hl:=SN hm
  unfold sf at hq
  rw[he]at hq
  obtain⟨bv,rfl,rfl⟩:=hq
  (try simp only[app]at hS);refine Gp ?_
  refine Cc (ZF _ bv (vL aI ts) ix.own (by omega)) ?_;clear hS
  rintro r post hq w hS
  try simp only[app]at hS
  unfold sj at hq
  rw[if_neg (by omega)]at hq
  obtain⟨ov,rfl,rfl⟩:=hq
  (try simp only[app]at hS);refine Gp ?_
  exact⟨_,by unfold FO GI;rw[if_pos hm];exact⟨ov,rfl,rfl⟩,aR hS⟩
def we(X:Chunk)(H:bw)(b:List UInt8)(u:Value)(post:List Chunk):Prop:=match l7 b with
 | none=>u= .tuple #[.int .i64 0,.slice none 0 0,.int .i64 3]/\∃H',H.le H'/\post=[X,.mem H']
 | some x=>∃v vs H',H.le H'/\mT H' vs x.2/\u= .tuple #[.int .i64 x.1,v,.int .i64 0]/\post=[.ob (bI v 53 1 x.2.length vs),X,.mem H']
theorem SR{l:List ie}(h:¬((oX ⟨l,false⟩).2.bad=false/\(oX ⟨l,false⟩).2.l=[]/\lD (oX ⟨l,false⟩).1.1 (oX ⟨l,false⟩).1.2=true)):sI l=none:=by
 rw[<- SQ];unfold EY;simp only;rw[if_neg h]
theorem bw3{l:List ie}(h:(oX ⟨l,false⟩).2.bad=false/\(oX ⟨l,false⟩).2.l=[]/\lD (oX ⟨l,false⟩).1.1 (oX ⟨l,false⟩).1.2=true):sI l=some (oX ⟨l,false⟩).1:=by
 rw[<- SQ];unfold EY;simp only;rw[if_pos h]
structure FP(l:List ie)(aI:Int)(r1:e_):Prop where
 aI:(oX ⟨l,false⟩).1.1=aI
 ts:(oX ⟨l,false⟩).1.2=(iX r9 (gI 8 r1).1.toNat (gI 8 r1).2).1
 rd:(oX ⟨l,false⟩).2=(iX r9 (gI 8 r1).1.toNat (gI 8 r1).2).2
theorem FP.is(l:List ie):FP l (gI 1099511627776 ⟨l,false⟩).1 (gI 1099511627776 ⟨l,false⟩).2:=⟨rfl,rfl,rfl⟩
theorem cFs(r:e_):r9 r=iX uk (gI 1000 r).1.toNat (gI 1000 r).2:=rfl
theorem qR(X:Chunk)(H:bw)(v:Value)(bs:List UInt8)(hv:ix X v bs)(hN:bs.length<=140737488355328):SP 178 [v] [X,.mem H] (we X H bs):=by
 intro W F w hS;apply cWt;delta K_ aF bF dW ai dw bR;(try simp only[app]at hS)
 have iT:l7 bs=none->∀{w:World} {H':bw},H.le H'->SL W (X::.mem H'::F) w->∃post,we X H bs (.tuple #[.int .i64 0,.slice none 0 0,.int .i64 3]) post/\SL W (app post F) w:=λh w H' hh hS=>⟨[X,.mem H'],by unfold we;rw[h];exact⟨rfl,H',hh,rfl⟩,hS⟩
 refine Cc (Yh X v bs hv hN) ?_;clear hS
 rintro r post hq w hS
 unfold sX at hq
 cases ht:lj bs with
 | error e=>
  rw[ht]at hq
  obtain⟨rfl,rfl⟩:=hq
  have hd:l7 bs=none:=by unfold l7;rw[ht]
  have he:e≠0:=by have:=FG ht;omega
  (try simp only[app]at hS);refine Gp ?_
  exact za (λ_=>iT hd (bw.le_refl H) (aR hS)) (λh=>absurd he h)
 | ok pn=>
  obtain⟨p,n⟩:=pn
  rw[ht]at hq
  obtain⟨pv,rfl,rfl⟩:=hq
  (try simp only[app]at hS);refine Gp ?_
  refine za (λh=>absurd rfl h) (λ_=>?_)
  refine zM hS Xh hv ?_
  refine b9 (λh=>?_) (λh=>?_)
  ·have hd:l7 bs=none:=by unfold l7;rw[ht];simp only;rw[if_neg (by omega)]
   exact iT hd (bw.le_refl H) (aR hS)
  have xU:n=bs.length:=by omega
  have j7:p.length<=140737488355328:=by have:=Aa ht;omega
  refine Cc (yX _ pv p ix.own j7) ?_;clear hS
  rintro r post hq w hS
  unfold se at hq
  cases hd:lL p with
  | error e=>
   rw[hd]at hq
   obtain⟨rfl,rfl⟩:=hq
   have he:=DW hd
   have hd:l7 bs=none:=by unfold l7;rw[ht];simp only;rw[if_pos xU,hd]
   (try simp only[app]at hS);refine Gp ?_
   exact za (λ_=>iT hd (bw.le_refl H) (aR hS)) (λh=>absurd he h)
  | ok l=>
   rw[hd]at hq
   obtain⟨lv,rfl,rfl⟩:=hq
   have hI:=Gv ht xU hd
   try simp only[app]at hS
   refine Gp ?_
   refine za (λh=>absurd rfl h) (λ_=>?_)
   obtain⟨la,lc,rfl,_⟩:=bI.at hS (v:=lv) (t:=174) (sz:=3) (n:=l.length) (cells:=(l.map iR).flatten) Xh
   have hS:=SL.b_ hS (t:=mH (.slice la l.length lc) l::X::.mem H::F) Xi
   refine Gp ?_
   refine zC hS λrp w hS=>?_
   have hS:=(ks.iff (r:=⟨l,false⟩)).2 ⟨_,l,0,⟨Nat.zero_le _,Pw hd,rfl⟩,hS⟩
   refine Cc (zR rp ⟨l,false⟩ 1099511627776) ?_;clear hS
   rintro v1 post ⟨rfl,rfl⟩ w hS
   try simp only[app]at hS
   have hR:=FP.is l
   generalize (gI 1099511627776 ⟨l,false⟩).1=aI at *
   generalize (gI 1099511627776 ⟨l,false⟩).2=r1 at *
   have xT:=E4 (m:=8) (by decide) r1
   refine Cc (zR rp r1 8) ?_;clear hS
   rintro v1 post ⟨rfl,rfl⟩ w hS
   try simp only[app]at hS
   have nN:=hR.ts
   have iA:=hR.rd
   generalize (gI 8 r1).1=n1 at *
   generalize (gI 8 r1).2=r2 at *
   have hS:SL W (.ob (bI (.slice none 0 0) 53 1 ([]:List (List Row)).length [])::_) _:=bI.nil hS
   refine⟨λus w=>∃(i k:Nat) (ts:List (List Row)) (r:e_) (tv:Value) (vs:List Value) (H':bw),us=[tv,.int .i64 i]/\n1=((i+k:Nat):Int)/\nT r9 n1.toNat r2 ts k r/\(∀C∈ts,C.length<=1000)/\H.le H'/\mT H' vs ts/\SL W (.ob (bI tv 53 1 ts.length vs)::.ob (ks rp r)::X::.mem H'::F) w,
    λus _=>match us with|[_,.int _ i]=>(n1-i).toNat|_=>0,⟨0,n1.toNat,[],r2,.slice none 0 0,[],H,rfl,by omega,nT.start _ _ _,by simp,bw.le_refl H,mT.nil H,aR hS⟩,?_⟩
   clear hS
   rintro tv wY w ⟨i,k,ts,r,_,vs,H',dR,hn,hM,vt,hh,l_,hS⟩
   cases dR
   have hle:=hM.le
   have kX:∀{w:World},(k=0\/r.bad=true)->SL W (.ob (bI tv 53 1 ts.length vs)::.ob (ks rp r)::X::.mem H'::F) w ->
     aw 246 [.pointer (some ⟨rp,0,none⟩)] w λv87 Vs=>y0 v87 λv88=>g9 v88
      (∃post,we X H bs (.tuple #[.int .i64 0,.slice none 0 0,.int .i64 3]) post/\SL W (app post F) Vs)
      (aw 91 [.int .i64 aI,tv] Vs λv92 Vt=>y0 v92 λv93=>g9 v93
       (∃post,we X H bs (.tuple #[.int .i64 0,.slice none 0 0,.int .i64 3]) post/\SL W (app post F) Vt)
       (∃post,we X H bs (.tuple #[.int .i64 aI,tv,.int .i64 0]) post/\SL W (app post F) Vt)):=by
    intro w hk hS
    rw[hM.stop hk]at nN iA
    have nN:(oX ⟨l,false⟩).1.2=ts:=nN
    have iA:(oX ⟨l,false⟩).2=r:=iA
    have sG:=hR.aI
    refine Cg (YM rp r) λw hS=>?_
    refine zz (λhb=>?_) (λhb=>?_)
    ·have hb:=of_decide_eq_false hb
     exact iT (by rw[hI];exact SR λh=>hb ⟨by rw[<- iA];exact h.1,by rw[<- iA];exact h.2.1⟩) hh (aR hS)
    ·have hb:=of_decide_eq_true hb
     obtain⟨H2,f',hO,hS,lR⟩:=b_2 (H:=H') (v:=tv) hS Xp
     have hT:u_ H2 tv ts:=⟨vs,hO,l_.mono f'⟩
     refine Cg (Zs H2 tv aI ts hT (by omega) (λC hC=>by have:=vt C hC;omega)) λw hS=>?_
     have hS:=lR (SL.b_ hS (t:=.mem H2::X::F) Xi)
     refine zz (λhm=>?_) (λhm=>?_)
     ·exact iT (by rw[hI];exact SR λh=>by rw[sG,nN,hm]at h;cases h.2.2) hh (aR hS)
     ·have he:=bw3 (l:=l) ⟨by rw[iA];exact hb.1,by rw[iA];exact hb.2,by rw[sG,nN];exact hm⟩
      refine⟨[.ob (bI tv 53 1 ts.length vs),X,.mem H'],?_,aR hS⟩
      unfold we
      rw[hI,he]
      simp only
      rw[sG,nN]
      exact⟨tv,vs,H',hh,l_,rfl,rfl⟩
   refine Gp ?_
   refine za (λh=>?_) (λh=>kX (.inl (by omega)) hS)
   refine Gp ?_
   refine ks.DN (r:=r) (Has.front hS Xr) ?_
   refine Gp ?_
   refine zz (λhb=>?_) (λhb=>kX (.inr hb) hS)
   clear kX
   obtain⟨k,rfl⟩:∃j,k=j+1:=⟨k-1,by omega⟩
   have hM:=hM.step hb
   rw[cFs]at hM
   have HD:=E4 (m:=1000) (by decide) r
   refine Cc (zR rp r 1000) ?_;clear hS
   rintro v1 post ⟨rfl,rfl⟩ w hS
   try simp only[app]at hS
   generalize (gI 1000 r).1=n2 at *
   generalize (gI 1000 r).2=r5 at *
   have hS:SL W (jC (.slice none 0 0) []::_) _:=bI.nil hS
   refine⟨λus w=>∃(a c:Nat) (rs:List Row) (r':e_) (rv:Value),us=[rv,.int .i64 a]/\n2=((a+c:Nat):Int)/\nT uk n2.toNat r5 rs c r'/\SL W (jC rv rs::.ob (ks rp r')::.ob (bI tv 53 1 ts.length vs)::X::.mem H'::F) w,
    λus _=>match us with|[_,.int _ i]=>(n2-i).toNat|_=>0,⟨0,n2.toNat,[],r5,.slice none 0 0,rfl,by omega,nT.start _ _ _,aR hS⟩,?_⟩
   clear hS
   rintro rv u9 w ⟨a,c,rs,r',_,dR,hn3,p9,hS⟩
   cases dR
   have Sd:=p9.le
   have lS:∀{w:World},(c=0\/r'.bad=true)->SL W (jC rv rs::.ob (ks rp r')::.ob (bI tv 53 1 ts.length vs)::X::.mem H'::F) w ->
     ∃H2,H'.le H2/\fW H2 2 rv rs.length (rs.map iu).flatten/\rs.length<=1000/\nT r9 n1.toNat r2 (ts++[rs]) k r'/\SL W (.mem H2::.ob (ks rp r')::.ob (bI tv 53 1 ts.length vs)::X::F) w:=λhk hS=>by
    obtain⟨H2,f',hO,hS⟩:=zu (H:=H') (v:=rv) hS Xp
    refine⟨H2,f',hO,by omega,?_,aR hS⟩
    rw[p9.stop hk]at hM
    exact hM
   have lZ:∀{w:World} {H2:bw} {u:Value} {cells:List Value},H'.le H2->fW H2 2 rv rs.length (rs.map iu).flatten->rs.length<=1000->nT r9 n1.toNat r2 (ts++[rs]) k r'->cells=vs++[rv]->SL W (.ob (bI u 53 1 (ts.length+1) cells)::.ob (ks rp r')::X::.mem H2::F) w ->
     ∃(i' k:Nat) (ts:List (List Row)) (r:e_) (tv:Value) (vs:List Value) (H':bw),[u,Value.int .i64 ((i+1:Nat):Int)]=[tv,.int .i64 i']/\n1=((i'+k:Nat):Int)/\nT r9 n1.toNat r2 ts k r/\(∀C∈ts,C.length<=1000)/\H.le H'/\mT H' vs ts/\SL W (.ob (bI tv 53 1 ts.length vs)::.ob (ks rp r)::X::.mem H'::F) w:=λf' hO hl hM e hS=>by
    subst e
    refine⟨i+1,k,ts++[rs],r',_,vs++[rv],_,rfl,by omega,hM,λC hC=>?_,bw.le_trans hh f',(l_.mono f').snoc hO,?_⟩
    ·rcases List.mem_append.1 hC with hC|hC
     ·exact vt C hC
     ·rw[List.mem_singleton.1 hC];exact hl
    ·rw[List.length_append,List.length_singleton];exact hS
   refine b9 (λh=>?_) (λh=>?_)
   ·refine Gp ?_
    refine ks.DN (r:=r') (Has.front hS Xr) ?_
    refine Gp ?_
    refine zz (λhb=>?_) (λhb=>?_)
    ·clear lS lZ
     obtain⟨c,rfl⟩:∃j,c=j+1:=⟨c-1,by omega⟩
     have p9:=p9.step hb
     refine Cc (zR rp r' 1099511627776) ?_;clear hS
     rintro v1 post ⟨rfl,rfl⟩ w hS
     try simp only[app]at hS
     refine Gp ?_
     refine Gb λxb w hS=>?_
     refine Cg (y9 rp _) λw hS=>?_;refine Gm λb w hS=>?_
     refine zX (n:=rs.length) (xs:=rs) (y:=(uk r').1) (enc:=iu) hS Xr Xh jG (λx=>s7 x) rfl (by omega) (by omega) λu w hS=>?_
     refine Gp ?_
     refine⟨⟨a+1,c,_,_,u,rfl,by omega,p9,?_⟩,by dsimp only;omega⟩
     have hS:=hS.o9 (x:=(uk r').1)
     have hS:SL W (jC u (rs++[(uk r').1])::_::.ob (ks rp (uk r').2)::_::.ob (bI tv 53 1 ts.length vs)::X::.mem H'::F) _:=hS
     exact aR hS
    ·obtain⟨H2,f',hO,hl,hM,hS⟩:=lS (.inr hb) hS
     have kD:=hO.one
     refine zD hS (D4 kD) λb w hS=>?_
     refine zy (n:=ts.length) (m:=1) hS Xr (lX (cs:=[rv]) hS Xh rfl) rfl rfl (by simpa using kD) (by omega) (by omega) ?_
     clear hS;intro u w hS
     refine Gp ?_
     exact⟨lZ f' hO hl hM rfl (aR hS),by dsimp only;omega⟩
   ·obtain⟨H2,f',hO,hl,hM,hS⟩:=lS (.inl (by omega)) hS
    have kD:=hO.one
    refine zD hS (D4 kD) λb w hS=>?_
    refine zy (n:=ts.length) (m:=1) hS Xr (lX (cs:=[rv]) hS Xh rfl) rfl rfl (by simpa using kD) (by omega) (by omega) ?_
    clear hS;intro u w hS
    refine Gp ?_
    exact⟨lZ f' hO hl hM rfl (aR hS),by dsimp only;omega⟩
section
variable {W w:World} {l:List Chunk}
theorem Ql{b o n cap sz:Nat}{t:TypeId}{cells:List Value}{u:Value}{K:Value->Prop}(h:SL W l w)(m:Has (.ob (bI (.slice (some ⟨b,0,none⟩) n cap) t sz n cells)) l)(hn:0<n)(hu:cells[o]?=some u)(hK:K u):
  cI (.pointer (some ⟨b,o,none⟩)) w K:=by
 obtain⟨a,vk,e,_,h2⟩:=bI.at h m
 cases e
 obtain⟨b',e,h3⟩:=h2 0 hn
 cases e
 exact⟨_,u,rfl,h3 o u hu,hK⟩
theorem UM{v:Value}{t:TypeId}{sz n k:Nat}{kk:IntKind}{cells:List Value}{K:Value->Prop}(h:SL W l w)(m:Has (.ob (bI v t sz n cells)) l)(hk:k<=n)
  (hK:∀u,(∀w' l',SL W l' w'->Has (.ob (bI v t sz n cells)) l'->m8 w' sz u (n-k) (cells.drop (k*sz)))->K u):iQ sz v (some (.int kk (k:Int))) none none K:=by
 obtain⟨a,cap,rfl,hl,hx⟩:=bI.at h m
 have wD:n<=cap:=by
  obtain⟨l2,r⟩:=m.rem
  rcases bI.open (h.perm r.perm) with ⟨⟨a',e⟩,rfl,rfl,_⟩|⟨b,vk,rest,e,hc,_⟩
  ·cases e;omega
  ·cases e;exact hc
 refine⟨a,n,cap,k,n,cap,rfl,rfl,rfl,⟨kk,rfl⟩,hk,wD,Nat.le_refl _,hK _ λw' l' h' m'=>?_⟩
 have hs:=rz h' m'
 have pz:(cells.drop (k*sz)).length=(n-k)*sz:=by rw[List.length_drop,hl,Nat.mul_sub_right_distrib]
 cases a with
 | none=>
  obtain⟨e1,e2⟩:=hs
  subst e2
  have e:(if cap=k then (none:Option Addr) else Option.map (λx:Addr=>x.add (k*sz)) none)=none:=by split<;>rfl
  rw[e]
  exact⟨rfl,by simp⟩
 | some p=>
  obtain⟨_,e2,e3⟩:=hs
  by_cases hc:cap=k
  ·rw[if_pos hc]
   have hnk:n-k=0:=by omega
   rw[hnk]at pz ⊢
   have:cells.drop (k*sz)=[]:=List.eq_nil_of_length_eq_zero (by simpa using pz)
   rw[this]
   exact⟨rfl,by simp,λj v e=>by simp at e⟩
  ·rw[if_neg hc]
   refine⟨rfl,pz,λj v e=>?_⟩
   rw[List.getElem?_drop]at e
   have:=e3 _ v e
   rwa [Addr.add_add]at *
end
theorem Rg{α:Type}{enc:α->List Value}{n:Nat}(hn:∀x,(enc x).length=n):∀(xs:List α) (j k:Nat) (hj:j<xs.length) (x:α) (v:Value),k<n->(enc xs[j]).set k v=enc x->((xs.map enc).flatten).set (j*n+k) v=((xs.set j x).map enc).flatten
 | y::xs,0,k,_,x,v,hk,h=>by
  simp only[List.map_cons,List.flatten_cons,List.set_cons_zero,Nat.zero_mul,Nat.zero_add]
  rw[List.set_append_left _ _ (by rw[hn];exact hk)]
  rw[show (enc y).set k v=enc x from h]
 | y::xs,j+1,k,hj,x,v,hk,h=>by
  simp only[List.map_cons,List.flatten_cons,List.set_cons_succ]
  rw[List.set_append_right _ _ (by rw[hn,Nat.add_mul];omega),hn,show (j+1)*n+k-n=j*n+k by rw[Nat.add_mul];omega,Rg hn xs j k (by simpa using hj) x v hk (by simpa using h)]
abbrev YF:=PF × Value
def kP(y:YF):Int:=y.1.id
theorem ud(y:YF):PF.id (Prod.fst y)=kP y:=rfl
def jQ(y:YF):List Value:=[.int .i64 y.1.id,.int .i64 (y.1.safe:Int),y.2]
theorem nX(y:YF):(jQ y).length=3:=rfl
def sV(H:bw)(ys:List YF):Prop:=∀y∈ys,fW H 1 y.2 y.1.b.length (y.1.b.map fI)
theorem sV.mono{H H':bw}(hh:H.le H'){ys:List YF}(h:sV H ys):sV H' ys:=λy hy=>(h y hy).mono hh
theorem sV.set{H:bw}{ys:List YF}(h:sV H ys){i:Nat}{y:YF}(hy:fW H 1 y.2 y.1.b.length (y.1.b.map fI)):sV H (ys.set i y):=λz hz=>by
 rcases List.mem_or_eq_of_mem_set hz with hz|rfl
 ·exact h z hz
 ·exact hy
abbrev kz(fv:Value)(s:DS):List Value:=[fv,.int .i64 s.arm,.bool s.off,.int .i64 (s.ops:Int)]
abbrev j3(fv:Value)(ys:List YF):zE:=bI fv 186 3 ys.length (ys.map jQ).flatten
def eI(H:bw)(xp:Nat)(s:DS):zE:=nr λx:Value × List YF=>zU (x.2.map Prod.fst=s.R/\sV H x.2) [.pt xp (kz x.1 s) 66,.ob (j3 x.1 x.2)]
theorem eI.iff{W w:World}{H:bw}{xp:Nat}{s:DS}{l:List Chunk}:SL W (.ob (eI H xp s)::l) w↔∃fv ys,(ys.map Prod.fst=s.R/\sV H ys)/\SL W (.pt xp (kz fv s) 66::.ob (j3 fv ys)::l) w:=by
 unfold eI
 simp only[SL.ex,SL.fact,List.cons_append,List.nil_append]
 exact⟨λ⟨x,h1,h2⟩=>⟨x.1,x.2,h1,h2⟩,λ⟨fv,ys,h1,h2⟩=>⟨(fv,ys),h1,h2⟩⟩
theorem eI.mono{W w:World}{H H':bw}(hh:H.le H'){xp:Nat}{s:DS}{l:List Chunk}(h:SL W (.ob (eI H xp s)::l) w):SL W (.ob (eI H' xp s)::l) w:=by
 obtain⟨fv,ys,⟨h1,h2⟩,hS⟩:=eI.iff.1 h
 exact eI.iff.2 ⟨fv,ys,⟨h1,h2.mono hh⟩,hS⟩
theorem PW{ys:List YF}{j i o:Nat}(hj:j<ys.length)(ho:o=j*3+i){u:Value}(hu:(jQ ys[j])[i]?=some u):((ys.map jQ).flatten)[o]?=some u:=by
 subst ho;exact sy nX ys j i _ u (List.getElem?_eq_getElem hj) hu
theorem Zb(xp:Nat)(s:DS)(fv:Value)(ys:List YF)(hs:ky PF.id (ys.map Prod.fst))(hn:ys.length<=100000)(f:Int):
  SP 100 [.pointer (some ⟨xp,0,none⟩),.int .i64 f] [.pt xp (kz fv s) 66,.ob (j3 fv ys)]
   (eW (.tuple #[.int .i64 (iW kP ys f:Int),.bool (kq kP ys f)]) [.pt xp (kz fv s) 66,.ob (j3 fv ys)]):=by
 intro W F w hS;apply cIs;delta J3 aF bF a_ aW d_ ai;(try simp only[app]at hS)
 have hs:ky kP ys:=(cw2 ud).1 hs
 refine⟨λus w=>∃i:Nat,us=[.int .i64 i]/\i<=ys.length/\(∀j (h:j<ys.length),j<i->kP ys[j]<f)/\SL W (.pt xp (kz fv s) 66::.ob (j3 fv ys)::F) w,
  λus _=>match us with|[.int _ i]=>(ys.length-i).toNat|_=>0,⟨0,rfl,by omega,λj h h0=>by omega,hS⟩,?_⟩
 clear hS
 rintro v6 w ⟨i,dR,hi,iZ,hS⟩
 cases dR
 refine Gp ?_
 refine zx hS (t:=186) (sz:=3) (n:=ys.length) (cells:=(ys.map jQ).flatten) Xh ?_
 refine b9 (λh=>?_) (λh=>?_)
 ·have b8:i<ys.length:=by omega
  obtain⟨a,cap,rfl,_,hx⟩:=bI.at hS (t:=186) (sz:=3) (n:=ys.length) (cells:=(ys.map jQ).flatten) Xh
  obtain⟨b,rfl,_⟩:=hx i b8
  have hid:((ys.map jQ).flatten)[0+i*3+0]?=some (.int .i64 ys[i].1.id):=PW b8 (i:=0) (by omega) rfl
  refine Gp ?_
  refine zH b8 (zW ?_)
  refine Ql hS (t:=186) (sz:=3) (cells:=(ys.map jQ).flatten) Xh (by omega) hid ?_
  refine b9 (λh2=>?_) (λh2=>?_)
  ·refine Gp ?_
   refine⟨⟨i+1,by simp,by omega,λj h3 h4=>?_,aR hS⟩,by dsimp only;omega⟩
   by_cases e:j=i
   ·subst e;exact h2
   ·exact iZ j h3 (by omega)
  ·have hc:iW kP ys f=i:=Gr hs f hi iZ λ_=>h2
   have hk:kq kP ys f=decide (ys[i].1.id=f):=by
    unfold kq;rw[hc,List.getElem?_eq_getElem b8];rfl
   rw[hc,hk]
   refine Gn λw hS=>?_
   refine za (λ_=>?_) (λh=>absurd (by omega) h)
   refine Gp ?_
   refine zH b8 (zW ?_)
   refine Ql hS (t:=186) (sz:=3) (cells:=(ys.map jQ).flatten) Xh (by omega) hid ?_
   refine Gp ?_
   refine Ql hS (t:=186) (sz:=3) (cells:=(ys.map jQ).flatten) Xh (by omega) hid ?_
   refine Gp ?_
   exact fw hS
 ·have nf:i=ys.length:=by omega
  have hc:iW kP ys f=i:=Gr hs f hi iZ λh=>by omega
  have hk:kq kP ys f=false:=by
   unfold kq;rw[hc,List.getElem?_eq_none (by omega)]
  rw[hc,hk]
  refine Gn λw hS=>?_
  refine zx hS (t:=186) (sz:=3) (n:=ys.length) (cells:=(ys.map jQ).flatten) Xh ?_
  refine Gp ?_
  refine za (λh=>absurd h (by omega)) (λ_=>?_)
  exact fw hS
theorem E5{s:DS}{ys:List YF}(h:ys.map Prod.fst=s.R)(f:Int):kq PF.id s.R f=kq kP ys f:=by rw[<- h];exact A' ud ys f
theorem yD(xp:Nat)(s:DS)(fv:Value)(ys:List YF)(he:ys.map Prod.fst=s.R)(hs:ky PF.id s.R)(hn:ys.length<=100000)(f:Int)(x':Bool):
  SP 98 [.pointer (some ⟨xp,0,none⟩),.int .i64 f,.bool x'] [.pt xp (kz fv s) 66,.ob (j3 fv ys)]
   (eW (.int .i64 (if x' then s.find f else may s f)) [.pt xp (kz fv s) 66,.ob (j3 fv ys)]):=by
 intro W F w hS;apply dWu;delta OG aF bF dW ai;(try simp only[app]at hS)
 have nZ:ky PF.id (ys.map Prod.fst):=by rw[he];exact hs
 have gi:may s f≠0->(if x' then s.find f else may s f)=may s f:=λh=>by
  unfold DS.find;rw[if_pos h];split<;>rfl
 have aWo:may s f=0->(if x' then s.find f else may s f)=if x' then (if kq kP ys f then 0 else 5) else 0:=λh=>by
  unfold DS.find;rw[if_neg (show ¬may s f≠0 by omega),E5 he,h]
 generalize (if x' then s.find f else may s f)=r at *
 refine Gp ?_
 refine yO (λh=>?_) (λh=>?_)
 ·have hm:may s f=8:=by unfold may;rw[if_pos h]
  rw[gi (by omega),hm]
  (exact fw hS)
 ·refine b9 (λh2=>?_) (λh2=>?_)
  ·have hm:may s f=1:=by unfold may;rw[if_neg (by rw[h];decide),if_pos (.inl h2)]
   rw[gi (by omega),hm]
   (exact fw hS)
  ·refine b9 (λh3=>?_) (λh3=>?_)
   ·have hm:may s f=1:=by unfold may;rw[if_neg (by rw[h];decide),if_pos (.inr h3)]
    rw[gi (by omega),hm]
    (exact fw hS)
   ·have hm:may s f=0:=by unfold may;rw[if_neg (by rw[h];decide),if_neg (by omega)]
    rw[aWo hm]
    refine Cg (Zb xp s fv ys nZ hn f) λw hS=>?_
    cases x' with
    | true=>
     refine zw ?_
     cases kq kP ys f with
     | true=>
      refine zQ (zt ?_)
      (exact fw hS)
     | false=>
      refine zQ (zw ?_)
      (exact fw hS)
    | false=>
     refine zt ?_
     (exact fw hS)
theorem Zc(xp:Nat)(s:DS)(fv:Value)(h0:s.off=false)(h1:0<=s.arm)(h2:s.arm<=9223372036854775807)(h3:s.ops<=100000):
  SP 99 [.pointer (some ⟨xp,0,none⟩)] [.pt xp (kz fv s) 66] (eW (.bool s.g7.off) [.pt xp (kz fv s.g7) 66]):=by
 intro W F w hS;apply dWv;delta OH aF bF fR ai;(try simp only[app]at hS)
 refine Gn λw hS=>?_
 refine za (λh=>?_) (λh=>?_)
 ·refine Gn λw hS=>?_
  refine za (λh4=>?_) (λh4=>?_)
  ·refine Gn λw hS=>?_
   have e:s.g7.off=true:=by simp[DS.g7];omega
   have hS:SL W (.pt xp (kz fv s.g7) 66::F) w:=by
    unfold kz;rw[e]
    simp only[DS.g7,if_pos h]
    exact hS
   rw[e]
   (exact fw hS)
  ·refine Gp ?_
   have e:s.g7.off=false:=by simp[DS.g7];omega
   have hS:SL W (.pt xp (kz fv s.g7) 66::F) w:=by
    unfold kz;rw[e]
    rw[h0]at hS
    simp only[DS.g7,if_pos h]
    exact hS
   rw[e,h0]
   (exact fw hS)
 ·refine Gp ?_
  have e:s.g7.off=false:=by simp[DS.g7];omega
  have hS:SL W (.pt xp (kz fv s.g7) 66::F) w:=by
   unfold kz;rw[e]
   rw[h0]at hS
   simp only[DS.g7,if_neg h]
   exact hS
  rw[e,h0]
  (exact fw hS)
theorem yr(g:Bool):SP 101 [.bool g] [] (eW (.int .i64 (if g then 8 else 0)) []):=by
 intro W F w hS;apply cIt;delta J4 ai;(try simp only[app]at hS)
 cases g with
 | true=>refine Gp ?_;(exact fw hS)
 | false=>refine Gp ?_;(exact fw hS)
theorem j3.pt{W w:World}{l:List Chunk}{fv:Value}{ys:List YF}(h:SL W (.ob (j3 fv ys)::l) w)(hn:0<ys.length):∃b cap rest,fv= .slice (some ⟨b,0,none⟩) ys.length cap/\SL W (.pt b ((ys.map jQ).flatten++rest) 186::l) w /\
  ∀FL w' l',FL.length=ys.length->SL W (.pt b ((FL.map jQ).flatten++rest) 186::l') w'->SL W (.ob (j3 (.slice (some ⟨b,0,none⟩) ys.length cap) FL)::l') w':=by
 rcases bI.open h with ⟨_,h0,_⟩|⟨b,cap,rest,rfl,hc,hl,hr,hS⟩
 ·omega
 ·refine⟨b,cap,rest,rfl,hS,λFL w' l' hlen h'=>?_⟩
  unfold j3
  rw[hlen]
  exact bI.mk hc (by rw[l8 nX,hlen]) hr h'
theorem BX{ys:List YF}{rest:List Value}{j i o:Nat}(hj:j<ys.length)(ho:o=j*3+i){u:Value}(hu:(jQ ys[j])[i]?=some u):((ys.map jQ).flatten++rest)[o]?=some u:=by
 have h:=PW hj ho hu
 rw[List.getElem?_append_left (List.getElem?_eq_some_iff.1 h).1];exact h
theorem D1{ys:List YF}{rest:List Value}{j i o:Nat}(hj:j<ys.length)(ho:o=j*3+i)(hi:i<3){v:Value}{y:YF}(hy:(jQ ys[j]).set i v=jQ y):((ys.map jQ).flatten++rest).set o v=((ys.set j y).map jQ).flatten++rest:=by
 subst ho
 rw[List.set_append_left _ _ (by rw[l8 nX];omega),Rg nX ys j i hj y v hi hy]
structure FM(R:List PF)(k7:List YF)(i:Nat)(f:Int):Prop where
 lt:i<k7.length
 at_:∀h:i<k7.length,k7[i].1=⟨f,((iz PF.id R f).getD (oD f)).safe,((iz PF.id R f).getD (oD f)).b⟩
 put:∀y:YF,y.1.id=f->(k7.set i y).map Prod.fst=mo PF.id R y.1
 len:k7.length<=R.length+1
theorem F5{R:List PF}{ys:List YF}(he:ys.map Prod.fst=R){f:Int}(hk:kq kP ys f=true):FM R ys (iW kP ys f) f:=by
 obtain⟨h1,h2⟩:=th hk
 have hg:iz PF.id R f=some ys[iW kP ys f].1:=by
  rw[<- he,B4 ud]
  unfold iz;rw[if_pos hk,List.getElem?_eq_getElem h1];rfl
 refine⟨h1,λ_=>?_,λy hy=>?_,by rw[<- he,List.length_map];omega⟩
 ·rw[hg]
  have h3:∀p:PF,p.id=f->p=⟨f,p.safe,p.b⟩:=by rintro ⟨a,b,c⟩ rfl;rfl
  exact h3 _ h2
 ·have hi:kq PF.id R y.1.id=true:=by rw[hy,<- he,A' ud];exact hk
  rw[Fq hi,hy,<- he,xl ud,List.map_set]
theorem V_{R:List PF}{ys:List YF}(he:ys.map Prod.fst=R){f:Int}(hk:kq kP ys f=false)(v:Value):FM R (ys.take (iW kP ys f)++[(oD f,v)]++ys.drop (iW kP ys f)) (iW kP ys f) f:=by
 have hle:=Au (key:=kP) ys f
 have hg:iz PF.id R f=none:=by
  rw[<- he,B4 ud]
  unfold iz;rw[if_neg (by rw[hk];decide)];rfl
 have hl:(ys.take (iW kP ys f)).length=iW kP ys f:=by rw[List.length_take];omega
 refine⟨by simp;omega,λh=>?_,λy hy=>?_,by rw[<- he];simp;omega⟩
 ·rw[hg]
  rw[List.getElem_append_left (by simp;omega),List.getElem_append_right (by omega)]
  simp[hl];rfl
 ·have hi:kq PF.id R y.1.id=false:=by rw[hy,<- he,A' ud];exact hk
  unfold mo
  rw[hi,hy,<- he,xl ud]
  rw[List.append_assoc,List.set_append_right _ _ (by omega),hl,Nat.sub_self]
  simp
theorem bRv(H:bw)(f:Int):fW H 1 (.slice none 0 0) (oD f).b.length ((oD f).b.map fI):=fW.nil H 1
theorem PX{H:bw}{ys:List YF}(hB:sV H ys):∀v∈(ys.map jQ).flatten,v.oneCell'=true:=by
 intro v hv
 obtain⟨l,hl,hv⟩:=List.mem_flatten.1 hv
 obtain⟨y,hy,rfl⟩:=List.mem_map.1 hl
 simp only[jQ,List.mem_cons,List.not_mem_nil,or_false]at hv
 rcases hv with rfl|rfl|rfl
 ·rfl
 ·rfl
 ·exact (hB y hy).one
theorem b9r(H:bw)(xp:Nat)(s:DS)(N:Nat)(cR:s.Ok N)(iP:s.ops<=100000)(hR:s.R.length<=90000)(f:Int)(bv:Value)(bs:List UInt8)(hb:fW H 1 bv bs.length (bs.map fI))(hN:((iz PF.id s.R f).getD (oD f)).b.length+bs.length<=140737488355328):
  SP 35 [.pointer (some ⟨xp,0,none⟩),.int .i64 f,bv] [.ob (eI H xp s),.mem H] (λv post=>v= .int .i64 (s.append f bs).2/\∃H',H.le H'/\post=[.ob (eI H' xp (s.append f bs).1),.mem H']):=by
 intro W F w hS;apply dI0;delta NA aF bF fR aW d_ dW ai bR;(try simp only[app]at hS)
 obtain⟨fv,ys,⟨he,lB⟩,hS⟩:=eI.iff.1 hS
 have sH:ys.length=s.R.length:=by rw[<- he,List.length_map]
 refine Cc (yD xp s fv ys he cR.sorted (by omega) f false) ?_;clear hS
 rintro v post ⟨rfl,rfl⟩ w hS
 try simp only[app]at hS
 simp only[Bool.false_eq_true,if_false]
 unfold DS.append
 refine b9 (λh=>?_) (λh=>?_)
 ·rw[if_pos h]
  exact⟨_,⟨rfl,H,bw.le_refl H,rfl⟩,eI.iff.2 ⟨fv,ys,⟨he,lB⟩,aR hS⟩⟩
 ·rw[if_neg h]
  have hm:may s f=0:=by omega
  obtain⟨h0,tR,xH⟩:=vN hm
  refine Cg (Zc xp s fv h0 cR.sZ cR.s5 iP) λw hS=>?_
  refine Cg (Zb xp s.g7 fv ys (by rw[he];exact cR.sorted) (by omega) f) λw hS=>?_
  have kN:=Au (key:=kP) ys f
  have Rt:=F5 he (f:=f)
  have Rs:=λhk=>V_ he (f:=f) hk (.slice none 0 0)
  generalize xG:iW kP ys f=i at *
  refine⟨λus w=>us=[]/\∃B2 k7,FM s.R k7 i f/\sV H k7/\SL W (.pt xp (kz B2 s.g7) 66::.ob (j3 B2 k7)::.mem H::F) w,?_,?_⟩
  ·cases hk:kq kP ys f with
   | true=>
    refine zQ (zt ?_)
    exact⟨rfl,fv,ys,Rt hk,lB,aR hS⟩
   | false=>
    refine zQ (zw ?_)
    refine Gm λb w hS=>?_
    have hS:=bI.full (n:=0) (sz:=3) rfl hS
    refine I_ hS (t:=186) (sz:=3) (n:=ys.length) (cells:=(ys.map jQ).flatten) Xh kN ?_
    intro a cap lC
    have xB:=PX lB
    refine zy (n:=0) (m:=i) hS .hd (lC _ _ hS Xh) (by rw[List.length_take,l8 nX];exact Nat.min_eq_left (Nat.mul_le_mul_right _ kN)) rfl (λv hv=>xB v (List.mem_of_mem_take hv)) (by omega) (by omega) ?_
    clear hS;intro v1 w hS
    rw[Nat.zero_add,List.nil_append,sA nX]at hS
    refine yz rfl ?_
    refine zD hS rfl ?_
    clear hS;intro b2 w hS
    refine zy (n:=i) (m:=1) (cells:=((ys.take i).map jQ).flatten) hS Xr (lX (cs:=jQ (oD f,Value.slice none 0 0)) hS .hd rfl) rfl rfl (by simp[jQ,Value.oneCell']) (by omega) (by omega) ?_
    clear hS;intro v2 w hS
    refine Gp ?_
    refine UM hS (t:=186) (sz:=3) (n:=ys.length) (cells:=(ys.map jQ).flatten) Xh kN ?_
    intro u HL
    refine zy (n:=i+1) (m:=ys.length-i) (cells:=((ys.take i).map jQ).flatten++jQ (oD f,Value.slice none 0 0)) hS Xr (HL _ _ hS Xh) (by rw[List.length_drop,l8 nX,Nat.mul_sub_right_distrib]) rfl (λv hv=>xB v (List.mem_of_mem_drop hv)) (by omega) (by omega) ?_
    clear hS;intro v3 w hS
    have mn:=hS.oF .hd
    refine Gn λw hS=>?_
    rw[rN nX]at hS
    have e1:((ys.take i).map jQ).flatten++jQ (oD f,Value.slice none 0 0)++((ys.drop i).map jQ).flatten=((ys.take i++[(oD f,Value.slice none 0 0)]++ys.drop i).map jQ).flatten:=by simp
    have e2:i+1+(ys.length-i)=(ys.take i++[(oD f,Value.slice none 0 0)]++ys.drop i).length:=by simp;omega
    rw[e1,e2]at hS
    refine⟨v3,ys.take i++[(oD f,Value.slice none 0 0)]++ys.drop i,Rs hk,λy hy=>?_,aR hS⟩
    rcases List.mem_append.1 hy with hy|hy
    ·rcases List.mem_append.1 hy with hy|hy
     ·exact lB y (List.mem_of_mem_take hy)
     ·rw[List.mem_singleton]at hy;subst hy;exact bRv H f
    ·exact lB y (List.mem_of_mem_drop hy)
  ·clear hS Rt Rs xG kN
   rintro w ⟨-,B2,k7,hA,hB,hS⟩
   have hi:=hA.lt
   have kM:=hA.at_ hi
   have hold:=hB _ (List.getElem_mem hi)
   have eFf:=hA.len
   obtain⟨b0,cap,rest,rfl,hS,lR⟩:=j3.pt (SL.b_ hS (t:=.ob (j3 B2 k7)::.pt xp (kz B2 s.g7) 66::.mem H::F) Xi) (by omega)
   have oT:((k7.map jQ).flatten++rest)[0+i*3+2]?=some k7[i].2:=BX hi (i:=2) (by omega) rfl
   have wC:k7[i].1.b.length+bs.length<=140737488355328:=by rw[kM];exact hN
   refine Gn λw hS=>?_
   refine zH hi (zW (ye hS Xh oT ?_))
   refine Gm λb w hS=>?_
   refine ye hS Xh oT ?_
   refine Gp ?_
   have hS:=bI.full (n:=0) (sz:=1) rfl hS
   refine zy (n:=0) (m:=k7[i].1.b.length) hS .hd (o_ hS Xh hold) (by simp) rfl (nE _) (by omega) (by omega) ?_
   clear hS;intro v1 w hS
   rw[Nat.zero_add,List.nil_append]at hS
   refine Gp ?_
   refine zy (n:=k7[i].1.b.length) (m:=bs.length) (cells:=k7[i].1.b.map fI) hS Xr (o_ hS Xh hb) (by simp) rfl (nE _) (by omega) (by omega) ?_
   clear hS;intro v2 w hS
   have mn:=hS.oF .hd
   refine Gp ?_
   refine zH hi (zW ?_)
   refine Zn hS Xu oT mn ?_
   clear hS;intro w hS
   have e1:k7[i].1.b.map fI++bs.map fI=(k7[i].1.b++bs).map fI:=by rw[List.map_append]
   have e2:k7[i].1.b.length+bs.length=(k7[i].1.b++bs).length:=by rw[List.length_append]
   rw[e1,e2]at hS
   rw[D1 (y:=(⟨f,k7[i].1.safe,k7[i].1.b++bs⟩,v2)) hi (i:=2) (by omega) (by omega) (by
    rw[show k7[i]=((⟨f,k7[i].1.safe,k7[i].1.b⟩:PF),k7[i].2) from Prod.ext (by rw[kM]) rfl];rfl)]at hS
   obtain⟨H',fF,l_,hS⟩:=zu (H:=H) (v:=v2) (n:=(k7[i].1.b++bs).length) (sz:=1) (t:=5) (cells:=(k7[i].1.b++bs).map fI) hS Xp
   refine Cg (yr s.g7.off) λw hS=>?_
   refine⟨_,⟨by unfold DS.err;rfl,H',fF,rfl⟩,eI.iff.2 ⟨Value.slice (some ⟨b0,0,none⟩) k7.length cap,k7.set i (⟨f,k7[i].1.safe,k7[i].1.b++bs⟩,v2),⟨?_,(hB.mono fF).set l_⟩,?_⟩⟩
   ·show _=nV s.R f bs
    rw[hA.put _ rfl]
    unfold nV
    simp only[kM]
   ·have:=lR (k7.set i (⟨f,k7[i].1.safe,k7[i].1.b++bs⟩,v2)) w (.pt xp (kz (.slice (some ⟨b0,0,none⟩) k7.length cap) s.g7) 66::.mem H'::F) (by simp) (aR hS)
    exact SL.b_ this Xi
theorem Y7(H:bw)(xp:Nat)(s:DS)(N:Nat)(cR:s.Ok N)(iP:s.ops<=100000)(hR:s.R.length<=90000)(f:Int)(bv:Value)(bs:List UInt8)(hb:fW H 1 bv bs.length (bs.map fI))(hN:N+bs.length<=140737488355328):
  SP 35 [.pointer (some ⟨xp,0,none⟩),.int .i64 f,bv] [.ob (eI H xp s),.mem H] (λv post=>v= .int .i64 (s.append f bs).2/\∃H',H.le H'/\post=[.ob (eI H' xp (s.append f bs).1),.mem H']):=
 b9r H xp s N cR iP hR f bv bs hb (by have:=GY (f:=f) cR.len;omega)
end Go.Proofs.YtfenmffiidchcaaGreat
