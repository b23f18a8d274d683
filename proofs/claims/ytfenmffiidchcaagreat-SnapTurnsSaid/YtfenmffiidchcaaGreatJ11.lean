/-
  Texts of the proof, joined: StrS, SigS, RqR, RqS, Cfg, MuxS, MuxS2, DrrS, SrcS5, SnpS, WinR, WinR2, SigR, MuxR, TxnR, ImgR, RefD, RefD2, RefD3, RefD4, SetR, SinkM, LogSt, SinkP, RLogG, SrcS3, SrcS4, RLogS.
-/
import Derived.Test.YtfenmffiidchcaaGreatJ10
import Derived.Lib.ConvBytes
import Derived.Laws.AppendOwn
import Derived.Test.YtfenmffiidchcaaGreatQVcW
import Derived.Test.YtfenmffiidchcaaGreatQVcY
import Derived.Test.YtfenmffiidchcaaGreatQVcF
namespace Go.Proofs.YtfenmffiidchcaaGreat
set_option linter.unusedVariables false
open Go.RowKit
section
variable {W w:World} {l:List Chunk} {P:Program}
end
set_option maxRecDepth 100000
theorem Ui(s:ByteArray):s=eM s.data.toList:=by cases s;simp[eM]
theorem Uh(l:List UInt8):(eM l).data.toList=l:=by simp[eM]
theorem Si{l:List UInt8}{k:Nat}{kk:IntKind}{K:Value->Prop}(hk:k<=l.length)(h:K (.string (eM (l.take k)))):ZN (.string (eM l)) none (some (.int kk (k:Int))) K:=by
 refine⟨eM l,0,k,rfl,⟨kk,rfl⟩,rfl,Nat.zero_le _,by rw[mi];exact hk,?_⟩
 have:(eM l).extract 0 k=eM (l.take k):=by apply ByteArray.ext;simp[eM,ByteArray.data_extract]
 rw[this];exact h
theorem Sj{l:List UInt8}{k:Nat}{kk:IntKind}{K:Value->Prop}(hk:k<=l.length)(h:K (.string (eM (l.drop k)))):ZN (.string (eM l)) (some (.int kk (k:Int))) none K:=by
 refine⟨eM l,k,(eM l).size,rfl,rfl,⟨kk,rfl⟩,by rw[mi];exact hk,Nat.le_refl _,?_⟩
 have:(eM l).extract k (eM l).size=eM (l.drop k):=by
  apply ByteArray.ext
  rw[mi]
  simp[eM,ByteArray.data_extract]
  rw[List.take_of_length_le (by rw[List.length_drop];omega)]
 rw[this];exact h
theorem Qw{P:Program}{w:World}{t:TypeId}{l:List UInt8}{j:Nat}{k:IntKind}{K:Value->Prop}(ht:P.underlying t=some .string)(hj:j<l.length)(h:K (.int .u8 (l[j]).toNat)):ga P (Instr.index t (.string (eM l)) (.int k (j:Int))) w K:=by
 have e:(eM l)[j]'(by rw[mi];exact hj)=l[j]:=by simp[eM,ByteArray.getElem_eq_getElem_data]
 exact a7h ht (by rw[mi];exact hj) (by rw[e];exact h)
theorem ZV(l p:List UInt8):SP 369 [.string (eM l),.string (eM p)] [] (dj (.bool (decide (l.take p.length=p))) []):=by
 intro W F w hS;apply b5k;delta KP aF b7;(try simp only[app]at hS)
 refine Gp ?_
 rw[mi,mi]
 refine za (λh=>?_) (λh=>?_)
 ·refine Gp ?_
  rw[mi]
  refine Si (by omega) ?_
  refine Gp ?_
  rw[show decide (eM (l.take p.length)=eM p)=decide (l.take p.length=p) by rw[decide_eq_decide];exact Mg]
  (exact dq hS)
 ·rw[decide_eq_false λe=>by
   have:=congrArg List.length e
   rw[List.length_take]at this
   omega]
  (exact dq hS)
theorem ZO(l p:List UInt8):SP 354 [.string (eM l),.string (eM p)] [] (dj (.tuple #[.string (eM (if l.take p.length=p then l.drop p.length else l)),.bool (decide (l.take p.length=p))]) []):=by
 intro W F w hS;apply b5f;delta KK dc;(try simp only[app]at hS)
 refine Cg (ZV l p) λw hS=>?_
 refine zA (λh=>?_) (λh=>?_)
 ·have h:=of_decide_eq_false h
  rw[if_neg h,decide_eq_false h]
  (exact dq hS)
 ·have h:=of_decide_eq_true h
  rw[if_pos h,decide_eq_true h]
  refine Gp ?_
  rw[mi]
  refine Sj ?_ ?_
  ·have:=congrArg List.length h
   rw[List.length_take]at this
   omega
  ·(exact dq hS)
theorem ZT(l p:List UInt8):SP 307 [.string (eM l),.string (eM p)] [] (dj (.tuple #[.string (eM (if l.take p.length=p then l.drop p.length else l)),.bool (decide (l.take p.length=p))]) []):=by
 intro W F w hS;apply bWv;unfold Ku;(try simp only[app]at hS)
 refine Cg (ZO l p) λw hS=>?_
 (exact dq hS)
theorem Vx(l:List UInt8)(c:UInt8):firstIdx (eM l) c=k9 (l.findIdx? λx=>decide (x=c)):=by
 have fD:∀i,i<l.length->(eM l)[i]! = l[i]!:=λi hi=>by
  have h2:i<(eM l).size:=by rw[mi];exact hi
  rw[getElem!_pos (eM l) i h2,getElem!_pos l i hi]
  simp[eM,ByteArray.getElem_eq_getElem_data]
 unfold firstIdx
 rw[mi]
 cases hf:l.findIdx? (λx=>decide (x=c)) with
 | none=>
  have h1:=List.findIdx?_eq_none_iff.1 hf
  have:(List.range l.length).find? (λi=>(eM l)[i]! == c)=none:=by
   rw[List.find?_range_eq_none]
   intro i hi
   rw[fD i hi,getElem!_pos l i hi]
   have:=of_decide_eq_false (h1 _ (List.getElem_mem hi))
   simpa using this
  rw[this];rfl
 | some j=>
  obtain⟨hj,hk,sZ⟩:=List.findIdx?_eq_some_iff_getElem.1 hf
  have:(List.range l.length).find? (λi=>(eM l)[i]! == c)=some j:=by
   rw[List.find?_range_eq_some]
   refine⟨?_,List.mem_range.2 hj,λi hi=>?_⟩
   ·rw[fD j hj,getElem!_pos l j hj];simpa using hk
   ·rw[fD i (by omega),getElem!_pos l i (by omega)]
    have:=sZ i hi
    simpa using this
  rw[this];rfl
theorem ZW(l:List UInt8)(c:UInt8):SP 375 [.string (eM l),.int .u8 c.toNat] [] (dj (.int .i64 (k9 (l.findIdx? λx=>decide (x=c)))) []):=by
 intro W F w hS;apply b5n;unfold KT;(try simp only[app]at hS)
 refine⟨.int .i64 (k9 (l.findIdx? λx=>decide (x=c))),w,?_,?_⟩
 ·have:=run_callFunc_extern Tryz.func379 (by kernel_rfl) (by kernel_rfl) (by kernel_rfl) (e:=Extern.BytealgIndexByte.indexByte) (by kernel_rfl) #[.string (eM l),.int .u8 c.toNat] w
  rw[this,run_indexByte_string,Vx,show ((c.toNat:Int).toNat.toUInt8)=c by simp]
  rfl
 ·(exact dq hS)
theorem Y2(l:List UInt8)(c:UInt8):SP 370 [.string (eM l),.string (eM [c])] [] (dj (.int .i64 (k9 (l.findIdx? λx=>decide (x=c)))) []):=by
 intro W F w hS;apply b5l;delta KQ aF ai;(try simp only[app]at hS)
 refine Gp ?_
 refine⟨λ_ _=>False,?_,λw h=>h.elim⟩
 rw[mi]
 refine Gp ?_
 refine za (λh=>absurd h (by simp)) (λ_=>?_)
 refine bR (λh=>?_) (λ_=>?_)
 ·have h:=Mg.1 h
  rw[<- h]
  exact⟨_,⟨by simp[k9],rfl⟩,hS⟩
 ·refine Gp ?_
  refine za (λ_=>?_) (λh=>absurd (by simp) h)
  refine Qw (j:=0) Tryz.underlying9 (by simp) ?_
  refine Cg (ZW l c) λw hS=>?_
  (exact dq hS)
def kB(l:List UInt8)(c:UInt8):List UInt8 × List UInt8 × Bool:=match l.findIdx? (λx=>decide (x=c)) with
 | none=>(l,[],false)
 | some i=>(l.take i,l.drop (i+1),true)
theorem QF(l:List UInt8)(c:UInt8)(hl:l.length<=4611686018427387904):SP 355 [.string (eM l),.string (eM [c])] [] (dj (.tuple #[.string (eM (kB l c).1),.string (eM (kB l c).2.1),.bool (kB l c).2.2]) []):=by
 intro W F w hS;apply b5g;delta KM aF ai;(try simp only[app]at hS)
 refine Cg (Y2 l c) λw hS=>?_
 unfold kB
 cases hf:l.findIdx? (λx=>decide (x=c)) with
 | none=>
  simp only[k9]
  refine za (λh=>absurd h (by decide)) (λ_=>?_)
  exact⟨_,⟨rfl,rfl⟩,hS⟩
 | some i=>
  have hi:=(List.findIdx?_eq_some_iff_getElem.1 hf).1
  simp only[k9]
  refine za (λ_=>?_) (λh=>by omega)
  refine Gn λw hS=>?_
  refine Si (by omega) ?_
  refine Gp ?_
  rw[mi]
  have e:([c]:List UInt8).length=1:=rfl
  rw[e]
  refine Gp ?_
  refine Sj (by omega) ?_
  exact⟨_,⟨rfl,rfl⟩,hS⟩
theorem QE(l:List UInt8)(c:UInt8)(hl:l.length<=4611686018427387904):SP 308 [.string (eM l),.string (eM [c])] [] (dj (.tuple #[.string (eM (kB l c).1),.string (eM (kB l c).2.1),.bool (kB l c).2.2]) []):=by
 intro W F w hS;apply bWw;unfold Kv;(try simp only[app]at hS)
 refine Cg (QF l c hl) λw hS=>?_
 (exact dq hS)
def lY(l:List UInt8)(a b:Nat):Int:=match l with
 | [d]=>if a<=d.toNat/\d.toNat<=b then (d.toNat:Int)-48 else -1
 | _=>-1
theorem a78:∀n:Fin 256,48<=n.1->IntKind.i64.wrap (IntKind.u8.wrap ((n.1:Int)-48))=(n.1:Int)-48:=by decide
theorem a7j{d:UInt8}{K:Value->Prop}(hd:48<=d.toNat)(h:K (.int .i64 ((d.toNat:Int)-48))):zc .sub (.int .u8 d.toNat) (.int .u8 48) λv=>zG .i64 v K:=by
 refine⟨_,rfl,_,_,rfl,?_⟩
 rw[a78 ⟨d.toNat,d.toNat_lt⟩ hd];exact h
theorem ZU(l:List UInt8)(a b:Nat)(ha:48<=a):SP 309 [.string (eM l),.int .u8 a,.int .u8 b] [] (dj (.int .i64 (lY l a b)) []):=by
 intro W F w hS;apply bWx;delta Kw aF ai;(try simp only[app]at hS)
 refine Gp ?_
 rw[mi]
 refine za (λh=>?_) (λh=>?_)
 ·have e:lY l a b = -1:=by
   unfold lY
   split
   ·simp at h
   ·rfl
  rw[e];(exact dq hS)
 ·obtain⟨d,rfl⟩:∃d,l=[d]:=List.length_eq_one_iff.1 (by omega)
  refine Qw (j:=0) Tryz.underlying9 (by simp) ?_
  show zc .lss (.int .u8 d.toNat) (.int .u8 a) _
  refine bR (λh1=>?_) (λh1=>?_)
  ·rw[show lY [d] a b = -1 from if_neg (by omega)]
   (exact dq hS)
  refine Qw (j:=0) Tryz.underlying9 (by simp) ?_
  show zc .gtr (.int .u8 d.toNat) (.int .u8 b) _
  refine bR (λh2=>?_) (λh2=>?_)
  ·rw[show lY [d] a b = -1 from if_neg (by omega)]
   (exact dq hS)
  refine Qw (j:=0) Tryz.underlying9 (by simp) ?_
  refine a7j (d:=d) (by omega) ?_
  rw[show lY [d] a b=(d.toNat:Int)-48 from if_pos (by omega)]
  (exact dq hS)
theorem MQ{l:List UInt8}{a b:Nat}(h:l.length≠1):lY l a b = -1:=by
 unfold lY
 split
 ·simp at h
 ·rfl
theorem D5{d:UInt8}{a b:Nat}(h:48<=a):lY [d] a b<0↔¬(a<=d.toNat/\d.toNat<=b):=by
 show (if a<=d.toNat/\d.toNat<=b then (d.toNat:Int)-48 else -1)<0↔_
 split<;>omega
def wv(r:List UInt8):Option (Int × Int):=
 let c:=kB r 32
 if lY c.1 48 55<0\/(if c.2.2=true then lY c.2.1 49 56 else 1)<0 then none else some (lY c.1 48 55,if c.2.2=true then lY c.2.1 49 56 else 1)
theorem Bp{d:UInt8}{a b:Nat}(h:a<=d.toNat/\d.toNat<=b):lY [d] a b=(d.toNat:Int)-48:=if_pos h
theorem SZ{d:UInt8}:d.toNat=32↔d=32:=⟨λh=>UInt8.toNat_inj.1 h,λh=>by rw[h];rfl⟩
theorem AI{r:List UInt8}(h:(kB r 32).1.length≠1\/((kB r 32).2.2=true/\(kB r 32).2.1.length≠1)):wv r=none:=by
 unfold wv
 simp only
 rw[if_pos]
 rcases h with h|⟨h,h2⟩
 ·left;rw[MQ h];decide
 ·right;rw[if_pos h,MQ h2];decide
theorem pO(d:UInt8)(r:List UInt8):kB (d::r) 32=if d=32 then ([],r,true) else (d::(kB r 32).1,(kB r 32).2.1,(kB r 32).2.2):=by
 unfold kB
 rw[List.findIdx?_cons]
 by_cases hd:d=32
 ·simp[hd]
 ·rw[if_neg (by simpa using hd),if_neg hd]
  cases r.findIdx? (λx=>decide (x=32))<;>simp
theorem aFs(r:List UInt8):tq r=wv r:=by
 match r with
 | []=>rw[AI (.inl (by decide))];rfl
 | [d]=>
  by_cases hd:d=32
  ·subst hd;decide
  ·have hc:kB [d] 32=([d],[],false):=by rw[pO,if_neg hd];rfl
   unfold wv tq
   rw[hc]
   simp only
   have:=D5 (d:=d) (a:=48) (b:=55) (by decide)
   by_cases h:48<=d.toNat/\d.toNat<=55
   ·rw[if_pos h,if_neg (λx=>x.elim (λh2=>by rw[Bp h]at h2;omega) (λh2=>absurd h2 (by decide))),Bp h];rfl
   ·rw[if_neg h,if_pos (.inl (this.2 h))]
 | [d,s]=>
  have e:tq [d,s]=none:=rfl
  rw[e,AI]
  rw[pO]
  by_cases hd:d=32
  ·rw[if_pos hd];left;simp
  ·rw[if_neg hd,pO]
   by_cases hs:s=32
   ·rw[if_pos hs];right;exact⟨rfl,by simp⟩
   ·rw[if_neg hs];left;simp
 | [d,s,e]=>
  by_cases hd:d=32
  ·have e1:tq [d,s,e]=none:=if_neg (by rw[hd];simp)
   rw[e1,AI]
   rw[pO,if_pos hd];left;simp
  ·by_cases hs:s=32
   ·have hc:kB [d,s,e] 32=([d],[e],true):=by rw[pO,if_neg hd,pO,if_pos hs]
    unfold wv tq
    rw[hc]
    simp only[if_true]
    have h1:=D5 (d:=d) (a:=48) (b:=55) (by decide)
    have h2:=D5 (d:=e) (a:=49) (b:=56) (by decide)
    by_cases h:(48<=d.toNat/\d.toNat<=55)/\49<=e.toNat/\e.toNat<=56
    ·rw[if_pos ⟨h.1,SZ.2 hs,h.2⟩,if_neg (by omega),Bp h.1,Bp h.2]
    ·rw[if_neg (λx=>h ⟨x.1,x.2.2⟩),if_pos (by omega)]
   ·have e1:tq [d,s,e]=none:=if_neg (λx=>hs (SZ.1 x.2.1))
    rw[e1,AI]
    rw[pO,if_neg hd,pO,if_neg hs];left;simp
 | d::s::e::f::t=>
  have e1:tq (d::s::e::f::t)=none:=rfl
  rw[e1,AI]
  rw[pO]
  by_cases hd:d=32
  ·rw[if_pos hd];left;simp
  ·rw[if_neg hd,pO]
   by_cases hs:s=32
   ·rw[if_pos hs];right;exact⟨rfl,by simp⟩
   ·rw[if_neg hs];left;simp
def Sp(o:Option (Int × Int)):Value:=.tuple #[agg [.int .i64 (o.getD (0,0)).1,.int .i64 (o.getD (0,0)).2],.bool o.isSome]
theorem qJ(s:ByteArray)(hs:s.size<=4611686018427387904):SP 257 [.string s] [] (dj (Sp (wx s)) []):=by
 intro W F w hS;apply bRw;delta JX aF a_ dc ai;(try simp only[app]at hS)
 rw[Ui s]at hs ⊢
 generalize hl:s.data.toList=l at *
 rw[mi]at hs
 unfold wx
 rw[Uh]
 refine Gb λrb w hS=>?_
 refine Cg (ZT l ni) λw hS=>?_
 by_cases hp:l.take ni.length=ni
 ·rw[if_pos hp,decide_eq_true hp,show l.take 9=ni from hp,if_pos rfl]
  refine zq ?_
  refine Cg (QE (l.drop ni.length) 32 (by rw[List.length_drop];omega)) λw hS=>?_
  rw[aFs,show l.drop 9=l.drop ni.length from rfl]
  generalize l.drop ni.length=r at *
  unfold wv
  generalize kB r 32=c at *
  obtain⟨A,B,q⟩:=c
  simp only at hS ⊢
  refine Cc (ZU A 48 55 (by decide)) ?_;clear hS
  rintro _ post ⟨rfl,rfl⟩ w hS
  try simp only[app]at hS
  refine Gm λnb w hS=>?_
  refine⟨λus w=>us=[]/\SL W (.pt nb [.int .i64 (lY A 48 55),.int .i64 (if q=true then lY B 49 56 else 1)] 351::.pt rb [.int .i64 0,.int .i64 0] 351::F) w,?_,?_⟩
  ·refine y0 (λhq=>?_) (λhq=>?_)
   ·rw[if_pos hq]
    refine Cg (ZU B 49 56 (by decide)) λw hS=>?_
    (first|exact aR hS|exact⟨rfl,aR hS⟩)
   ·rw[if_neg (by simp[hq])]
    exact⟨rfl,aR hS⟩
  clear hS
  rintro w ⟨-,hS⟩
  refine bR (λh=>?_) (λh=>?_)
  ·rw[if_pos (.inl h)]
   refine Gn λw hS=>?_
   exact dq hS
  refine bR (λh2=>?_) (λh2=>?_)
  ·rw[if_pos (.inr h2)]
   refine Gn λw hS=>?_
   exact dq hS
  rw[if_neg (by omega)]
  refine Gn λw hS=>?_
  exact dq hS
 ·rw[decide_eq_false hp,if_neg (show ¬l.take 9=ni from hp)]
  refine zw ?_
  refine Gn λw hS=>?_
  exact dq hS
theorem YD(H:aW)(v:Value)(L:List Rq)(hv:kz H v L)(hn:L.length<=140737488351232):
  SP 195 [v] [.mem H] (λu post=>∃q:Bool,u= .bool q/\(q=true↔gn L)/\post=[.mem H]):=by
 intro W F w hS;apply bIi;delta I9 aF a_ dc b7 ai;(try simp only[app]at hS)
 have eN:∀{w:World} {l:List Chunk},¬gn L->SL W (.mem H::F) w->∃post,(∃q:Bool,(.bool false:Value)= .bool q/\(q=true↔gn L)/\post=[.mem H])/\SL W (app post F) w:=λh hS=>
  ⟨_,⟨false,rfl,⟨λe=>(by cases e),λe=>absurd e h⟩,rfl⟩,hS⟩
 refine zm hv ?_
 refine Gp ?_
 refine za (λh=>eN (l:=[]) (λhp=>by have:=hp.1;omega) hS) (λh64=>?_)
 refine⟨λus w=>∃i:Nat,us=[.int .i64 i]/\i<=L.length/\(∀j,j<i->sC L j)/\SL W (.mem H::F) w,
  λus _=>match us with|[.int _ i]=>(L.length-i).toNat|_=>0,⟨0,rfl,by omega,λj h=>by omega,aR hS⟩,?_⟩
 clear hS
 rintro v3 w ⟨i,da,hi,dY,hS⟩
 cases da
 refine zm hv ?_
 refine bR (λh=>?_) (λh=>?_)
 ·have bW:i<L.length:=by omega
  have dK:∀{w:World},¬sC L i->SL W (.mem H::F) w->∃post,(∃q:Bool,(.bool false:Value)= .bool q/\(q=true↔gn L)/\post=[.mem H])/\SL W (app post F) w:=λh hS=>eN (l:=[]) (λhp=>h (hp.2 i)) hS
  have iN:rl i L[i]->(∀h0:0<i,L[i-1].at_<=L[i].at_)->(∀k (hk:k<i),¬(L[k].table=L[i].table/\L[k].done=false))->sC L i:=λh1 h2 h3 _=>⟨h1,h2,h3⟩
  have jK:sC L i->rl i L[i]/\(∀h0:0<i,L[i-1].at_<=L[i].at_)/\∀k (hk:k<i),¬(L[k].table=L[i].table/\L[k].done=false):=λh=>h bW
  refine zS hS Xh jS hv (x:=L[i]) (by simp[bW]) bW ?_
  refine zI hS ?_
  clear hS;intro b w hS
  refine zz (vs:=gX L[i]) hS .hd rfl rfl (vC _) ?_
  clear hS;intro w hS
  have VX:L[i]?=some L[i]:=List.getElem?_eq_getElem bW
  generalize hr:L[i]=r at *
  obtain⟨CJ,rt,sm,rat,uW,uV,rd⟩:=r
  unfold gX at hS
  simp only at hS
  unfold rl at iN jK
  simp only at iN jK
  refine⟨λus w=>us=[]/\CJ=(i:Int)+1/\0<=rt/\rt<8/\1<=sm/\sm<=8/\1<=rat/\rat<=1099511627776/\(∀h0:0<i,L[i-1].at_<=rat)/\SL W (.pt b [.int .i64 CJ,.int .i64 rt,.int .i64 sm,.int .i64 rat,.int .i64 uW,.int .i64 uV,.bool rd] 125::.mem H::F) w,?_,?_⟩
  ·refine Gn λw hS=>?_
   refine za (λc1=>dK (λhp=>by have:=(jK hp).1.1;omega) (aR hS)) (λc1=>?_)
   refine Gp ?_
   refine za (λc2=>dK (λhp=>by have:=(jK hp).1.2.1;omega) (aR hS)) (λc2=>?_)
   refine Gp ?_
   refine za (λc3=>dK (λhp=>by have:=(jK hp).1.2.2.1;omega) (aR hS)) (λc3=>?_)
   refine Gp ?_
   refine za (λc4=>dK (λhp=>by have:=(jK hp).1.2.2.2.1;omega) (aR hS)) (λc4=>?_)
   refine Gp ?_
   refine za (λc5=>dK (λhp=>by have:=(jK hp).1.2.2.2.2.1;omega) (aR hS)) (λc5=>?_)
   refine Gp ?_
   refine za (λc6=>dK (λhp=>by have:=(jK hp).1.2.2.2.2.2.1;omega) (aR hS)) (λc6=>?_)
   refine Gp ?_
   refine za (λc7=>dK (λhp=>by have:=(jK hp).1.2.2.2.2.2.2.1;omega) (aR hS)) (λc7=>?_)
   refine bR (λc8=>?_) (λc8=>?_)
   ·have E6:i-1<L.length:=by omega
    have e1:(i:Int)-1=((i-1:Nat):Int):=by omega
    refine Gp ?_
    rw[e1]
    refine zJ hS Xh jS hv (x:=L[i-1]) (by simp[E6]) E6 (i:=3) rfl ?_
    refine Gp ?_
    refine za (λc9=>dK (λhp=>by have:=(jK hp).2.1 (by omega);omega) (aR hS)) (λc9=>?_)
    exact⟨rfl,by omega,by omega,by omega,by omega,by omega,by omega,by omega,λ_=>by omega,aR hS⟩
   ·exact⟨rfl,by omega,by omega,by omega,by omega,by omega,by omega,by omega,λh=>by omega,aR hS⟩
  ·clear hS
   rintro w ⟨-,c1,c2,c3,c4,c5,c6,c7,c8,hS⟩
   refine Gp ?_
   refine za (λd=>dK (λhp=>by have:=(jK hp).1;omega) (aR hS)) (λd1=>?_)
   refine Gp ?_
   refine za (λd=>dK (λhp=>by have:=(jK hp).1;omega) (aR hS)) (λd2=>?_)
   refine Gp ?_
   refine za (λd=>dK (λhp=>by have:=(jK hp).1;omega) (aR hS)) (λd3=>?_)
   refine Gp ?_
   refine za (λd=>dK (λhp=>by have:=(jK hp).1;omega) (aR hS)) (λd4=>?_)
   refine⟨λus w=>∃k:Nat,us=[.int .i64 k]/\k<=i/\(∀j (hj:j<k) (hl:j<L.length),¬(L[j].table=rt/\L[j].done=false))/\SL W (.pt b [.int .i64 CJ,.int .i64 rt,.int .i64 sm,.int .i64 rat,.int .i64 uW,.int .i64 uV,.bool rd] 125::.mem H::F) w,
    λus _=>match us with|[.int _ k]=>(i-k).toNat|_=>0,⟨0,rfl,by omega,λj h=>by omega,hS⟩,?_⟩
   clear hS
   rintro v5 w ⟨k,da,hk,vR,hS⟩
   cases da
   refine bR (λxX=>?_) (λxX=>?_)
   ·have mV:k<i:=by omega
    have iM:k<L.length:=by omega
    refine Gn λw hS=>?_
    refine zJ hS Xh jS hv (x:=L[k]) (by simp[iM]) iM (i:=1) rfl ?_
    refine bR (λht=>?_) (λht=>?_)
    ·refine zJ hS Xh jS hv (x:=L[k]) (by simp[iM]) iM (i:=6) rfl ?_
     refine Gp ?_
     refine zA (λhd=>?_) (λhd=>?_)
     ·exact dK (λhp=>(jK hp).2.2 k mV ⟨ht,hd⟩) (aR hS)
     ·refine Gp ?_
      refine⟨⟨k+1,by simp,by omega,λj h1 h2=>?_,hS⟩,by dsimp only;omega⟩
      by_cases e:j=k
      ·subst e;rintro ⟨_,h3⟩;rw[hd]at h3;cases h3
      ·exact vR j (by omega) h2
    ·refine Gp ?_
     refine⟨⟨k+1,by simp,by omega,λj h1 h2=>?_,hS⟩,by dsimp only;omega⟩
     by_cases e:j=k
     ·subst e;rintro ⟨h3,_⟩;exact ht h3
     ·exact vR j (by omega) h2
   ·have xX:k=i:=by omega
    subst xX
    refine Gp ?_
    refine⟨⟨k+1,by simp,by omega,λj h1=>?_,aR hS⟩,by dsimp only;omega⟩
    by_cases e:j=k
    ·subst e;exact iN ⟨c1,c2,c3,c4,c5,c6,c7,by omega,by omega,by omega,by omega⟩ c8 λk' xV=>vR k' xV (by omega)
    ·exact dY j (by omega)
 ·have iW:i=L.length:=by omega
  subst iW
  refine⟨_,⟨true,rfl,⟨λ_=>⟨by omega,λj hj=>?_⟩,λ_=>rfl⟩,rfl⟩,aR hS⟩
  exact dY j hj hj
def Dm(H:aW)(u:Value)(post:List Chunk)(o:Option (List Rq)):Prop:=∃H',H.le H'/\post=[.mem H']/\match o with
 | none=>u= .tuple #[.slice none 0 0,.bool false]
 | some L'=>∃x,u= .tuple #[x,.bool true]/\kz H' x L'
def De(r:Rq)(a:Int):Prop:=0<=r.table/\r.table<8/\1<=r.weight/\r.weight<=8/\max a 1<=r.at_/\r.at_<=1099511627776/\0<=r.dL/\r.dL<=1099511627776/\0<=r.chunks/\r.chunks<=1099511627776
theorem aw9(r:Rq)(a:Int):SP 353 [agg (gX r),.int .i64 a] [] (λv post=>∃q:Bool,v= .bool q/\(q=true↔De r a)/\post=[]):=by
 intro W F w hS;apply b5e;delta KJ aF a_ b7 ai;(try simp only[app]at hS)
 obtain⟨CJ,rt,sm,rat,uW,uV,rd⟩:=r
 unfold gX De
 simp only
 refine⟨_,rfl,zI hS ?_⟩
 clear hS;intro b w hS
 have eN:∀{w:World},¬(0<=rt/\rt<8/\1<=sm/\sm<=8/\max a 1<=rat/\rat<=1099511627776/\0<=uW/\uW<=1099511627776/\0<=uV/\uV<=1099511627776)->SL W F w->∃post,(∃q:Bool,(.bool false:Value)= .bool q/\(q=true↔0<=rt/\rt<8/\1<=sm/\sm<=8/\max a 1<=rat/\rat<=1099511627776/\0<=uW/\uW<=1099511627776/\0<=uV/\uV<=1099511627776)/\post=[])/\SL W (app post F) w:=λh hS=>⟨_,⟨false,rfl,⟨λe=>(by cases e),λe=>absurd e h⟩,rfl⟩,hS⟩
 refine Gp ?_
 refine za (λc1=>?_) (λc=>eN (by omega) (aR hS))
 refine Gp ?_
 refine za (λc2=>?_) (λc=>eN (by omega) (aR hS))
 refine Gp ?_
 refine za (λc3=>?_) (λc=>eN (by omega) (aR hS))
 refine Gp ?_
 refine za (λc4=>?_) (λc=>eN (by omega) (aR hS))
 refine Gp ?_
 refine za (λc5=>?_) (λc=>eN (by omega) (aR hS))
 refine Gp ?_
 refine za (λc6=>?_) (λc=>eN (by omega) (aR hS))
 refine Gp ?_
 refine za (λc7=>?_) (λc=>eN (by omega) (aR hS))
 refine Gp ?_
 refine za (λc8=>?_) (λc=>eN (by omega) (aR hS))
 refine Gp ?_
 refine za (λc9=>?_) (λc=>eN (by omega) (aR hS))
 refine Gp ?_
 refine⟨_,⟨_,rfl,?_,rfl⟩,aR hS⟩
 rw[decide_eq_true_eq]
 exact⟨λc=>⟨c1,c2,c3,c4,c5,c6,c7,c8,c9,c⟩,λc=>c.2.2.2.2.2.2.2.2.2⟩
def sj(L:List Rq)(i t:Nat):Bool:=(L.take i).any λr=>decide (r.table=(t:Int)) && !r.done
theorem Ry{L:List Rq}{i t:Nat}:sj L i t=true↔∃k,∃h:k<L.length,k<i/\L[k].table=(t:Int)/\L[k].done=false:=by
 unfold sj
 rw[List.any_eq_true]
 constructor
 ·rintro ⟨r,hr,hx⟩
  obtain⟨k,hk,rfl⟩:=List.mem_iff_getElem.1 hr
  rw[List.length_take]at hk
  refine⟨k,by omega,by omega,?_⟩
  simpa using hx
 ·rintro ⟨k,h,hk,h1,h2⟩
  refine⟨L[k],List.mem_iff_getElem.2 ⟨k,by rw[List.length_take];omega,by simp⟩,by simp[h1,h2]⟩
def tj(L:List Rq)(i:Nat):List Value:=(List.range 8).map λt=>.bool (sj L i t)
theorem Rz(L:List Rq)(i:Nat){t:Nat}(h:t<8){o:Nat}(ho:o=t):(tj L i)[o]?=some (.bool (sj L i t)):=by
 subst ho;unfold tj;simp[h]
theorem aFa{L:List Rq}{i t:Nat}(hi:i<L.length)(ht:L[i].table=(t:Int))(h:sj L i t=false){o:Nat}(ho:o=t):(tj L i).set o (.bool !L[i].done)=tj L (i+1):=by
 subst ho
 unfold tj
 refine List.ext_getElem (by simp) λj h1 h2=>?_
 have hj:j<8:=by simpa using h2
 rw[List.getElem_set]
 have hs:∀t:Nat,sj L (i+1) t=(sj L i t || (decide (L[i].table=(t:Int)) && !L[i].done)):=λt=>by
  unfold sj
  rw[List.take_succ_eq_append_getElem hi,List.any_append];simp
 split
 ·rename_i e;subst e
  simp only[List.getElem_map,List.getElem_range]
  rw[hs,h,ht];simp
 ·rename_i e
  simp only[List.getElem_map,List.getElem_range]
  rw[hs,ht]
  have:¬((o:Int)=(j:Int)):=by omega
  simp[this]
theorem aFb(L:List Rq):tj L 0=[.bool false,.bool false,.bool false,.bool false,.bool false,.bool false,.bool false,.bool false]:=by
 simp[tj,sj,List.range,List.range.loop]
def tP(L:List Rq)(i:Nat):Int:=if i=0 then 0 else (L[i-1]?.map (·.at_)).getD 0
theorem QS(H:aW)(v:Value)(L:List Rq)(hv:kz H v L)(hn:L.length<=140737488351232):
  SP 306 [v] [.mem H] (λu post=>∃q:Bool,u= .bool q/\(q=true↔gn L)/\post=[.mem H]):=by
 intro W F w hS;apply bWu;delta Kt aF a_ cF dc b7 ai;(try simp only[app]at hS)
 have eN:∀{w:World},¬gn L->SL W (.mem H::F) w->∃post,(∃q:Bool,(.bool false:Value)= .bool q/\(q=true↔gn L)/\post=[.mem H])/\SL W (app post F) w:=λh hS=>
  ⟨_,⟨false,rfl,⟨λe=>(by cases e),λe=>absurd e h⟩,rfl⟩,hS⟩
 refine zI hS ?_
 clear hS;intro ob w hS
 refine zm hv ?_
 rw[<- aFb L]at hS
 refine⟨λus w=>∃i:Nat,us=[.int .i64 (tP L i),.int .i64 i]/\i<=L.length/\(∀j,j<i->sC L j)/\SL W (.pt ob (tj L i) 428::.mem H::F) w,
  λus _=>match us with|[_,.int _ i]=>(L.length-i).toNat|_=>0,⟨0,rfl,by omega,λj h=>by omega,aR hS⟩,?_⟩
 clear hS
 rintro v4 v9 w ⟨i,da,hi,dY,hS⟩
 cases da
 refine bR (λh=>?_) (λh=>?_)
 ·have bW:i<L.length:=by omega
  have dK:∀{w:World},¬sC L i->SL W (.mem H::F) w->∃post,(∃q:Bool,(.bool false:Value)= .bool q/\(q=true↔gn L)/\post=[.mem H])/\SL W (app post F) w:=λh hS=>eN (λhp=>h (hp.2 i)) hS
  refine zS hS Xh jS hv (x:=L[i]) (by simp[bW]) bW ?_
  refine zI hS ?_
  clear hS;intro b w hS
  refine zz (vs:=gX L[i]) hS .hd rfl rfl (vC _) ?_
  clear hS;intro w hS
  have jK:sC L i->rl i L[i]/\(∀h0:0<i,L[i-1].at_<=L[i].at_)/\∀k (hk:k<i),¬(L[k].table=L[i].table/\L[k].done=false):=λh=>h bW
  have N7:max (tP L i) 1<=L[i].at_↔1<=L[i].at_/\∀h0:0<i,L[i-1].at_<=L[i].at_:=by
   unfold tP
   by_cases h0:i=0
   ·rw[if_pos h0];exact⟨λe=>⟨by omega,λh=>by omega⟩,λe=>by have:=e.1;omega⟩
   ·rw[if_neg h0,List.getElem?_eq_getElem (by omega)]
    simp only[Option.map_some,Option.getD_some]
    exact⟨λe=>⟨by omega,λ_=>by omega⟩,λe=>by have:=e.1;have:=e.2 (by omega);omega⟩
  unfold gX at hS
  refine Gp ?_
  refine za (λc=>dK (λhp=>by have:=(jK hp).1.1;omega) (aR hS)) (λc1=>?_)
  refine yy hS Xh rfl ?_
  refine Cc (aw9 L[i] (tP L i)) ?_;clear hS
  rintro _ post ⟨q1,rfl,q',rfl⟩ w hS
  (try simp only[app]at hS);refine Gp ?_
  refine zA (λhe=>dK (λhp=>?_) (aR hS)) (λhe=>?_)
  ·have hp:=jK hp
   have h1:De L[i] (tP L i):=⟨hp.1.2.1,hp.1.2.2.1,hp.1.2.2.2.1,hp.1.2.2.2.2.1,N7.2 ⟨hp.1.2.2.2.2.2.1,hp.2.1⟩,hp.1.2.2.2.2.2.2.1,hp.1.2.2.2.2.2.2.2.1,hp.1.2.2.2.2.2.2.2.2.1,hp.1.2.2.2.2.2.2.2.2.2.1,hp.1.2.2.2.2.2.2.2.2.2.2⟩
   rw[q'.2 h1]at he;cases he
  ·have hQ:=q'.1 he
   have fD:=N7.1 hQ.2.2.2.2.1
   obtain⟨t,ht⟩:∃t:Nat,L[i].table=(t:Int):=⟨L[i].table.toNat,by have:=hQ.1;omega⟩
   have Al:t<8:=by have:=hQ.2.1;omega
   have uK:Value.int .i64 L[i].table= .int .i64 (t:Int):=by rw[ht]
   refine Gp ?_
   rw[uK]at hS ⊢
   refine Sb Al (zX hS Xh (Rz L i Al (by omega)) ?_)
   refine y0 (λho=>dK (λhp=>?_) (aR hS)) (λho=>?_)
   ·obtain⟨k,hk,xX,h1,h2⟩:=Ry.1 ho
    exact (jK hp).2.2 k xX ⟨by rw[h1,ht],h2⟩
   ·refine Gn λw hS=>?_
    refine Sb Al ?_
    refine y2 hS Xu (Rz L i Al (by omega)) rfl ?_
    clear hS;intro w hS
    rw[aFa bW ht ho (by omega)]at hS
    refine Gp ?_
    have ea:tP L (i+1)=L[i].at_:=by
     unfold tP;rw[if_neg (by omega),Nat.add_sub_cancel,List.getElem?_eq_getElem bW];rfl
    refine⟨⟨i+1,by rw[ea],by omega,λj hj=>?_,aR hS⟩,by dsimp only;omega⟩
    by_cases e:j=i
    ·subst e
     refine λ_=>⟨⟨by omega,hQ.1,hQ.2.1,hQ.2.2.1,hQ.2.2.2.1,fD.1,hQ.2.2.2.2.2.1,hQ.2.2.2.2.2.2.1,hQ.2.2.2.2.2.2.2.1,hQ.2.2.2.2.2.2.2.2.1,hQ.2.2.2.2.2.2.2.2.2⟩,fD.2,λk hk hx=>?_⟩
     have:=Ry.2 ⟨k,by omega,hk,by rw[hx.1,ht],hx.2⟩
     rw[ho]at this;cases this
    ·exact dY j (by omega)
 ·have iW:i=L.length:=by omega
  subst iW
  refine zm hv ?_
  refine Gp ?_
  refine⟨_,⟨_,rfl,?_,rfl⟩,aR hS⟩
  rw[decide_eq_true_eq]
  exact⟨λh=>⟨by omega,λj hj=>dY j hj hj⟩,λhp=>by have:=hp.1;omega⟩
theorem Zm(H:aW)(v:Value)(L:List Rq)(hv:kz H v L)(hn:L.length<=140737488351232):
  SP 256 [v] [.mem H] (λu post=>∃q:Bool,u= .bool q/\(q=true↔gn L)/\post=[.mem H]):=by
 intro W F w hS;apply bRv;unfold JW;(try simp only[app]at hS)
 refine Cc (QS H v L hv hn) ?_;clear hS
 rintro _ post ⟨q,rfl,hq,rfl⟩ w hS
 try simp only[app]at hS
 exact⟨_,⟨q,rfl,hq,rfl⟩,aR hS⟩
def pB(L:List Rq)(id:Int):Bool:=decide (1<=id/\id<=L.length) && (match L[(id-1).toNat]? with|some r=>!r.done|none=>false)
theorem a7k{a b:Int}{K:Value->Prop}(h:K (.int .i64 (IntKind.i64.wrap (a-b)))):zc .sub (.int .i64 a) (.int .i64 b) K:=⟨_,rfl,h⟩
theorem S_{n:Int}(h : -9223372036854775808<=n/\n<=9223372036854775807):IntKind.i64.wrap n=n:=IntWalk.i64_in _ h
theorem qK(H:aW)(v:Value)(L:List Rq)(id:Int)(hv:kz H v L)(hn:L.length<=1000)(hid : -9223372036854775808<=id/\id<=9223372036854775807):
  SP 263 [v,.int .i64 id] [.mem H] (dj (.tuple #[.int .i64 (IntKind.i64.wrap (id-1)),.bool (pB L id)]) [.mem H]):=by
 intro W F w hS;apply bR2;delta J3 aF cF ai;(try simp only[app]at hS)
 refine Gn λw hS=>?_
 refine a7k ?_
 refine bR (λh1=>?_) (λh1=>?_)
 ·refine zm hv ?_
  refine bR (λh2=>?_) (λh2=>?_)
  ·obtain⟨j,rfl⟩:∃j:Nat,id=((j+1:Nat):Int):=⟨(id-1).toNat,by omega⟩
   have hj:j<L.length:=by omega
   have ej:((j+1:Nat):Int)-1=(j:Int):=by omega
   have hp:pB L ((j+1:Nat):Int) = !L[j].done:=by
    unfold pB
    rw[decide_eq_true (by omega),show (((j+1:Nat):Int)-1).toNat=j by omega,List.getElem?_eq_getElem hj];rfl
   rw[hp,S_ (by omega),ej]
   refine Gp ?_
   rw[ej]
   have hd:=nz jS L j 6 L[j] (.bool L[j].done) (by simp[hj]) rfl
   refine ZC hv hj λb o hb=>zQ (ZJ hS Xh (hb 6 _ (by decide) hd) ?_)
   refine Gp ?_
   refine ZJ hS Xh (hb 6 _ (by decide) hd) ?_
   exact⟨rfl,_,⟨rfl,rfl⟩,aR hS⟩
  ·have hp:pB L id=false:=by unfold pB;rw[decide_eq_false (by omega)];rfl
   rw[hp]
   exact dq hS
 ·have hp:pB L id=false:=by unfold pB;rw[decide_eq_false (by omega)];rfl
  rw[hp]
  exact dq hS
theorem yz(H:aW)(v:Value)(L:List Rq)(hv:kz H v L)(hn:L.length<=1000):
  SP 126 [v] [.mem H] (λu post=>post=[.ob (a7 u 125 7 L.length (L.map gX).flatten),.mem H]):=by
 exact Mq bw3 rfl (by decide) hv (aR6 L) (by omega) (by omega)
theorem YG(H:aW)(v:Value)(L:List Rq)(table weight at_:Int)(hv:kz H v L)(hn:L.length<=1000):
  SP 258 [v,.int .i64 table,.int .i64 weight,.int .i64 at_] [.mem H] (λu post=>Dm H u post (nZ L table weight at_)):=by
 intro W F w hS;apply bRx;delta JY dc ai bF;(try simp only[app]at hS)
 refine Cc (yz H v L hv hn) ?_;clear hS
 rintro v1 post rfl w hS;(try simp only[app]at hS)
 refine zm hv ?_
 refine Gm λb w hS=>?_
 refine zx (n:=L.length) (m:=1) (cells:=(L.map gX).flatten) hS Xr (iP (cs:=gX ⟨((L.length+1:Nat):Int),table,weight,at_,0,0,false⟩) hS .hd rfl) rfl rfl (vC _) (by omega) (by omega) ?_
 clear hS;intro v2 w hS
 rw[<- Nr]at hS
 obtain⟨H1,d_,om,hS⟩:=zE (H:=H) (v:=v2) (n:=L.length+1) (sz:=7) (t:=125) (cells:=((L++[(⟨((L.length+1:Nat):Int),table,weight,at_,0,0,false⟩:Rq)]).map gX).flatten) hS Xp
 have hlen:(L++[(⟨((L.length+1:Nat):Int),table,weight,at_,0,0,false⟩:Rq)]).length=L.length+1:=by simp
 have om:kz H1 v2 (L++[(⟨((L.length+1:Nat):Int),table,weight,at_,0,0,false⟩:Rq)]):=by unfold kz;rw[hlen];exact om
 have hN:AE L table weight at_=⟨((L.length+1:Nat):Int),table,weight,at_,0,0,false⟩:=rfl
 unfold nZ
 rw[hN]
 generalize NW:L++[(⟨((L.length+1:Nat):Int),table,weight,at_,0,0,false⟩:Rq)]=L2 at om hlen ⊢
 refine Cc (Zm H1 v L (hv.mono d_) (by omega)) ?_;clear hS
 rintro _ post ⟨q1,rfl,q',rfl⟩ w hS
 (try simp only[app]at hS);refine Gp ?_
 refine zA (λhe=>?_) (λhe=>?_)
 ·rw[if_neg λh=>by rw[q'.2 h.1]at he;cases he]
  exact⟨_,⟨H1,d_,rfl,rfl⟩,aR hS⟩
 ·skip
  refine Cc (Zm H1 v2 L2 om (by omega)) ?_;clear hS
  rintro _ post ⟨q2,rfl,k6,rfl⟩ w hS
  (try simp only[app]at hS);refine Gp ?_
  refine zA (λBT=>?_) (λBT=>?_)
  ·rw[if_neg λh=>by rw[k6.2 h.2]at BT;cases BT]
   exact⟨_,⟨H1,d_,rfl,rfl⟩,aR hS⟩
  ·rw[if_pos ⟨q'.1 he,k6.1 BT⟩]
   exact⟨_,⟨H1,d_,rfl,v2,rfl,om⟩,aR hS⟩
theorem aFt{L:List Rq}{id:Int}(h:pB L id=true):∃j:Nat,∃hj:j<L.length,id=((j+1:Nat):Int)/\L[j].done=false:=by
 unfold pB at h
 rw[Bool.and_eq_true,decide_eq_true_eq]at h
 obtain⟨⟨h1,h2⟩,h3⟩:=h
 have hj:(id-1).toNat<L.length:=by omega
 rw[List.getElem?_eq_getElem hj]at h3
 exact⟨(id-1).toNat,hj,by omega,by simpa using h3⟩
theorem UA{L:List Rq}{id c:Int}{dn:Bool}(h:pB L id=false):ml L id c dn=none:=by
 unfold ml
 split
 ·rename_i hc
  have hj:(id-1).toNat<L.length:=by omega
  unfold pB at h
  rw[decide_eq_true hc.2,List.getElem?_eq_getElem hj]at h
  rw[List.getElem?_eq_getElem hj]
  simp only[Bool.true_and,Bool.not_eq_false']at h
  simp only[h,true_or,if_true]
 ·rfl
theorem GM{L:List Rq}{rest:List Value}{j i:Nat}(hj:j<L.length)(hi:i<7){v:Value}{y:Rq}(hy:(gX L[j]).set i v=gX y):((L.map gX).flatten++rest).set (0+j*7+i) v=((L.set j y).map gX).flatten++rest:=by
 rw[Nat.zero_add,List.set_append_left _ _ (by rw[jF jS];omega),El jS L j i hj y v hi hy]
theorem CL{L:List Rq}{rest:List Value}{j i:Nat}(hj:j<L.length){u:Value}(hu:(gX L[j])[i]?=some u):((L.map gX).flatten++rest)[0+j*7+i]?=some u:=by
 have h:=nz jS L j i L[j] u (List.getElem?_eq_getElem hj) hu
 rw[Nat.zero_add,List.getElem?_append_left (List.getElem?_eq_some_iff.1 h).1];exact h
theorem Y8(H:aW)(v:Value)(L:List Rq)(id dL:Int)(dn:Bool)(hv:kz H v L)(hn:L.length<=1000)(hid : -9223372036854775808<=id/\id<=9223372036854775807):
  SP 201 [v,.int .i64 id,.int .i64 dL,.bool dn] [.mem H] (λu post=>Dm H u post (ml L id dL dn)):=by
 intro W F w hS;apply bIo;delta Jd aF a_ dc ai bF;(try simp only[app]at hS)
 have eN:∀{w:World},ml L id dL dn=none->SL W (.mem H::F) w->∃post,Dm H (.tuple #[.slice none 0 0,.bool false]) post (ml L id dL dn)/\SL W (app post F) w:=λe hS=>⟨_,⟨H,aW.le_refl H,rfl,by rw[e]⟩,hS⟩
 refine Cg (qK H v L id hv hn hid) λw hS=>?_
 refine Cc (Zm H v L hv (by omega)) ?_;clear hS
 rintro _ post ⟨q1,rfl,q',rfl⟩ w hS
 (try simp only[app]at hS);refine Gp ?_
 refine zA (λhe=>eN (Uz λh=>by rw[q'.2 h.1]at he;cases he) (aR hS)) (λhe=>?_)
 have hM:=q'.1 he
 refine Gp ?_
 refine zA (λh=>eN (UA h) (aR hS)) (λh1=>?_)
 obtain⟨j,hj,rfl,hd⟩:=aFt h1
 have ew:IntKind.i64.wrap (((j+1:Nat):Int)-1)=(j:Int):=by rw[S_ (by omega)];omega
 rw[ew]
 have BQ:=Mp hM hj dL dn
 have b5:=(hM.2 j hj).1
 unfold rl at b5
 have hx:L[j]?=some L[j]:=List.getElem?_eq_getElem hj
 refine zJ hS Xh jS hv hx hj (i:=4) rfl ?_
 refine Gp ?_
 refine za (λh=>eN (by rw[BQ,if_pos (.inr (.inl h))]) (aR hS)) (λh4=>?_)
 refine Gp ?_
 refine za (λh=>eN (by rw[BQ,if_pos (.inr (.inr (.inl h)))]) (aR hS)) (λh5=>?_)
 refine zJ hS Xh jS hv hx hj (i:=5) rfl ?_
 refine Gp ?_
 refine za (λh=>eN (by rw[BQ,if_pos (.inr (.inr (.inr h)))]) (aR hS)) (λh6=>?_)
 rw[BQ,if_neg (by rw[hd];rintro (h|h|h|h);exact Bool.false_ne_true h;exact h4 h;exact h5 h;exact h6 h)]
 refine Cc (yz H v L hv hn) ?_;clear hS
 rintro v1 post rfl w hS;(try simp only[app]at hS)
 rcases a7.open hS with ⟨_,h0,_⟩|⟨ob,cap,rest,rfl,hc,hl,jW,hS⟩
 ·omega
 refine zB hj (zQ (y2 hS Xu (CL hj (i:=4) rfl) rfl ?_))
 clear hS;intro w hS
 rw[GM hj (by decide) (y:={L[j] with dL:=dL}) rfl]at hS
 have kG:j<(L.set j {L[j] with dL:=dL}).length:=by rw[List.length_set];exact hj
 have e1:(L.set j {L[j] with dL:=dL})[j]={L[j] with dL:=dL}:=by simp
 refine zB hj (zQ (y2 hS Xu (CL kG (i:=6) (u:=.bool L[j].done) (by rw[e1];rfl)) rfl ?_))
 clear hS;intro w hS
 rw[GM kG (by decide) (y:={L[j] with dL:=dL,done:=dn}) (by rw[e1];rfl),List.set_set]at hS
 have iL:j<(L.set j {L[j] with dL:=dL,done:=dn}).length:=by rw[List.length_set];exact hj
 have e2:(L.set j {L[j] with dL:=dL,done:=dn})[j]={L[j] with dL:=dL,done:=dn}:=by simp
 refine zB hj (zQ (zX hS .hd (CL iL (i:=5) (u:=.int .i64 L[j].chunks) (by rw[e2];rfl)) ?_))
 refine Gp ?_
 refine zB hj (zQ (y2 hS Xu (CL iL (i:=5) (u:=.int .i64 L[j].chunks) (by rw[e2];rfl)) rfl ?_))
 clear hS;intro w hS
 rw[GM iL (by decide) (y:={L[j] with dL:=dL,chunks:=L[j].chunks+1,done:=dn}) (by rw[e2];rfl),List.set_set]at hS
 generalize NW:L.set j {L[j] with dL:=dL,chunks:=L[j].chunks+1,done:=dn}=L2 at *
 have hlen:L2.length=L.length:=by rw[<- NW,List.length_set]
 have hS:=a7.mk (n:=L2.length) (cap:=cap) (sz:=7) (rest:=rest) (by omega) (jF jS L2) (by rw[hlen];exact jW) hS
 obtain⟨H1,d_,om,hS⟩:=zE (H:=H) (v:=.slice (some ⟨ob,0,none⟩) L2.length cap) (n:=L2.length) (sz:=7) (t:=125) (cells:=(L2.map gX).flatten) hS Xp
 exact⟨_,⟨H1,d_,rfl,_,rfl,by rw[<- hlen];exact om⟩,aR hS⟩
structure vi where
 tables:Int
 late:Int
 size:Int
 queue:Int
 chunk:Int
 batch:Int
 base:Int
 Gf:Int
 X8:Int
 every:Int
def MV(c:vi):List Value:=[.int .i64 c.tables,.int .i64 c.late,.int .i64 c.size,.int .i64 c.queue,.int .i64 c.chunk,.int .i64 c.batch,.int .i64 c.base,.int .i64 c.Gf,.int .i64 c.X8,.int .i64 c.every]
theorem Sg{a:Int}{k:IntKind}{n:Nat}{K:Value->Prop}(hn:n<=60)(hr : -9223372036854775808<=a*2 ^ n/\a*2 ^ n<=9223372036854775807)(h:K (.int .i64 (a*2 ^ n))):zc .shl (.int .i64 a) (.int k (n:Int)) K:=by
 refine⟨.int .i64 (a*2 ^ n),?_,h⟩
 have Fj:min n 64=n:=Nat.min_eq_left (by omega)
 show (if ((n:Nat):Int)<0 then none else some (Value.int .i64 (IntKind.i64.wrap (a*2 ^ (min ((n:Nat):Int).toNat 64)))))=_
 rw[if_neg (by omega),Int.toNat_natCast,Fj,IntWalk.i64_in _ hr]
theorem aWg{j:IntKind}{n:Nat}{K:Value->Prop}(hr:n<=9223372036854775807)(h:K (.int .u64 (n:Int))):zG .u64 (.int j (n:Int)) K:=zM (by rw[show IntKind.u64.wrap (n:Int)=n by rw[IntKind.wrap_u64];omega];exact h)
theorem XT{P:Program}{T:List Bool}{f g:FuncId}{sz:Nat}{α:Type}{enc:α->List Value}(hn:∀x,(enc x).length=sz)(hT:T.getD g false=true){cap:Array Value}{c:Chunk}{q:α->Bool}{H:aW}
  (vc:∀v0 v1 w R,Ba P T sz v0 v1 w R->zU P f [v0,v1] w R) (one:∀x,Spec P g ([agg (enc x)]++cap.toList) [c] (dj (.bool (q x)) [c]))
  (v:Value) (xs:List α) (hv:dy H sz v xs.length (xs.map enc).flatten) (hl:xs.length<=9223372036854775806) :
  Spec P f [v,.func (.func g) #[] cap] [c,.mem H] (dj (.int .i64 (k9 (xs.findIdx? q))) [c,.mem H]):=by
 intro W F w hS;apply vc;unfold Ba
 have hS:SL W (c::.mem H::F) w:=hS
 refine zm hv ?_
 refine⟨λvs w=>∃k:Nat,vs=[.int .i64 k]/\k<=xs.length/\(∀j (h:j<xs.length),j<k->q xs[j]=false)/\SL W (c::.mem H::F) w,λvs _=>match vs with|[.int _ k]=>(xs.length-k).toNat|_=>0,⟨0,rfl,by omega,λj h hj=>by omega,hS⟩,?_⟩
 clear hS
 rintro v8 w ⟨k,hv,hk,hq,hS⟩
 cases hv
 refine bR (λh=>?_) (λh=>?_)
 ·have iM:k<xs.length:=by omega
  refine zS hS Xh hn ‹_› (x:=xs[k]) (by simp[iM]) iM ?_
  refine Qx (args':=[agg (enc xs[k])]++cap.toList) hT (one xs[k]) (by simp) hS Xp ?_
  clear hS
  rintro _ post ⟨rfl,rfl⟩ w hS
  try simp only[app]at hS
  cases Ad:q xs[k] with
  | true=>
   refine zw ?_
   have e:xs.findIdx? q=some k:=List.findIdx?_eq_some_iff_getElem.2 ⟨iM,Ad,λj hj=>by rw[hq j (by omega) hj];decide⟩
   rw[e]
   exact⟨_,⟨rfl,rfl⟩,hS⟩
  | false=>
   refine zq ?_
   refine Gp ?_
   refine⟨⟨k+1,rfl,by omega,λj h hj=>?_,hS⟩,by dsimp only;omega⟩
   rcases Nat.lt_or_ge j k with rX|rX
   ·exact hq j h rX
   ·obtain rfl:j=k:=by omega
    exact Ad
 ·have e:xs.findIdx? q=none:=List.findIdx?_eq_none_iff.2 λx hx=>by
   obtain⟨j,hj,rfl⟩:=List.mem_iff_getElem.1 hx
   exact hq j hj (by omega)
  rw[e]
  exact⟨_,⟨rfl,rfl⟩,hS⟩
structure dD.Ok(m:dD):Prop where
 reqs:gn m.reqs
 t1:1<=m.tables/\m.tables<=8
 rows:m.b8.rows.length<=1000
 jB:0<=m.at_/\m.at_<=1099511627776
abbrev wo(m:dD)(wp:Nat)(rv:Value):List Value:=[dg wp,.int .i64 m.tables,.int .i64 m.late,.int .i64 m.at_,rv]
def dr(mp wp:Nat)(H:aW)(m:dD):zC:=jQ λrv:Value=>zP (kz H rv m.reqs) [.pt mp (wo m wp rv) 111,.ob (eg wp m.b8)]
section
variable {W w:World} {l F:List Chunk} {mp wp:Nat} {H H':aW}
theorem dr.iff{m:dD}:SL W (.ob (dr mp wp H m)::l) w↔∃rv,kz H rv m.reqs/\SL W (.pt mp (wo m wp rv) 111::.ob (eg wp m.b8)::l) w:=by
 unfold dr
 simp only[SL.ex,SL.fact,List.cons_append,List.nil_append]
theorem dr.put(m:dD)(rv:Value)(hr:kz H rv m.reqs)(hS:SL W l w)(p:gq [.pt mp (wo m wp rv) 111,.ob (eg wp m.b8)] l F):SL W (.ob (dr mp wp H m)::F) w:=dr.iff.2 ⟨rv,hr,hS.pick p⟩
theorem dr.gC{m:dD}(hh:H.le H')(hS:SL W l w)(r:gB (.ob (dr mp wp H m)) l F):SL W (.ob (dr mp wp H' m)::F) w:=by
 obtain⟨rv,h1,h2⟩:=dr.iff.1 (hS.perm r.perm)
 exact dr.iff.2 ⟨rv,h1.mono hh,h2⟩
end
theorem Yf(H:aW)(v:Value)(L:List Rq)(tables aI:Int)(hv:kz H v L)(hn:L.length<=1000):
  SP 193 [v,.int .i64 tables,.int .i64 aI] [.mem H] (λu post=>∃q:Bool,u= .bool q/\(q=true↔gn L/\∀r∈L,r.table<tables/\r.at_<=aI)/\post=[.mem H]):=by
 intro W F w hS;apply bIg;delta I7 aF a_ b7 ai;(try simp only[app]at hS)
 refine zm hv ?_
 refine⟨λus w=>∃i:Nat,us=[.int .i64 i]/\i<=L.length/\(∀j (h:j<L.length),j<i->L[j].table<tables/\L[j].at_<=aI)/\SL W (.mem H::F) w,λus _=>match us with|[.int _ i]=>(L.length-i).toNat|_=>0,⟨0,rfl,by omega,λj h hj=>by omega,hS⟩,?_⟩
 clear hS
 rintro v11 w ⟨i,da,hi,dY,hS⟩
 cases da
 refine bR (λh=>?_) (λh=>?_)
 ·have bW:i<L.length:=by omega
  have hx:L[i]?=some L[i]:=List.getElem?_eq_getElem bW
  have hm:=List.getElem_mem bW
  refine zS hS Xh jS hv hx bW ?_
  have jH:L[i].table<tables/\L[i].at_<=aI->∀j (h:j<L.length),j<i+1->L[j].table<tables/\L[j].at_<=aI:=λh j hj gZ=>by
   rcases Nat.lt_or_ge j i with h2|h2
   ·exact dY j hj h2
   ·obtain rfl:j=i:=by omega
    exact h
  generalize L[i]=r at *
  refine Gb λxb w hS=>?_
  refine za (λh2=>⟨_,⟨false,rfl,⟨(λe=>by cases e),λx=>by have:=(x.2 r hm).1;omega⟩,rfl⟩,aR hS⟩) (λh2=>?_)
  refine Gp ?_
  refine za (λh3=>⟨_,⟨false,rfl,⟨(λe=>by cases e),λx=>by have:=(x.2 r hm).2;omega⟩,rfl⟩,aR hS⟩) (λh3=>?_)
  refine Gp ?_
  exact⟨⟨i+1,rfl,by omega,jH ⟨by omega,by omega⟩,aR hS⟩,by dsimp only;omega⟩
 ·refine Cc (Zm H v L hv (by omega)) ?_;clear hS
  rintro _ post ⟨q,rfl,hq,rfl⟩ w hS
  try simp only[app]at hS
  refine⟨_,⟨q,rfl,hq.trans ⟨λx=>⟨x,λr hr=>?_⟩,λx=>x.1⟩,rfl⟩,hS⟩
  obtain⟨j,hj,rfl⟩:=List.getElem_of_mem hr
  exact dY j hj (by omega)
def Hy(H:aW)(tables late chunk aI:Int)(L:List Rq)(v:Value)(post:List Chunk):Prop:=
 (oD tables late chunk aI L/\(∃e:Int,e≠0/\v= .tuple #[.pointer none,.int .i64 e])/\post=[.mem H]) \/
 (¬oD tables late chunk aI L/\∃(mp wp:Nat) (H':aW),H.le H'/\v= .tuple #[dg mp,.int .i64 0]/\post=[.ob (dr mp wp H' ⟨tables,late,aI,L,gl chunk⟩),.mem H'])
theorem QW(H:aW)(tables late chunk aI:Int)(v:Value)(L:List Rq)(hv:kz H v L)(hn:L.length<=1000):
  SP 113 [.int .i64 tables,.int .i64 late,.int .i64 chunk,.int .i64 aI,v] [.mem H] (Hy H tables late chunk aI L):=by
 intro W F w hS;apply bwo;delta HS aF dc ai dk bF;(try simp only[app]at hS)
 have dK:∀{e:Int} {w:World},e≠0->oD tables late chunk aI L->SL W (.mem H::F) w->∃post,Hy H tables late chunk aI L (.tuple #[.pointer none,.int .i64 e]) post/\SL W (app post F) w:=λhe h hS=>⟨_,.inl ⟨h,⟨_,he,rfl⟩,rfl⟩,hS⟩
 refine Gp ?_
 refine za (λh=>dK (by decide) (.inl h) hS) (λh1=>?_)
 refine Gp ?_
 refine za (λh=>dK (by decide) (.inr (.inl h)) hS) (λh2=>?_)
 refine Gp ?_
 refine za (λh=>dK (by decide) (.inr (.inr (.inl h))) hS) (λh3=>?_)
 obtain⟨n,rfl⟩:∃n:Nat,tables=n:=⟨tables.toNat,by omega⟩
 have Xc:(2:Int) ^ n<=256:=by
  have:n<=8:=by omega
  match n,this with
  | 0,_=>decide
  | 1,_=>decide
  | 2,_=>decide
  | 3,_=>decide
  | 4,_=>decide
  | 5,_=>decide
  | 6,_=>decide
  | 7,_=>decide
  | 8,_=>decide
 have uI:(0:Int)<2 ^ n:=Int.pow_pos (by decide)
 refine Sg (by omega) (by omega) ?_
 rw[Int.one_mul]
 refine Gp ?_
 refine za (λh=>dK (by decide) (.inr (.inr (.inr (.inl (by rw[Int.toNat_natCast];exact h))))) hS) (λh4=>?_)
 refine Gp ?_
 refine za (λh=>dK (by decide) (.inr (.inr (.inr (.inr (.inl h))))) hS) (λh5=>?_)
 refine Gp ?_
 refine za (λh=>dK (by decide) (.inr (.inr (.inr (.inr (.inr (.inl h)))))) hS) (λh6=>?_)
 refine Cc (Yf H v L n aI hv hn) ?_;clear hS
 rintro _ post ⟨q,rfl,hq,rfl⟩ w hS
 (try simp only[app]at hS);refine Gp ?_
 refine zA (λhe=>?_) (λhe=>?_)
 ·refine dK (by decide) (.inr (.inr (.inr (.inr (.inr (.inr (.inr (.inr ?_)))))))) hS
  by_cases hm:gn L
  ·right
   refine Classical.byContradiction λhx=>?_
   have:q=true:=hq.2 ⟨hm,λr hr=>by
    refine⟨Int.not_le.1 λh=>hx ⟨r,hr,.inl h⟩,Int.not_lt.1 λh=>hx ⟨r,hr,.inr h⟩⟩⟩
   rw[he]at this;cases this
  ·exact .inl hm
 obtain⟨hm,dY⟩:=hq.1 he
 refine Cc (b67 chunk) ?_;clear hS
 rintro r post k6 w hS
 rcases k6 with ⟨h7,rfl,rfl⟩|⟨h7,wp,rfl,rfl⟩
 ·(try simp only[app]at hS);refine Gp ?_
  refine za (λ_=>?_) (λh=>absurd (by decide) h)
  exact dK (by decide) (.inr (.inr (.inr (.inr (.inr (.inr (by omega))))))) hS
 ·(try simp only[app]at hS);refine Gp ?_
  refine za (λh=>absurd rfl h) (λ_=>?_)
  refine yr (cells:=[dg wp]) (by simp[iw,Value.cells,dg]) ?_
  refine Cc (yz H v L hv hn) ?_;clear hS
  rintro u post rfl w hS
  try simp only[app]at hS
  obtain⟨H1,d_,hR,hS⟩:=zE (H:=H) (v:=u) hS Xp
  have hu:u.oneCell'=true:=hR.one
  refine yr (cells:=[dg wp,.int .i64 n,.int .i64 late,.int .i64 aI,u]) (by simp[iw,show ∀n,(Value.int .i64 n).cells = #[.int .i64 n] from λ_=>rfl,show ∀v,(Value.agg #[v]).cells = #[v] from λ_=>rfl,si hu]) ?_
  refine⟨_,rfl,zI hS λmp w hS=>?_⟩
  have b5:¬oD n late chunk aI L:=by
   rintro (h|h|h|h|h|h|h|h|h|⟨r,hr,h⟩)
   ·exact h1 h
   ·exact h2 h
   ·exact h3 h
   ·rw[Int.toNat_natCast]at h;exact h4 h
   ·exact h5 h
   ·exact h6 h
   ·omega
   ·omega
   ·exact h hm
   ·have:=dY r hr;omega
  have hS:=dr.put (wp:=wp) ⟨n,late,aI,L,gl chunk⟩ u hR hS Xp
  exact⟨_,.inr ⟨b5,mp,wp,H1,d_,rfl,rfl⟩,aR hS⟩
section
variable (mp wp:Nat) (H:aW) (m:dD)
theorem Zl:SP 44 [dg mp] [.ob (dr mp wp H m)] (dj (.int .i64 m.at_) [.ob (dr mp wp H m)]):=by
 intro W F w hS;apply b5s;delta KY bw;(try simp only[app]at hS)
 obtain⟨rv,hr,hS⟩:=dr.iff.1 hS
 refine Gp ?_
 exact⟨_,⟨rfl,rfl⟩,SL.b6 (dr.put m rv hr hS Xp) Xi⟩
theorem yE(hn:m.reqs.length<=1000):SP 49 [dg mp] [.ob (dr mp wp H m),.mem H] (λu post=>post=[.ob (a7 u 125 7 m.reqs.length (m.reqs.map gX).flatten),.ob (dr mp wp H m),.mem H]):=by
 intro W F w hS;apply b5x;delta K3 bw;(try simp only[app]at hS)
 obtain⟨rv,hr,hS⟩:=dr.iff.1 hS
 refine Gp ?_
 refine Cc (yz H rv m.reqs hr hn) ?_;clear hS
 rintro u post rfl w hS
 try simp only[app]at hS
 exact⟨_,rfl,SL.b6 (dr.put m rv hr hS Xp) Xi⟩
theorem Zv:SP 47 [agg [dg wp]] [] (dj (dg wp) []):=by
 intro W F w hS;apply b5v;delta K1 a_;(try simp only[app]at hS)
 refine zK hS λxb w hS=>?_
 refine Gp ?_
 exact dq hS
theorem Y6(k:dQ)(x:jq):SP 53 [agg [dg wp],agg (eI x)] [.ob (eg wp k)] (dj (.bool (k.waits x.kind x.mark)) [.ob (eg wp k)]):=by
 intro W F w hS;apply b5y;delta K4 a_;(try simp only[app]at hS)
 refine zK hS λxb w hS=>?_
 refine zK hS λyb w hS=>?_
 refine Gp ?_
 refine Cg (qx wp k x) λw hS=>?_
 exact dq hS
theorem QD(b:Nat)(t:Int)(r:Rq):SP 260 ([agg (gX r)]++(#[dg b]:Array Value).toList) [.pt b [.int .i64 t] 3] (dj (.bool (decide (r.table=t))) [.pt b [.int .i64 t] 3]):=by
 intro W F w hS;apply bRz;delta J0 a_;(try simp only[app]at hS)
 refine zK hS λxb w hS=>?_
 unfold gX at hS
 refine Gp ?_
 exact dq hS
theorem TL{α:Type}{l:List α}{q:α->Bool}:decide (0<=k9 (l.findIdx? q))=l.any q:=by
 cases h:l.findIdx? q with
 | none=>
  have:=List.findIdx?_eq_none_iff.1 h
  rw[show l.any q=false by rw[List.any_eq_false];exact λx hx=>by rw[this x hx];decide];rfl
 | some i=>
  obtain⟨hi,hk,_⟩:=List.findIdx?_eq_some_iff_getElem.1 h
  rw[show l.any q=true from List.any_eq_true.2 ⟨_,List.getElem_mem hi,hk⟩]
  exact decide_eq_true (by simp only[k9];omega)
theorem Ye(hn:m.reqs.length<=1000)(t:Int):SP 198 [dg mp,.int .i64 t] [.ob (dr mp wp H m),.mem H] (dj (.bool (m.captured t)) [.ob (dr mp wp H m),.mem H]):=by
 intro W F w hS;apply bIl;delta Ja aF bw b7 ai;(try simp only[app]at hS)
 obtain⟨rv,hr,hS⟩:=dr.iff.1 hS
 unfold dD.captured
 refine⟨rfl,zI hS λb w hS=>?_⟩
 refine Gn λw hS=>?_
 refine za (λh=>?_) (λh1=>?_)
 ·rw[decide_eq_false (by omega),Bool.false_and]
  exact⟨_,⟨rfl,rfl⟩,SL.b6 (dr.put m rv hr hS Xp) Xi⟩
 refine bR (λh=>?_) (λh2=>?_)
 ·rw[decide_eq_false (by omega),Bool.false_and]
  exact⟨_,⟨rfl,rfl⟩,SL.b6 (dr.put m rv hr hS Xp) Xi⟩
 rw[decide_eq_true (show 0<=t/\t<m.tables by omega),Bool.true_and]
 refine Gn λw hS=>?_
 refine aWd (by omega) ?_
 refine bR (λh=>?_) (λh3=>?_)
 ·rw[decide_eq_true h,Bool.true_or]
  exact⟨_,⟨rfl,rfl⟩,SL.b6 (dr.put m rv hr hS Xp) Xi⟩
 rw[decide_eq_false h3,Bool.false_or]
 refine Gp ?_
 have hC:SP 259 [rv,.func (.func 260) #[] #[dg b]] [.pt b [.int .i64 t] 3,.mem H] (dj (.bool (m.reqs.any λr=>decide (r.table=t))) [.pt b [.int .i64 t] 3,.mem H]):=by
  intro W F w hS;apply bRy;delta JZ ai;(try simp only[app]at hS)
  refine Cg (XT jS rfl (λv0 v1 w R h=>bWz v0 v1 w R h) (λr=>QD b t r) rv m.reqs hr (by omega)) λw hS=>?_
  rw[TL]
  exact⟨_,⟨rfl,rfl⟩,hS⟩
 refine Cg (hC) λw hS=>?_
 exact⟨_,⟨rfl,rfl⟩,SL.b6 (dr.put m rv hr hS Xp) Xi⟩
end
abbrev pH(v:Value)(l:List rA):Chunk:=.ob (a7 v 295 7 l.length (l.map tY).flatten)
abbrev Df(v:Value)(l:List mf):Chunk:=.ob (a7 v 123 5 l.length (l.map pQ).flatten)
theorem YC(mp wp:Nat)(H:aW)(m:dD)(hm:m.Ok)(s:ByteArray)(hs:s.size<=1000)(aI:Int):
  SP 197 [dg mp,.string s,.int .i64 aI] [.ob (dr mp wp H m),.mem H] (λv post=>∃H',H.le H'/\post=[pH v (m.accept s aI).2,.ob (dr mp wp H' {m with reqs:=(m.accept s aI).1}),.mem H']):=by
 intro W F w hS;apply bIk;delta I_ aF bw a_ dx dc ai bF;(try simp only[app]at hS)
 have B6:=hm.reqs.1
 have eN:∀{w:World},m.accept s aI=(m.reqs,[])->SL W (.ob (dr mp wp H m)::.mem H::F) w->∃post,(∃H',H.le H'/\post=[pH (.slice none 0 0) (m.accept s aI).2,.ob (dr mp wp H' {m with reqs:=(m.accept s aI).1}),.mem H'])/\SL W (app post F) w:=λe hS=>by
  rw[e]
  have hS:SL W (pH (.slice none 0 0) []::.ob (dr mp wp H m)::.mem H::F) _:=a7.nil hS
  exact⟨_,⟨H,aW.le_refl H,rfl⟩,hS⟩
 refine Cc (qJ s (by omega)) ?_;clear hS
 rintro _ post ⟨rfl,rfl⟩ w hS
 try simp only[app]at hS
 unfold Sp
 cases hp:wx s with
 | none=>
  simp only[Option.getD_none,Option.isSome_none]
  refine Gm λb w hS=>?_
  refine zw ?_
  exact eN (by unfold dD.accept;rw[hp]) (aR hS)
 | some g=>
  obtain⟨t,wt⟩:=g
  simp only[Option.getD_some,Option.isSome_some]
  refine Gm λb w hS=>?_
  refine zq ?_
  obtain⟨rv,hr,hS⟩:=dr.iff.1 (SL.b6 hS (t:=.ob (dr mp wp H m)::.pt b [.int .i64 t,.int .i64 wt] 351::.mem H::F) Xi)
  refine bR (λh=>?_) (λh1=>?_)
  ·exact eN (by unfold dD.accept;rw[hp];simp only;rw[if_pos h]) (SL.b6 (dr.put m rv hr hS Xp) Xi)
  refine Gn λw hS=>?_
  have vL:m.accept s aI=match nZ m.reqs t wt aI with
   | none=>(m.reqs,[])
   | some L=>(L,[⟨1,L.length,t,wt,aI,0,false⟩]):=by
   unfold dD.accept;rw[hp];simp only;rw[if_neg h1];rfl
  refine Cc (YG H rv m.reqs t wt aI hr (by omega)) ?_;clear hS
  rintro u post ⟨H1,d_,rfl,hq⟩ w hS
  try simp only[app]at hS
  cases ha:nZ m.reqs t wt aI with
  | none=>
   rw[ha]at hq vL
   subst hq
   refine Gp ?_
   refine zw ?_
   have hS:=dr.put m rv (hr.mono d_) hS Xp
   rw[vL]
   have hS:SL W (pH (.slice none 0 0) []::.ob (dr mp wp H1 m)::_) _:=a7.nil hS
   exact⟨_,⟨H1,d_,rfl⟩,aR hS⟩
  | some L=>
   rw[ha]at hq vL
   obtain⟨x,rfl,hx⟩:=hq
   have ox:x.oneCell'=true:=hx.one
   refine Gp ?_
   refine zq ?_
   refine Gn λw hS=>?_
   refine zm hx ?_
   refine Gm λnb w hS=>?_
   rw[vL]
   have hS:=dr.put (mp:=mp) (wp:=wp) {m with reqs:=L} x hx hS Xp
   have hS:SL W (pH (.slice (some ⟨nb,0,none⟩) 1 1) [⟨1,L.length,t,wt,aI,0,false⟩]::.ob (dr mp wp H1 {m with reqs:=L})::.mem H1::F) w:=a7.full (sz:=7) rfl (SL.b6 hS (t:=.pt nb [.int .i64 1,.int .i64 L.length,.int .i64 t,.int .i64 wt,.int .i64 aI,.int .i64 0,.bool false] 295::.ob (dr mp wp H1 {m with reqs:=L})::.mem H1::F) Xi)
   exact⟨_,⟨H1,d_,rfl⟩,aR hS⟩
theorem LK(aI:Int):∀(l:List ByteArray) (m:dD) (s:ByteArray),m.fJ aI (l++[s])=({(m.fJ aI l).1 with reqs:=((m.fJ aI l).1.accept s aI).1},(m.fJ aI l).2++((m.fJ aI l).1.accept s aI).2)
 | [],m,s=>by simp[dD.fJ]
 | x::l,m,s=>by
  show (let r:=m.accept x aI;let y:=dD.fJ {m with reqs:=r.1} aI (l++[s]);(y.1,r.2++y.2))=_
  simp only
  rw[LK aI l]
  simp[dD.fJ,List.append_assoc]
theorem LJ{m:dD}(h:gn m.reqs)(s:ByteArray)(aI:Int):gn (m.accept s aI).1/\(m.accept s aI).2.length<=1:=by
 unfold dD.accept
 split
 ·exact⟨h,by simp⟩
 ·split
  ·exact⟨h,by simp⟩
  ·split
   ·exact⟨h,by simp⟩
   ·rename_i L hL
    exact⟨LI hL,by simp⟩
theorem Du(aI:Int):∀(l:List ByteArray) {m:dD},m.Ok->(m.fJ aI l).1.Ok/\(m.fJ aI l).2.length<=l.length/\(m.fJ aI l).1.b8=m.b8/\(m.fJ aI l).1.tables=m.tables/\(m.fJ aI l).1.late=m.late/\(m.fJ aI l).1.at_=m.at_
 | [],m,h=>⟨h,by simp[dD.fJ],rfl,rfl,rfl,rfl⟩
 | x::l,m,h=>by
  have h1:=LJ h.reqs x aI
  have h2:=Du aI l (m:={m with reqs:=(m.accept x aI).1}) ⟨h1.1,h.t1,h.rows,h.jB⟩
  unfold dD.fJ
  simp only
  refine⟨h2.1,?_,h2.2.2⟩
  rw[List.length_append,List.length_cons]
  have:=h2.2.1
  omega
theorem aFp{α:Type}{enc:α->List Value}{v:Value}{t:TypeId}{sz:Nat}{A B:List α}:a7 v t sz (A.length+B.length) ((A.map enc).flatten++(B.map enc).flatten)=a7 v t sz (A++B).length ((A++B).map enc).flatten:=by
 rw[List.length_append,List.map_append,List.flatten_append]
def Hw(mp wp:Nat)(H:aW)(y:dD × oM)(u:Value)(post:List Chunk):Prop:=∃(x:pF) (H':aW),H.le H'/\u=agg (kC x)/\rz H' x y.2/\post=[.ob (dr mp wp H' y.1),.mem H']
theorem YE(mp wp:Nat)(H:aW)(m:dD)(hm:m.Ok)(x:jq)(t:cW)(hx:gO H x t)(hs:t.signals.length<=2)(Xo:∀s∈t.signals,s.size<=40)(hc:t.changes.length<=16):
  SP 119 [dg mp,agg (eI x)] [.ob (dr mp wp H m),.mem H] (Hw mp wp H (m.sM t)):=by
 intro W F w hS;apply bwv;delta HY aF a_ cF df ai c_ bF;(try simp only[app]at hS)
 refine zK hS λxb w hS=>?_
 unfold eI at hS
 rw[hx.aI]at hS
 have kX:=hx.cv
 have uJ:=hx.sv
 refine Gm λzb w hS=>?_
 refine Gm λyb w hS=>?_
 refine zm uJ ?_
 have hS:SL W (pH (.slice none 0 0) []::_) w:=a7.nil hS
 have hS:=SL.b6 hS (t:=pH (.slice none 0 0) []::.ob (dr mp wp H m)::.pt yb [.int .i64 t.aI,.slice none 0 0,.slice none 0 0] 100::.pt zb [.int .i64 0,.slice none 0 0,.slice none 0 0] 100::.pt xb [.int .i64 t.aI,.int .i64 x.kind,x.cv,x.sv,.int .i64 x.mark] 39::.mem H::F) Xi
 refine⟨λus w=>∃(i:Nat) (nv:Value) (H1:aW),us=[.int .i64 i]/\i<=t.signals.length/\H.le H1/\SL W (pH nv (m.fJ t.aI (t.signals.take i)).2::.ob (dr mp wp H1 (m.fJ t.aI (t.signals.take i)).1)::.pt yb [.int .i64 t.aI,.slice none 0 0,nv] 100::.pt zb [.int .i64 0,.slice none 0 0,.slice none 0 0] 100::.pt xb [.int .i64 t.aI,.int .i64 x.kind,x.cv,x.sv,.int .i64 x.mark] 39::.mem H1::F) w,
  λus _=>match us with|[.int _ i]=>(t.signals.length-i).toNat|_=>0,⟨0,.slice none 0 0,H,rfl,by omega,aW.le_refl H,hS⟩,?_⟩
 clear hS
 rintro wK w ⟨i,nv,H1,da,hi,d_,hS⟩
 cases da
 refine bR (λh=>?_) (λh=>?_)
 ·have bW:i<t.signals.length:=by omega
  have xE:=Du t.aI (t.signals.take i) hm
  have gK:t.signals.take (i+1)=t.signals.take i++[t.signals[i]]:=List.take_succ_eq_append_getElem bW
  have m0:=LK t.aI (t.signals.take i) m t.signals[i]
  rw[<- gK]at m0
  have h40:=Xo _ (List.getElem_mem bW)
  have dZ:(t.signals.take i).length<=2:=by rw[List.length_take];omega
  refine yH hS Xh (uJ.mono d_) bW (u:=.string t.signals[i]) (by simp[bW]) ?_
  refine Gn λw hS=>?_
  refine Cc (YC mp wp H1 (m.fJ t.aI (t.signals.take i)).1 xE.1 t.signals[i] (by omega) t.aI) ?_;clear hS
  rintro v post ⟨H2,eh,rfl⟩ w hS
  try simp only[app]at hS
  have oy:=(LJ xE.1.reqs t.signals[i] t.aI).2
  have OM:=xE.2.1
  refine Gp ?_
  refine zx (n:=(m.fJ t.aI (t.signals.take i)).2.length) (m:=((m.fJ t.aI (t.signals.take i)).1.accept t.signals[i] t.aI).2.length) (cells:=((m.fJ t.aI (t.signals.take i)).2.map tY).flatten) (cs:=(((m.fJ t.aI (t.signals.take i)).1.accept t.signals[i] t.aI).2.map tY).flatten) hS Xr (nc hS Xh) (jF M1 _) rfl (m_ Va _) (by omega) (by omega) λv2 w hS=>?_
  have o1:v2.oneCell'=true:=a7.one hS
  rw[aFp,show (m.fJ t.aI (t.signals.take i)).2++((m.fJ t.aI (t.signals.take i)).1.accept t.signals[i] t.aI).2=(m.fJ t.aI (t.signals.take (i+1))).2 by rw[m0]]at hS
  refine Gn λw hS=>?_
  rw[show (⟨(m.fJ t.aI (t.signals.take i)).1.tables,(m.fJ t.aI (t.signals.take i)).1.late,(m.fJ t.aI (t.signals.take i)).1.at_,((m.fJ t.aI (t.signals.take i)).1.accept t.signals[i] t.aI).1,(m.fJ t.aI (t.signals.take i)).1.b8⟩:dD)=(m.fJ t.aI (t.signals.take (i+1))).1 by rw[m0]]at hS
  exact⟨⟨i+1,v2,H2,rfl,by omega,aW.le_trans d_ eh,aR hS⟩,by dsimp only;omega⟩
 have E7:t.signals.take i=t.signals:=List.take_of_length_le (by omega)
 rw[E7]at hS
 obtain⟨y_,mY,XG,XC,dZ,fD⟩:=Du t.aI t.signals hm
 have gj:m.sM t=({(m.fJ t.aI t.signals).1 with b8:=(m.fJ t.aI t.signals).1.b8.sn t.changes},⟨t.aI,oF (m.fJ t.aI t.signals).1 t.aI t.changes,(m.fJ t.aI t.signals).2⟩):=rfl
 rw[gj]
 generalize m.fJ t.aI t.signals=y at *
 obtain⟨m1,N⟩:=y
 simp only at hS y_ mY ⊢
 clear XG XC dZ fD gj
 refine Gp ?_
 refine zm (kX.mono d_) ?_
 have hS:SL W (Df (.slice none 0 0) (oF m1 t.aI (t.changes.take 0))::_) w:=a7.nil hS
 refine⟨λus w=>∃(i:Nat) (ov:Value),us=[.int .i64 i]/\i<=t.changes.length/\SL W (Df ov (oF m1 t.aI (t.changes.take i))::pH nv N::.ob (dr mp wp H1 m1)::.pt yb [.int .i64 t.aI,ov,nv] 100::.pt zb [.int .i64 0,.slice none 0 0,.slice none 0 0] 100::.pt xb [.int .i64 t.aI,.int .i64 x.kind,x.cv,x.sv,.int .i64 x.mark] 39::.mem H1::F) w,
  λus _=>match us with|[.int _ i]=>(t.changes.length-i).toNat|_=>0,⟨0,.slice none 0 0,rfl,by omega,aR hS⟩,?_⟩
 clear hS
 rintro v33 w ⟨i,ov,da,hi,hS⟩
 cases da
 refine bR (λh=>?_) (λh=>?_)
 ·have bW:i<t.changes.length:=by omega
  have XH:t.changes[i]?=some t.changes[i]:=List.getElem?_eq_getElem bW
  have gK:t.changes.take (i+1)=t.changes.take i++[t.changes[i]]:=List.take_succ_eq_append_getElem bW
  have ff:oF m1 t.aI (t.changes.take (i+1))=oF m1 t.aI (t.changes.take i)++(if m1.captured t.changes[i].table=true then [⟨t.aI,t.changes[i].table,t.changes[i].key,t.changes[i].gone,t.changes[i].val⟩] else []):=by
   unfold oF
   rw[gK,List.filter_append,List.map_append]
   congr 1
   rw[List.filter_cons]
   split<;>simp
  have Fv:(oF m1 t.aI (t.changes.take i)).length<=16:=by
   unfold oF
   rw[List.length_map]
   have:=List.length_filter_le (λc:dW=>m1.captured c.table) (t.changes.take i)
   rw[List.length_take]at this
   omega
  refine zS hS Xh kh (kX.mono d_) XH bW ?_
  generalize t.changes[i]=c at *
  refine Gb λcb w hS=>?_
  refine Cg (Ye mp wp H1 m1 (by have:=y_.reqs.1;omega) c.table) λw hS=>?_
  refine y0 (λhq=>?_) (λhq=>?_)
  ·rw[if_pos hq]at ff
   refine Gm λob w hS=>?_
   refine yu (n:=(oF m1 t.aI (t.changes.take i)).length) (xs:=oF m1 t.aI (t.changes.take i)) (y:=⟨t.aI,c.table,c.key,c.gone,c.val⟩) (enc:=pQ) hS Xr Xh M3 (λx=>M4 x) rfl (by omega) (by omega) λv2 w hS=>?_
   have hS:=hS.oJ (x:=(⟨t.aI,c.table,c.key,c.gone,c.val⟩:mf))
   rw[<- ff]at hS
   have o1:v2.oneCell'=true:=a7.one hS
   refine Gn λw hS=>?_
   exact⟨⟨i+1,v2,rfl,by omega,aR hS⟩,by dsimp only;omega⟩
  ·rw[if_neg (by simp[hq]),List.append_nil]at ff
   rw[<- ff]at hS
   refine Gp ?_
   exact⟨⟨i+1,ov,rfl,by omega,aR hS⟩,by dsimp only;omega⟩
 have WL:t.changes.take i=t.changes:=List.take_of_length_le (by omega)
 rw[WL]at hS
 obtain⟨rv,hr,hS⟩:=dr.iff.1 (SL.b6 hS (t:=.ob (dr mp wp H1 m1)::Df ov (oF m1 t.aI t.changes)::pH nv N::.pt yb [.int .i64 t.aI,ov,nv] 100::.pt zb [.int .i64 0,.slice none 0 0,.slice none 0 0] 100::.pt xb [.int .i64 t.aI,.int .i64 x.kind,x.cv,x.sv,.int .i64 x.mark] 39::.mem H1::F) Xi)
 refine Gn λw hS=>?_
 refine Cc (b69 wp m1.b8 H1 x.cv t.changes (kX.mono d_) (by have:=y_.rows;omega) (by omega)) ?_;clear hS
 rintro _ post ⟨⟨q,rfl⟩,rfl⟩ w hS
 try simp only[app]at hS
 have hS:=dr.put (mp:=mp) {m1 with b8:=m1.b8.sn t.changes} rv hr hS Xp
 obtain⟨H2,eh,N1,hS⟩:=zE (H:=H1) (v:=nv) hS Xp
 obtain⟨H3,gE,N2,hS⟩:=zE (H:=H2) (v:=ov) hS Xp
 have on:nv.oneCell'=true:=N1.one
 have oo:ov.oneCell'=true:=N2.one
 refine Gp ?_
 refine zz (vs:=[.int .i64 t.aI,ov,nv]) hS Xu rfl rfl (Gq oo on) λw hS=>?_
 refine Gp ?_
 have BF:=aW.le_trans eh gE
 have hS:=dr.gC (m:={m1 with b8:=m1.b8.sn t.changes}) BF hS Xr
 exact⟨_,⟨⟨t.aI,ov,nv⟩,H3,aW.le_trans d_ BF,rfl,⟨rfl,N2,N1.mono gE⟩,rfl⟩,aR hS⟩
theorem tK.all{wp:Nat}{k:dQ}{H:aW}{mark aI:Int}{u:Value}{post:List Chunk}(h:tK wp k H mark aI u post):∃(x:pF) (H':aW) (q:Bool) (k':dQ),H.le H'/\u= .tuple #[agg (kC x),.bool q]/\post=[.ob (eg wp k'),.mem H']/\(∀v∈kC x,v.oneCell'=true) /\
  ((q=false/\k.high mark aI=(k',none))\/(q=true/\∃t,k.high mark aI=(k',some t)/\rz H' x t)):=by
 unfold tK at h
 have e:k.high mark aI=(if k.rV mark aI then (k,none) else (gl k.n,some ⟨aI,jh k aI,[rj k]⟩)):=rfl
 by_cases hb:k.rV mark aI
 ·rw[if_pos hb]at e
  rw[e]at h ⊢
  obtain⟨rfl,rfl⟩:=h
  exact⟨we,H,false,k,aW.le_refl H,rfl,rfl,by simp[kC,Value.oneCell'],.inl ⟨rfl,rfl⟩⟩
 ·rw[if_neg hb]at e
  rw[e]at h ⊢
  obtain⟨x,H',hh,rfl,hx,rfl⟩:=h
  exact⟨x,H',true,_,hh,rfl,rfl,rJ hx,.inr ⟨rfl,_,rfl,hx⟩⟩
theorem WN{k k':dQ}{mark aI:Int}{t:oM}(h:k.high mark aI=(k',some t)):t=⟨aI,jh k aI,[rj k]⟩:=by
 unfold dQ.high at h
 split at h
 ·cases h
 ·cases h;rfl
theorem qI(mp wp:Nat)(H:aW)(m:dD)(hm:m.Ok)(x:jq)(t:cW)(hx:gO H x t)(hid : -9223372036854775808<=m.b8.id/\m.b8.id<=9223372036854775807):
  SP 120 [dg mp,agg (eI x)] [.ob (dr mp wp H m),.mem H] (Hw mp wp H (m.high t)):=by
 intro W F w hS;apply bwx;delta H0 bw a_ dx cF df dc ai bF;(try simp only[app]at hS)
 have hn:=hm.rows
 have B6:=hm.reqs.1
 refine zK hS λxb w hS=>?_
 unfold eI at hS
 rw[hx.aI,hx.mark]at hS
 obtain⟨rv,hr,hS⟩:=dr.iff.1 (SL.b6 hS (t:=.ob (dr mp wp H m)::.pt xb [.int .i64 t.aI,.int .i64 x.kind,x.cv,x.sv,.int .i64 t.mark] 39::.mem H::F) Xi)
 refine Gm λzb w hS=>?_
 refine⟨λus w=>∃(yb:Nat) (y:pF) (H1:aW) (q:Bool) (k':dQ),us=[dg yb,.bool q]/\H.le H1/\(∀v∈kC y,v.oneCell'=true)/\((q=false/\m.b8.high t.mark t.aI=(k',none))\/(q=true/\∃z,m.b8.high t.mark t.aI=(k',some z)/\rz H1 y z)) /\
   SL W (.pt yb (kC y) 100::.pt zb [.int .i64 0,.slice none 0 0,.slice none 0 0] 100::.pt xb [.int .i64 t.aI,.int .i64 x.kind,x.cv,x.sv,.int .i64 t.mark] 39::.pt mp (wo m wp rv) 111::.ob (eg wp k')::.mem H1::F) w,?_,?_⟩
 ·refine Gn λw hS=>?_
  refine⟨?_,?_⟩
  ·refine Cc (Yd wp m.b8 H t.mark t.aI (by omega)) ?_;clear hS
   rintro _ post hq w hS
   obtain⟨y,H1,q,k',d_,rfl,rfl,uN,hc⟩:=hq.all
   try simp only[app]at hS
   refine Gm λyb w hS=>?_
   refine zz hS Xu rfl rfl uN λw hS=>?_
   exact⟨yb,y,H1,q,k',rfl,d_,uN,hc,aR hS⟩
  ·refine Gb λyb w hS=>?_
   refine Cc (Yd wp m.b8 H t.mark t.aI (by omega)) ?_;clear hS
   rintro _ post hq w hS
   obtain⟨y,H1,q,k',d_,rfl,rfl,uN,hc⟩:=hq.all
   (try simp only[app]at hS);refine Gp ?_
   refine zz hS Xu rfl rfl uN λw hS=>?_
   exact⟨yb,y,H1,q,k',rfl,d_,uN,hc,aR hS⟩
 clear hS
 rintro v5 v6 w ⟨yb,y,H1,q,k',da,d_,uN,hc,hS⟩
 cases da
 rcases hc with ⟨rfl,hh⟩|⟨rfl,z,hh,hz⟩
 ·refine zO (zw ?_)
  refine Gn λw hS=>?_
  have e:m.high t=(m,⟨t.aI,[],[]⟩):=by unfold dD.high;rw[hh]
  have hk:k'=m.b8:=by
   unfold dQ.high at hh
   split at hh
   ·cases hh;rfl
   ·cases hh
  subst hk
  rw[e]
  have hS:=dr.put m rv (hr.mono d_) hS Xp
  exact⟨_,⟨⟨t.aI,.slice none 0 0,.slice none 0 0⟩,H1,d_,rfl,⟨rfl,dy.nil _ _,dy.nil _ _⟩,rfl⟩,aR hS⟩
 ·refine zO (zq ?_)
  have XN:=WN hh
  subst XN
  have px:=hz.aI
  have W7:=hz.Gi
  have O1:=hz.ops
  have hS:SL W (.pt yb [.int .i64 y.aI,y.ov,y.nv] 100::_) w:=hS
  refine Gp ?_
  refine zS (j:=0) hS Xh M1 W7 (x:=rj m.b8) rfl (by simp) ?_
  refine Gb λnb w hS=>?_
  refine Cc (Y8 H1 rv m.reqs m.b8.id m.b8.dL m.b8.last (hr.mono d_) (by omega) hid) ?_;clear hS
  rintro u post ⟨H2,eh,rfl,hq⟩ w hS
  try simp only[app]at hS
  have gv:=aW.le_trans d_ eh
  cases jV:ml m.reqs m.b8.id m.b8.dL m.b8.last with
  | none=>
   rw[jV]at hq
   subst hq
   have e:m.high t=({m with b8:=k'},⟨t.aI,jh m.b8 t.aI,[]⟩):=by unfold dD.high;rw[hh];simp only;rw[jV]
   rw[e]
   refine Gp ?_
   refine zw ?_
   refine Gn λw hS=>?_
   have oo:y.ov.oneCell'=true:=O1.one
   refine zz (vs:=[.int .i64 y.aI,y.ov,.slice none 0 0]) hS Xu rfl rfl (Gq oo rfl) λw hS=>?_
   refine Gp ?_
   have hS:=dr.put (mp:=mp) {m with b8:=k'} rv (hr.mono gv) hS Xp
   exact⟨_,⟨⟨y.aI,y.ov,.slice none 0 0⟩,H2,gv,rfl,⟨px,O1.mono eh,dy.nil _ _⟩,rfl⟩,aR hS⟩
  | some L=>
   rw[jV]at hq
   obtain⟨rx,rfl,O7⟩:=hq
   have e:m.high t=({m with b8:=k',reqs:=L},⟨t.aI,jh m.b8 t.aI,[rj m.b8]⟩):=by unfold dD.high;rw[hh];simp only;rw[jV]
   rw[e]
   have ox:rx.oneCell'=true:=O7.one
   refine Gp ?_
   refine zq ?_
   refine Gn λw hS=>?_
   refine zz (vs:=[.int .i64 y.aI,y.ov,y.nv]) hS Xu rfl rfl uN λw hS=>?_
   refine Gp ?_
   have hS:=dr.put (mp:=mp) {m with b8:=k',reqs:=L} rx O7 hS Xp
   exact⟨_,⟨y,H2,gv,rfl,hz.mono eh,rfl⟩,aR hS⟩
def HJ(mp wp:Nat)(H:aW)(y:dD × (oM × Int))(u:Value)(post:List Chunk):Prop:=∃(x:pF) (H':aW),H.le H'/\u= .tuple #[agg (kC x),.int .i64 y.2.2]/\rz H' x y.2.1/\post=[.ob (dr mp wp H' y.1),.mem H']
theorem yj(mp wp:Nat)(H:aW)(m:dD)(hm:m.Ok)(x:jq)(t:cW)(hx:gO H x t)(hid : -9223372036854775808<=m.b8.id/\m.b8.id<=9223372036854775807):
  SP 45 [dg mp,agg (eI x)] [.ob (dr mp wp H m),.mem H] (HJ mp wp H (m.take t)):=by
 intro W F w hS;apply b5t;delta KZ aF bw a_ dx df dc ai bF;(try simp only[app]at hS)
 have fD:=hm.jB
 refine zK hS λxb w hS=>?_
 refine Gm λzb w hS=>?_
 refine Cg (yq H x t hx) λw hS=>?_
 unfold dD.take
 refine zA (λh=>?_) (λh=>?_)
 ·rw[if_pos h]
  refine Gn λw hS=>?_
  exact⟨_,⟨we,H,aW.le_refl H,rfl,⟨rfl,dy.nil _ _,dy.nil _ _⟩,rfl⟩,aR hS⟩
 rw[if_neg (by simp[h])]
 obtain⟨m1,m2,m3,m4,m5,m6,m7⟩:=kJ h
 have hl:=hx.aI
 have hk:=hx.kind
 have s6:=hx.mark
 obtain⟨rv,hr,hS⟩:=dr.iff.1 (SL.b6 hS (t:=.ob (dr mp wp H m)::.pt zb [.int .i64 0,.slice none 0 0,.slice none 0 0] 100::.pt xb (eI x) 39::.mem H::F) Xi)
 refine Gn λw hS=>?_
 rw[hl]
 have Fw:∀{w:World},(t.aI≠m.at_+1\/m.b8.waits t.kind t.mark=true)->SL W (.pt mp (wo m wp rv) 111::.ob (eg wp m.b8)::.mem H::F) w->∃post,HJ mp wp H (if t.aI≠m.at_+1\/m.b8.waits t.kind t.mark=true then (m,(⟨0,[],[]⟩,10))
   else if t.kind=1 then let r:=({m with at_:=t.aI}:dD).sM t;(r.1,(r.2,0))
   else if t.kind=3 then let r:=({m with at_:=t.aI}:dD).high t;(r.1,(r.2,0))
   else ({m with at_:=t.aI,b8:=m.b8.low t.mark},(⟨t.aI,[],[]⟩,0))) (.tuple #[agg (kC we),.int .i64 10]) post/\SL W (app post F) w:=λh hS=>by
  rw[if_pos h]
  have hS:=dr.put m rv hr hS Xp
  exact⟨_,⟨we,H,aW.le_refl H,rfl,⟨rfl,dy.nil _ _,dy.nil _ _⟩,rfl⟩,aR hS⟩
 refine za (λh1=>?_) (λh1=>?_)
 ·refine Gn λw hS=>?_
  exact Fw (.inl h1) (aR hS)
 refine Gp ?_
 refine Z8 (vs:=[dg wp]) hS Xh rfl (λj v e=>by
  match j,e with
  | 0,e=>exact e) ?_
 refine Gp ?_
 refine Cg (Y6 wp m.b8 x) λw hS=>?_
 rw[hk,s6]
 refine y0 (λh2=>?_) (λh2=>?_)
 ·refine Gn λw hS=>?_
  exact Fw (.inr h2) (aR hS)
 clear Fw
 rw[if_neg (show ¬(t.aI≠m.at_+1\/m.b8.waits t.kind t.mark=true) by rw[h2];simp;omega)]
 refine Gn λw hS=>?_
 rw[hl]at hS
 have hS:SL W (.pt mp (wo {m with at_:=t.aI} wp rv) 111::.ob (eg wp m.b8)::.pt zb [.int .i64 0,.slice none 0 0,.slice none 0 0] 100::.pt xb (eI x) 39::.mem H::F) w:=aR hS
 have b5:({m with at_:=t.aI}:dD).Ok:=⟨hm.reqs,hm.t1,hm.rows,by show 0<=t.aI/\t.aI<=1099511627776;omega⟩
 rw[hk]
 refine za (λh3=>?_) (λh3=>?_)
 ·rw[if_pos h3]
  have hS:=dr.put (mp:=mp) {m with at_:=t.aI} rv hr hS Xp
  refine Gp ?_
  refine Cc (YE mp wp H {m with at_:=t.aI} b5 x t hx m5 m7 m4) ?_;clear hS
  rintro _ post ⟨y,H1,d_,rfl,hy,rfl⟩ w hS
  try simp only[app]at hS
  refine zz hS Xu rfl rfl (rJ hy) λw hS=>?_
  refine Gp ?_
  exact⟨_,⟨y,H1,d_,rfl,hy,rfl⟩,aR hS⟩
 rw[if_neg h3]
 refine bR (λh4=>?_) (λh4=>?_)
 ·rw[if_pos h4]
  have hS:=dr.put (mp:=mp) {m with at_:=t.aI} rv hr hS Xp
  refine Gp ?_
  refine Cc (qI mp wp H {m with at_:=t.aI} b5 x t hx hid) ?_;clear hS
  rintro _ post ⟨y,H1,d_,rfl,hy,rfl⟩ w hS
  try simp only[app]at hS
  refine zz hS Xu rfl rfl (rJ hy) λw hS=>?_
  refine Gp ?_
  exact⟨_,⟨y,H1,d_,rfl,hy,rfl⟩,aR hS⟩
 ·rw[if_neg h4]
  refine Gn λw hS=>?_
  rw[s6]
  refine Cc (b66 wp m.b8 t.mark) ?_;clear hS
  rintro _ post ⟨⟨q,rfl⟩,rfl⟩ w hS
  refine Gn λw hS=>?_
  rw[hl]
  have hS:=dr.put (mp:=mp) (wp:=wp) {m with at_:=t.aI,b8:=m.b8.low t.mark} rv hr hS Xp
  exact⟨_,⟨⟨t.aI,.slice none 0 0,.slice none 0 0⟩,H,aW.le_refl H,rfl,⟨rfl,dy.nil _ _,dy.nil _ _⟩,rfl⟩,aR hS⟩
def mN(m:Int × Int):List Value:=[.int .i64 m.2,.int .i64 m.1]
theorem vy(m:Int × Int):(mN m).length=2:=rfl
theorem M0(m:Int × Int):∀v∈mN m,v.oneCell'=true:=by simp[mN,Value.oneCell']
structure Dl(d:dt)(a:Nat)(ke:Bool)(lf:Int):Prop where
 t:ke=true->d.at_=a/\d.left=lf/\a<d.l.length
 f:ke=false->d.at_=(a:Int)-1/\d.left=0/\a<=d.l.length
structure A0 where
 v:Value
 a:Nat
 ke:Bool
 lf:Int
abbrev sh(x:A0):List Value:=[x.v,.int .i64 x.a,.bool x.ke,.int .i64 x.lf]
abbrev pG(v:Value)(l:List (Int × Int)):Chunk:=.ob (a7 v 363 2 l.length (l.map mN).flatten)
def fA(p:Nat)(d:dt):zC:=jQ λx:A0=>zP (Dl d x.a x.ke x.lf) [.pt p (sh x) 289,pG x.v d.l]
theorem fA.iff{W w:World}{l:List Chunk}{p:Nat}{d:dt}:SL W (.ob (fA p d)::l) w↔∃x:A0,Dl d x.a x.ke x.lf/\SL W (.pt p (sh x) 289::pG x.v d.l::l) w:=by
 unfold fA
 simp only[SL.ex,SL.fact,List.cons_append,List.nil_append]
theorem fA.wA{W w:World}{l F:List Chunk}{p:Nat}{d:dt}(v:Value)(a:Nat)(ke:Bool)(lf:Int)(h:Dl d a ke lf)(hS:SL W l w)(k:gq [.pt p [v,.int .i64 a,.bool ke,.int .i64 lf] 289,pG v d.l] l F):SL W (.ob (fA p d)::F) w:=fA.iff.2 ⟨⟨v,a,ke,lf⟩,h,hS.pick k⟩
theorem QL:SP 116 [] [] (λv post=>∃p:Nat,v= .pointer (some ⟨p,0,none⟩)/\post=[.ob (fA p gu)]):=by
 intro W F w hS;apply bwr;delta HV ai bF;(try simp only[app]at hS)
 refine yr rfl ?_
 refine⟨_,rfl,zI hS λp w hS=>?_⟩
 have hS:SL W (pG (.slice none 0 0) []::.pt p (sh ⟨.slice none 0 0,0,false,0⟩) 289::F) w:=a7.nil hS
 exact⟨_,⟨p,rfl,rfl⟩,SL.b6 (fA.wA (d:=gu) (.slice none 0 0) 0 false 0 ⟨(λh=>by cases h),λ_=>⟨rfl,rfl,Nat.le_refl _⟩⟩ hS Xp) Xi⟩
theorem YB(b:Nat)(id:Int)(m:Int × Int):SP 357 [agg (mN m),.pointer (some ⟨b,0,none⟩)] [.pt b [.int .i64 id] 3] (dj (.bool (decide (m.1=id))) [.pt b [.int .i64 id] 3]):=by
 intro W F w hS;apply b5i;delta KN a_;(try simp only[app]at hS)
 refine zK hS λxb w hS=>?_
 unfold mN at hS
 refine Gp ?_
 (exact dq hS)
theorem ZF(p:Nat)(x:A0)(l:List (Int × Int))(id:Int)(hn:l.length<=1000):
  SP 312 [.pointer (some ⟨p,0,none⟩),.int .i64 id] [.pt p (sh x) 289,pG x.v l] (dj (.int .i64 (k9 (l.findIdx? λm=>decide (m.1=id)))) [.pt p (sh x) 289,pG x.v l]):=by
 intro W F w hS;apply bW1;delta Ky bw;(try simp only[app]at hS)
 refine⟨rfl,zI hS λb w hS=>?_⟩
 unfold sh at hS
 refine Gp ?_
 have hC:=Pj (t:=363) vy rfl (λv0 v1 w R h=>b5h v0 v1 w R h) (λm=>YB b id m) x.v l (by omega)
 simp only[List.cons_append,List.nil_append]at hC
 refine Cg (hC) λw hS=>?_
 (exact dq hS)
theorem QH(p:Nat)(d:dt)(id weight:Int)(hn:d.l.length<=1000):SP 265 [.pointer (some ⟨p,0,none⟩),.int .i64 id,.int .i64 weight] [.ob (fA p d)] (λv post=>(∃e:Int,v= .int .i64 e)/\post=[.ob (fA p (d.add id weight))]):=by
 intro W F w hS;apply bR4;delta J5 aF bw dx ai;(try simp only[app]at hS)
 have dK:∀{e:Int} {w:World},(id<1\/64<id\/weight<1\/8<weight)->SL W (.ob (fA p d)::F) w->∃post,((∃e':Int,Value.int .i64 e= .int .i64 e')/\post=[.ob (fA p (d.add id weight))])/\SL W (app post F) w:=λh hS=>by
  rw[show d.add id weight=d by unfold dt.add;rw[if_pos h]]
  exact⟨_,⟨⟨_,rfl⟩,rfl⟩,hS⟩
 refine Gp ?_
 refine za (λh=>dK (by omega) hS) (λh1=>?_)
 refine Gp ?_
 refine za (λh=>dK (by omega) hS) (λh2=>?_)
 refine Gp ?_
 refine za (λh=>dK (by omega) hS) (λh3=>?_)
 refine Gp ?_
 refine za (λh=>dK (by omega) hS) (λh4=>?_)
 clear dK
 obtain⟨x,hr,hS⟩:=fA.iff.1 hS
 refine Cg (ZF p x d.l id hn) λw hS=>?_
 have ha:d.add id weight=match nH d id with|some _=>d|none=>{d with l:=d.l++[(id,weight)]}:=by
  unfold dt.add;rw[if_neg (by omega)];rfl
 rw[ha]
 unfold nH
 cases hf:d.l.findIdx? (λm=>decide (m.1=id)) with
 | some i=>
  refine za (λ_=>?_) (λh=>by simp only[k9]at h;omega)
  exact⟨_,⟨⟨_,rfl⟩,rfl⟩,fA.iff.2 ⟨x,hr,aR hS⟩⟩
 | none=>
  refine za (λh=>by simp only[k9]at h;omega) (λ_=>?_)
  unfold sh at hS
  refine Gm λb w hS=>?_
  refine yu (n:=d.l.length) (xs:=d.l) (y:=(id,weight)) (enc:=mN) hS Xr Xh vy M0 rfl (by omega) (by omega) λv2 w hS=>?_
  have hS:=hS.oJ (x:=(id,weight))
  have o1:v2.oneCell'=true:=a7.one hS
  refine Gn λw hS=>?_
  refine⟨_,⟨⟨_,rfl⟩,rfl⟩,SL.b6 (fA.wA (d:={d with l:=d.l++[(id,weight)]}) v2 x.a x.ke x.lf ⟨λh=>?_,λh=>?_⟩ hS Xp) Xi⟩
  ·have:=hr.t h
   exact⟨this.1,this.2.1,by show x.a<(d.l++[_]).length;rw[List.length_append];omega⟩
  ·have:=hr.f h
   exact⟨this.1,this.2.1,by show x.a<=(d.l++[_]).length;rw[List.length_append];omega⟩
theorem QI(p:Nat)(d:dt)(id:Int)(hn:d.l.length<=1000):SP 264 [.pointer (some ⟨p,0,none⟩),.int .i64 id] [.ob (fA p d)] (λv post=>(∃e:Int,v= .int .i64 e)/\post=[.ob (fA p (d.del id))]):=by
 intro W F w hS;apply bR3;delta J4 aF bw dx ai;(try simp only[app]at hS)
 obtain⟨x,hr,hS⟩:=fA.iff.1 hS
 refine Cg (ZF p x d.l id hn) λw hS=>?_
 unfold dt.del nH
 cases hf:d.l.findIdx? (λm=>decide (m.1=id)) with
 | none=>
  refine za (λ_=>?_) (λh=>by simp only[k9]at h;omega)
  exact⟨_,⟨⟨_,rfl⟩,rfl⟩,fA.iff.2 ⟨x,hr,aR hS⟩⟩
 | some i=>
  have hi:i<d.l.length:=(List.findIdx?_eq_some_iff_getElem.1 hf).1
  have hxa:x.a<=d.l.length:=by
   cases ht:x.ke with
   | true=>have:=hr.t ht;omega
   | false=>exact (hr.f ht).2.2
  simp only[k9]
  refine za (λh=>by omega) (λ_=>?_)
  unfold sh at hS
  refine Gp ?_
  refine Cc (MK (sz:=2) (iC:=16) (z:=[.int .i64 0,.int .i64 0]) (zv:=.agg #[.int .i64 0,.int .i64 0]) (λv0 v1 v2 w R h=>bW2 v0 v1 v2 w R h) Tryz.underlying287 (λw=>by kernel_rfl) rfl rfl (by simp[Value.oneCell']) x.v d.l.length i (d.l.map mN).flatten hi (m_ M0 _) (by omega) (by omega)) ?_;clear hS
  rintro v post rfl w hS
  try simp only[app]at hS
  have ef:List.take (i*2) (d.l.map mN).flatten++List.drop ((i+1)*2) (d.l.map mN).flatten=((d.l.eraseIdx i).map mN).flatten:=by
   rw[od vy,nA vy,List.eraseIdx_eq_take_drop_succ];simp
  have el:d.l.length-1=(d.l.eraseIdx i).length:=by rw[List.length_eraseIdx,if_pos hi]
  rw[ef,el]at hS
  have o1:v.oneCell'=true:=a7.one hS
  refine Gn λw hS=>?_
  refine za (λh1=>?_) (λh1=>?_)
  ·refine Gn λw hS=>?_
   have hx:((x.a:Int)-1)=((x.a-1:Nat):Int):=by omega
   rw[hx]at hS
   refine⟨_,⟨⟨_,rfl⟩,rfl⟩,SL.b6 (fA.wA (d:=⟨d.l.eraseIdx i,if (i:Int)<=d.at_ then d.at_-1 else d.at_,if (i:Int)=d.at_ then 0 else d.left⟩) v (x.a-1) x.ke x.lf ⟨λh=>?_,λh=>?_⟩ hS Xp) Xi⟩
   ·obtain⟨h2,h3,h4⟩:=hr.t h
    refine⟨?_,?_,by show x.a-1<(d.l.eraseIdx i).length;omega⟩
    ·show (if (i:Int)<=d.at_ then d.at_-1 else d.at_)=_
     rw[if_pos (by omega)];omega
    ·show (if (i:Int)=d.at_ then 0 else d.left)=_
     rw[if_neg (by omega)];exact h3
   ·obtain⟨h2,h3,h4⟩:=hr.f h
    refine⟨?_,?_,by show x.a-1<=(d.l.eraseIdx i).length;omega⟩
    ·show (if (i:Int)<=d.at_ then d.at_-1 else d.at_)=_
     rw[if_pos (by omega)];omega
    ·show (if (i:Int)=d.at_ then 0 else d.left)=_
     rw[h3];simp
  ·refine bR (λh2=>?_) (λh2=>?_)
   ·refine Gn λw hS=>?_
    refine⟨_,⟨⟨_,rfl⟩,rfl⟩,SL.b6 (fA.wA (d:=⟨d.l.eraseIdx i,if (i:Int)<=d.at_ then d.at_-1 else d.at_,if (i:Int)=d.at_ then 0 else d.left⟩) v x.a false x.lf ⟨(λh=>by cases h),λ_=>?_⟩ hS Xp) Xi⟩
    cases ht:x.ke with
    | true=>
     obtain⟨h3,h4,h5⟩:=hr.t ht
     refine⟨?_,?_,by show x.a<=(d.l.eraseIdx i).length;omega⟩
     ·show (if (i:Int)<=d.at_ then d.at_-1 else d.at_)=_
      rw[if_pos (by omega)];omega
     ·show (if (i:Int)=d.at_ then 0 else d.left)=_
      rw[if_pos (by omega)]
    | false=>
     obtain⟨h3,h4,h5⟩:=hr.f ht
     refine⟨?_,?_,by show x.a<=(d.l.eraseIdx i).length;omega⟩
     ·show (if (i:Int)<=d.at_ then d.at_-1 else d.at_)=_
      rw[if_neg (by omega)];omega
     ·show (if (i:Int)=d.at_ then 0 else d.left)=_
      rw[h4];simp
   ·refine⟨_,⟨⟨_,rfl⟩,rfl⟩,SL.b6 (fA.wA (d:=⟨d.l.eraseIdx i,if (i:Int)<=d.at_ then d.at_-1 else d.at_,if (i:Int)=d.at_ then 0 else d.left⟩) v x.a x.ke x.lf ⟨λh=>?_,λh=>?_⟩ hS Xp) Xi⟩
    ·obtain⟨h3,h4,h5⟩:=hr.t h
     refine⟨?_,?_,by show x.a<(d.l.eraseIdx i).length;omega⟩
     ·show (if (i:Int)<=d.at_ then d.at_-1 else d.at_)=_
      rw[if_neg (by omega)];exact h3
     ·show (if (i:Int)=d.at_ then 0 else d.left)=_
      rw[if_neg (by omega)];exact h4
    ·obtain⟨h3,h4,h5⟩:=hr.f h
     refine⟨?_,?_,by show x.a<=(d.l.eraseIdx i).length;omega⟩
     ·show (if (i:Int)<=d.at_ then d.at_-1 else d.at_)=_
      rw[if_neg (by omega)];exact h3
     ·show (if (i:Int)=d.at_ then 0 else d.left)=_
      rw[h4];simp
theorem qB(p:Nat)(d:dt)(hd:d.Ok)(hn:d.l.length<=1000):SP 203 [.pointer (some ⟨p,0,none⟩)] [.ob (fA p d)] (λv post=>v= .tuple #[.int .i64 d.next.2,.bool (decide (d.l≠[]))]/\post=[.ob (fA p d.next.1)]):=by
 intro W F w hS;apply bIq;delta Jf aF bw a_ dx dc ai;(try simp only[app]at hS)
 have fD:=hd.vp
 have hl8:=hd.Cm
 have x8:=hd.uQ
 obtain⟨x,hr,hS⟩:=fA.iff.1 hS
 unfold sh at hS
 refine Gp ?_
 refine zr hS (v:=x.v) (t:=363) (sz:=2) (n:=d.l.length) (cells:=(d.l.map mN).flatten) Xh ?_
 refine bR (λh=>?_) (λh=>?_)
 ·have he:d.l=[]:=List.eq_nil_of_length_eq_zero (by omega)
  have e:d.next=(d,0):=by unfold dt.next;rw[if_pos he]
  rw[e,decide_eq_false (by simp[he])]
  exact⟨_,⟨rfl,rfl⟩,fA.iff.2 ⟨x,hr,aR hS⟩⟩
 have dV:d.l≠[]:=λe=>h (by rw[e];rfl)
 have fo:0<=d.place/\d.place<d.l.length:=by
  unfold dt.place
  have:=hd.neg
  have:=hd.jB
  split
  ·split<;>omega
  ·omega
 obtain⟨j,hj⟩:∃j:Nat,d.place=j:=⟨d.place.toNat,by omega⟩
 have fG:j<d.l.length:=by omega
 have mB:d.l[j]?=some d.j_:=by
  unfold dt.j_
  rw[hj,Int.toNat_natCast,List.getElem?_eq_getElem fG];rfl
 have hw:=hd.w _ (List.mem_of_getElem? mB)
 refine⟨λus w=>∃(a:Nat) (t:Bool) (lf:Int),us=[]/\((t=true/\lf=d.left/\d.left≠0/\(a:Int)=d.at_)\/(t=false/\(a:Int)=d.at_+1/\d.left=0))/\SL W (.pt p [x.v,.int .i64 a,.bool t,.int .i64 lf] 289::pG x.v d.l::F) w,?_,?_⟩
 ·refine Gp ?_
  refine y0 (λht=>?_) (λht=>?_)
  ·obtain⟨h3,h4,h5⟩:=hr.t ht
   refine bR (λh0=>?_) (λh0=>?_)
   ·refine Gn λw hS=>?_
    exact⟨x.a+1,false,x.lf,rfl,.inr ⟨rfl,by omega,by omega⟩,aR hS⟩
   ·exact⟨x.a,true,x.lf,rfl,.inl ⟨rfl,h4.symm,by omega,h3.symm⟩,by rw[<- ht];exact aR hS⟩
  ·obtain⟨h3,h4,h5⟩:=hr.f ht
   exact⟨x.a,false,x.lf,rfl,.inr ⟨rfl,by omega,h4⟩,by rw[<- ht];exact aR hS⟩
 clear hS
 rintro w ⟨a,t,lf,-,hc,hS⟩
 refine⟨λus w=>us=[]/\SL W (.pt p [x.v,.int .i64 j,.bool true,.int .i64 (if d.left=0 then d.j_.2 else d.left)] 289::pG x.v d.l::F) w,?_,?_⟩
 ·refine Gp ?_
  rcases hc with ⟨rfl,rfl,fW,jl⟩|⟨rfl,fW,jl⟩
  ·refine zq ?_
   have e:d.place=d.at_:=by unfold dt.place;rw[if_neg fW]
   have:a=j:=by omega
   subst this
   rw[if_neg fW]
   exact⟨rfl,aR hS⟩
  ·refine zw ?_
   refine⟨λus w=>us=[]/\SL W (.pt p [x.v,.int .i64 j,.bool false,.int .i64 lf] 289::pG x.v d.l::F) w,?_,?_⟩
   ·refine Gn λw hS=>?_
    refine zr hS (v:=x.v) (t:=363) (sz:=2) (n:=d.l.length) (cells:=(d.l.map mN).flatten) Xh ?_
    refine Gp ?_
    have e:d.place=if (d.l.length:Int)<=d.at_+1 then 0 else d.at_+1:=by unfold dt.place;rw[if_pos jl]
    refine za (λh0=>?_) (λh0=>?_)
    ·rw[if_pos (by omega)]at e
     have:j=0:=by omega
     subst this
     refine Gn λw hS=>?_
     have hS:SL W (.pt p [x.v,.int .i64 ((0:Nat):Int),.bool false,.int .i64 lf] 289::pG x.v d.l::F) w:=hS
     exact aR hS
    ·rw[if_neg (by omega)]at e
     have:a=j:=by omega
     subst this
     exact⟨rfl,aR hS⟩
   clear hS
   rintro w ⟨-,hS⟩
   refine Gn λw hS=>?_
   obtain⟨fa,fc,Pe,_,WE⟩:=a7.at hS (v:=x.v) (t:=363) (sz:=2) (n:=d.l.length) (cells:=(d.l.map mN).flatten) Xh
   obtain⟨fb,rfl,Wv⟩:=WE j fG
   rw[Pe]
   refine zB fG (zQ (zQ ?_))
   have gj:=Wv _ _ (nz vy d.l j 0 d.j_ (.int .i64 d.j_.2) mB rfl)
   refine⟨_,_,rfl,by rw[Nat.zero_add];exact gj,?_⟩
   refine Gn λw hS=>?_
   rw[if_pos jl,<- Pe]
   exact aR hS
 clear hS hc
 rintro w ⟨-,hS⟩
 refine Gn λw hS=>?_
 refine zD (i:=1) hS (v:=x.v) (t:=363) Xh vy mB fG (u:=.int .i64 d.j_.1) rfl ?_
 have e:d.next=(⟨d.l,d.place,(if d.left=0 then d.j_.2 else d.left)-1⟩,d.j_.1):=by unfold dt.next;rw[if_neg dV]
 rw[e,decide_eq_true dV]
 exact⟨_,⟨rfl,rfl⟩,SL.b6 (fA.wA (d:=⟨d.l,d.place,(if d.left=0 then d.j_.2 else d.left)-1⟩) x.v j true ((if d.left=0 then d.j_.2 else d.left)-1) ⟨λ_=>⟨hj,rfl,fG⟩,(λh=>by cases h)⟩ hS Xp) Xi⟩
theorem ai3(kind mark:Int):iw [.int .i64 0,.int .i64 0,.slice none 0 0,.slice none 0 0,.int .i64 0] [(0,1,.int .i64 1),(1,1,.int .i64 kind),(4,1,.int .i64 mark)]=some (eI ⟨1,kind,.slice none 0 0,.slice none 0 0,mark⟩):=by simp[iw,Value.cells,eI]
theorem Yb(sp tp dp lp:Nat)(k:du)(H:aW)(kind mark:Int){N:Nat}(hk:jz k N)(hN:N<=1000000000)(eJ:k.d.ops<=90000):
  SP 204 [dg sp,.int .i64 kind,.int .i64 mark] [.ob (dU sp tp dp lp k),.ob (b_ dp k.d),.mem H] (u_ sp tp dp lp H (k.jx kind mark)):=by
 intro W F w hS;apply bIr;delta Jg aF dc ai bF;(try simp only[app]at hS)
 have hx:gO H ⟨1,kind,.slice none 0 0,.slice none 0 0,mark⟩ ⟨1,kind,[],[],mark⟩:=⟨rfl,rfl,rfl,dy.nil _ _,dy.nil _ _⟩
 have dK:∀{w:World},¬((kind=2\/kind=3)/\eH ⟨1,kind,[],[],mark⟩=true)->SL W (.ob (dU sp tp dp lp k)::.ob (b_ dp k.d)::.mem H::F) w->∃post,u_ sp tp dp lp H (k.jx kind mark) (.tuple #[.int .i64 0,.int .i64 1]) post/\SL W (app post F) w:=λh hS=>by
  rw[show k.jx kind mark=(k,(0,1)) from if_neg h]
  exact⟨_,⟨rfl,rfl⟩,hS⟩
 refine yr (ai3 kind mark) ?_
 refine Gb λxb w hS=>?_
 have nF:∀{w:World},(kind=2\/kind=3)->SL W (.pt xb (eI ⟨1,kind,.slice none 0 0,.slice none 0 0,mark⟩) 39::.ob (dU sp tp dp lp k)::.ob (b_ dp k.d)::.mem H::F) w->zj 5 (dg xb) w λHc=>aw 61 [Hc] w λv20 AY=>Zi v20 λHd=>dO Hd (∃post,u_ sp tp dp lp H (k.jx kind mark) (.tuple #[.int .i64 0,.int .i64 1]) post/\SL W (app post F) AY)
   (zj 5 (dg xb) AY λv24=>aw 63 [dg sp,v24] AY λv25 w_4=>ze 0 v25 λv26=>ze 1 v25 λv27=>∃post,u_ sp tp dp lp H (k.jx kind mark) (.tuple #[v26,v27]) post/\SL W (app post F) w_4):=λh2 hS=>by
  refine yy hS Xh rfl ?_
  refine Cg (yq H ⟨1,kind,.slice none 0 0,.slice none 0 0,mark⟩ ⟨1,kind,[],[],mark⟩ hx) λw hS=>?_
  refine zA (λh=>dK (λx=>by rw[x.2]at h;cases h) (aR hS)) (λh=>?_)
  rw[show k.jx kind mark=k.ir ⟨1,kind,[],[],mark⟩ from if_pos ⟨h2,h⟩]
  refine yy hS Xh rfl ?_
  refine Cg (Yu sp tp dp lp k H ⟨1,kind,.slice none 0 0,.slice none 0 0,mark⟩ ⟨1,kind,[],[],mark⟩ hx h hk hN eJ) λw hS=>?_
  exact dq hS
 refine za (λh=>?_) (λh=>nF (.inl (by omega)) (aR hS))
 refine Gp ?_
 exact za (λh2=>dK (λx=>by omega) (aR hS)) (λh2=>nF (.inr (by omega)) (aR hS))
abbrev nV(v:Value)(l:List Rq):Chunk:=.ob (a7 v 125 7 l.length (l.map gX).flatten)
theorem aFf{L:List Rq}{i:Nat}(h:i<L.length):gQ (L.take (i+1))=gQ (L.take i)++(if L[i].done=false then [L[i]] else []):=by
 unfold gQ
 rw[List.take_succ_eq_append_getElem h,List.filter_append,List.filter_cons]
 cases L[i].done<;>simp
theorem Gs(L:List Rq)(i:Nat):(gQ (L.take i)).length<=L.length:=by
 have:=List.length_filter_le (λr:Rq=>!r.done) (L.take i)
 rw[List.length_take]at this
 unfold gQ;omega
theorem ZI(v:Value)(L:List Rq)(hn:L.length<=1000):SP 118 [v] [nV v L] (λu post=>post=[nV u (gQ L),nV v L]):=by
 intro W F w hS;apply bwu;delta HX aF a_ dc ai bF;(try simp only[app]at hS)
 refine zr hS (v:=v) (t:=125) (sz:=7) (n:=L.length) (cells:=(L.map gX).flatten) Xh ?_
 have hS:SL W (nV (.slice none 0 0) []::_) w:=a7.nil hS
 refine⟨λus w=>∃(i:Nat) (u:Value),us=[u,.int .i64 i]/\i<=L.length/\SL W (nV u (gQ (L.take i))::nV v L::F) w,λus _=>match us with|[_,.int _ i]=>(L.length-i).toNat|_=>0,⟨0,.slice none 0 0,rfl,by omega,hS⟩,?_⟩
 clear hS
 rintro v3 v8 w ⟨i,u,da,hi,hS⟩
 cases da
 refine bR (λh=>?_) (λh=>?_)
 ·have bW:i<L.length:=by omega
  have hx:L[i]?=some L[i]:=List.getElem?_eq_getElem bW
  have ff:=aFf bW
  have hle:=Gs L i
  refine z6 hS (v:=v) (t:=125) Xh jS hx bW ?_
  generalize L[i]=r at *
  refine Gb λxb w hS=>?_
  refine zA (λhd=>?_) (λhd=>?_)
  ·rw[if_pos hd]at ff
   refine yy hS Xh rfl ?_
   refine Gm λyb w hS=>?_
   refine yu (n:=(gQ (L.take i)).length) (xs:=gQ (L.take i)) (y:=r) (enc:=gX) hS Xr Xh jS vC rfl (by omega) (by omega) λv2 w hS=>?_
   have hS:=hS.oJ (x:=r)
   rw[<- ff]at hS
   refine Gp ?_
   exact⟨⟨i+1,v2,rfl,by omega,aR hS⟩,by dsimp only;omega⟩
  ·rw[if_neg (by simp[hd]),List.append_nil]at ff
   rw[<- ff]at hS
   refine Gp ?_
   exact⟨⟨i+1,v3,rfl,by omega,aR hS⟩,by dsimp only;omega⟩
 ·rw[List.take_of_length_le (by omega)]at hS
  exact⟨_,rfl,aR hS⟩
abbrev jc(sp mp wp gp:Nat)(n:Int):List Value:=[dg sp,dg mp,dg wp,dg gp,.int .i64 n]
theorem Ql(sp mp wp:Nat)(H:aW)(m:dD)(n:Int):SP 41 [dg sp,dg mp,.int .i64 n] [.ob (dr mp wp H m)] (λv post=>(¬(1<=n/\n<=64)/\v= .tuple #[.pointer none,.int .i64 1]/\post=[.ob (dr mp wp H m)]) \/
  ((1<=n/\n<=64)/\∃pp gp:Nat,v= .tuple #[dg pp,.int .i64 0]/\post=[.pt pp (jc sp mp wp gp n) 201,.ob (fA gp gu),.ob (dr mp wp H m)])):=by
 intro W F w hS;apply b5p;delta KV aF df ai dk;(try simp only[app]at hS)
 refine Gp ?_
 refine za (λh=>⟨_,.inl ⟨by omega,rfl,rfl⟩,hS⟩) (λh1=>?_)
 refine Gp ?_
 refine za (λh=>⟨_,.inl ⟨by omega,rfl,rfl⟩,hS⟩) (λh2=>?_)
 obtain⟨rv,hr,hS⟩:=dr.iff.1 hS
 refine Gp ?_
 refine Z8 (vs:=[dg wp]) hS Xh rfl (λj v e=>by
  match j,e with
  | 0,e=>exact e) ?_
 refine Cg (Zv wp) λw hS=>?_
 refine Cc (QL) ?_;clear hS
 rintro _ post ⟨gp,rfl,rfl⟩ w hS
 (try simp only[app]at hS);refine Gp ?_
 refine⟨_,rfl,zI hS λpp w hS=>?_⟩
 have hS:=dr.put m rv hr hS Xp
 exact⟨_,.inr ⟨by omega,pp,gp,rfl,rfl⟩,aR hS⟩
theorem yh(sp mp wp pp gp:Nat)(n:Int)(H:aW)(m:dD)(hn:m.reqs.length<=1000):SP 43 [dg pp] [.pt pp (jc sp mp wp gp n) 201,.ob (dr mp wp H m),.mem H] (dj (.bool (lj m)) [.pt pp (jc sp mp wp gp n) 201,.ob (dr mp wp H m),.mem H]):=by
 intro W F w hS;apply b5r;delta KX aF bw b7 ai;(try simp only[app]at hS)
 unfold lj
 refine Gp ?_
 obtain⟨rv,hr,hS⟩:=dr.iff.1 (SL.b6 hS (t:=.ob (dr mp wp H m)::.pt pp (jc sp mp wp gp n) 201::.mem H::F) Xi)
 refine Cg (ZL wp m.b8) λw hS=>?_
 have hS:=dr.put m rv hr hS Xp
 refine za (λh=>?_) (λh1=>?_)
 ·rw[decide_eq_true (.inl h)]
  exact dq hS
 refine bR (λh=>?_) (λh2=>?_)
 ·rw[decide_eq_true (.inr (.inl h))]
  exact dq hS
 refine bR (λh3=>?_) (λh3=>?_)
 ·refine Gp ?_
  refine Cc (yE mp wp H m hn) ?_;clear hS
  rintro u post rfl w hS
  try simp only[app]at hS
  refine Cc (ZI u m.reqs hn) ?_;clear hS
  rintro u2 post rfl w hS
  try simp only[app]at hS
  refine zr hS (v:=u2) (t:=125) (sz:=7) (n:=(gQ m.reqs).length) (cells:=((gQ m.reqs).map gX).flatten) Xh ?_
  refine Gp ?_
  have e:decide (m.b8.state=1\/m.b8.state=2\/m.b8.state=0/\gQ m.reqs≠[])=decide ((0:Int)<((gQ m.reqs).length:Int)):=by
   rw[decide_eq_decide]
   constructor
   ·rintro (h|h|h)
    ·exact absurd h h1
    ·exact absurd h h2
    ·have:=List.length_pos_iff.2 h.2;omega
   ·intro h
    exact .inr (.inr ⟨h3,λe=>by rw[e]at h;simp at h⟩)
  rw[e]
  exact dq hS
 ·rw[decide_eq_false (λh=>h.elim h1 (λh=>h.elim h2 (λh=>h3 h.1)))]
  exact dq hS
theorem UN(d:dt)(id:Int):(d.del id).l.length<=d.l.length:=by
 unfold dt.del
 split
 ·exact Nat.le_refl _
 ·exact List.length_eraseIdx_le ..
theorem UM(d:dt)(id w:Int):(d.add id w).l.length<=d.l.length+1:=by
 unfold dt.add
 split
 ·omega
 ·split
  ·omega
  ·simp
theorem Bo:∀(L:List Rq) (d:dt),(L.foldl (λd r=>d.del r.id) d).l.length<=d.l.length
 | [],d=>Nat.le_refl _
 | r::L,d=>Nat.le_trans (Bo L (d.del r.id)) (UN d r.id)
theorem Dw:∀(L:List Rq) (d:dt),(L.foldl (λd r=>d.add r.id r.weight) d).l.length<=d.l.length+L.length
 | [],d=>Nat.le_refl _
 | r::L,d=>by
  have h1:=Dw L (d.add r.id r.weight)
  have h2:=UM d r.id r.weight
  rw[List.foldl_cons,List.length_cons];omega
theorem U3{L:List Rq}{i:Nat}(h:i<L.length):(L.take (i+1)).filter (·.done)=(L.take i).filter (·.done)++(if L[i].done=true then [L[i]] else []):=by
 rw[List.take_succ_eq_append_getElem h,List.filter_append,List.filter_cons]
 cases L[i].done<;>simp
theorem Qm(sp mp wp pp gp:Nat)(n:Int)(H:aW)(m:dD)(d:dt)(hn:m.reqs.length<=64)(hd:d.l.length<=500):SP 202 [dg pp] [.pt pp (jc sp mp wp gp n) 201,.ob (fA gp d),.ob (dr mp wp H m),.mem H] (λv post=>post=[.pt pp (jc sp mp wp gp n) 201,.ob (fA gp (fY d m.reqs)),.ob (dr mp wp H m),.mem H]):=by
 intro W F w hS;apply bIp;delta Je aF bw a_ ai;(try simp only[app]at hS)
 refine Gp ?_
 refine Cc (yE mp wp H m (by omega)) ?_;clear hS
 rintro u post rfl w hS
 try simp only[app]at hS
 refine zr hS (v:=u) (t:=125) (sz:=7) (n:=m.reqs.length) (cells:=(m.reqs.map gX).flatten) Xh ?_
 refine⟨λus w=>∃i:Nat,us=[.int .i64 i]/\i<=m.reqs.length/\SL W (.ob (fA gp (((m.reqs.take i).filter (·.done)).foldl (λd r=>d.del r.id) d))::nV u m.reqs::.ob (dr mp wp H m)::.mem H::.pt pp (jc sp mp wp gp n) 201::F) w,λus _=>match us with|[.int _ i]=>(m.reqs.length-i).toNat|_=>0,⟨0,rfl,by omega,SL.b6 hS (t:=.ob (fA gp d)::nV u m.reqs::.ob (dr mp wp H m)::.mem H::.pt pp (jc sp mp wp gp n) 201::F) Xi⟩,?_⟩
 clear hS
 rintro lu w ⟨i,da,hi,hS⟩
 cases da
 refine bR (λh=>?_) (λh=>?_)
 ·have bW:i<m.reqs.length:=by omega
  have hx:m.reqs[i]?=some m.reqs[i]:=List.getElem?_eq_getElem bW
  have ff:=U3 bW
  have hle:=Bo ((m.reqs.take i).filter (·.done)) d
  refine z6 hS (v:=u) (t:=125) Xh jS hx bW ?_
  generalize m.reqs[i]=r at *
  refine Gb λxb w hS=>?_
  refine y0 (λhq=>?_) (λhq=>?_)
  ·rw[if_pos hq]at ff
   refine Gn λw hS=>?_
   refine Cc (QI gp (((m.reqs.take i).filter (·.done)).foldl (λd r=>d.del r.id) d) r.id (by omega)) ?_;clear hS
   rintro _ post ⟨⟨e,rfl⟩,rfl⟩ w hS
   (try simp only[app]at hS);refine Gp ?_
   refine⟨⟨i+1,rfl,by omega,?_⟩,by dsimp only;omega⟩
   rw[ff,List.foldl_append]
   exact SL.b6 hS (t:=.ob (fA gp ((((m.reqs.take i).filter (·.done)).foldl (λd r=>d.del r.id) d).del r.id))::nV u m.reqs::.ob (dr mp wp H m)::.mem H::.pt pp (jc sp mp wp gp n) 201::F) Xi
  ·rw[if_neg (by simp[hq]),List.append_nil]at ff
   rw[<- ff]at hS
   refine Gp ?_
   exact⟨⟨i+1,rfl,by omega,aR hS⟩,by dsimp only;omega⟩
 rw[List.take_of_length_le (by omega)]at hS
 have k8:fY d m.reqs=(gQ m.reqs).foldl (λd r=>d.add r.id r.weight) ((m.reqs.filter (·.done)).foldl (λd r=>d.del r.id) d):=rfl
 have p7:=Bo (m.reqs.filter (·.done)) d
 rw[k8]
 generalize (m.reqs.filter (·.done)).foldl (λd r=>d.del r.id) d=d1 at *
 refine Gp ?_
 refine Cc (yE mp wp H m (by omega)) ?_;clear hS
 rintro u1 post rfl w hS
 try simp only[app]at hS
 refine Cc (ZI u1 m.reqs (by omega)) ?_;clear hS
 rintro u2 post rfl w hS
 try simp only[app]at hS
 have Fv:(gQ m.reqs).length<=64:=by
  have:=Gs m.reqs m.reqs.length
  rw[List.take_length]at this;omega
 generalize gQ m.reqs=L at *
 refine zr hS (v:=u2) (t:=125) (sz:=7) (n:=L.length) (cells:=(L.map gX).flatten) Xh ?_
 refine⟨λus w=>∃i:Nat,us=[.int .i64 i]/\i<=L.length/\SL W (.ob (fA gp ((L.take i).foldl (λd r=>d.add r.id r.weight) d1))::nV u2 L::.ob (dr mp wp H m)::.mem H::.pt pp (jc sp mp wp gp n) 201::F) w,λus _=>match us with|[.int _ i]=>(L.length-i).toNat|_=>0,⟨0,rfl,by omega,SL.b6 hS (t:=.ob (fA gp d1)::nV u2 L::.ob (dr mp wp H m)::.mem H::.pt pp (jc sp mp wp gp n) 201::F) Xi⟩,?_⟩
 clear hS
 rintro v33 w ⟨i,da,hi,hS⟩
 cases da
 refine bR (λh=>?_) (λh=>?_)
 ·have bW:i<L.length:=by omega
  have hx:L[i]?=some L[i]:=List.getElem?_eq_getElem bW
  have gK:L.take (i+1)=L.take i++[L[i]]:=List.take_succ_eq_append_getElem bW
  have hle:=Dw (L.take i) d1
  rw[List.length_take]at hle
  refine z6 hS (v:=u2) (t:=125) Xh jS hx bW ?_
  generalize L[i]=r at *
  refine Gb λxb w hS=>?_
  refine Cc (QH gp ((L.take i).foldl (λd r=>d.add r.id r.weight) d1) r.id r.weight (by omega)) ?_;clear hS
  rintro _ post ⟨⟨e,rfl⟩,rfl⟩ w hS
  (try simp only[app]at hS);refine Gp ?_
  refine⟨⟨i+1,rfl,by omega,?_⟩,by dsimp only;omega⟩
  rw[gK,List.foldl_append]
  exact SL.b6 hS (t:=.ob (fA gp (((L.take i).foldl (λd r=>d.add r.id r.weight) d1).add r.id r.weight))::nV u2 L::.ob (dr mp wp H m)::.mem H::.pt pp (jc sp mp wp gp n) 201::F) Xi
 ·rw[List.take_of_length_le (by omega)]at hS
  exact⟨_,rfl,aR hS⟩
structure dA.Ok(p:dA):Prop where
 m:p.m.Ok
 d:p.d.Ok
 dl:p.d.l.length<=64
 src:∃N,jz p.k N/\N<=900000000
 n:1<=p.n/\p.n<=64
 row:(fY p.d p.m.reqs).Ok
 id : -9223372036854775808<=p.m.b8.id/\p.m.b8.id<=9223372036854775807
abbrev A6(sp tp dp lp mp wp pp gp:Nat)(H:aW)(p:dA):List Chunk:=[.pt pp (jc sp mp wp gp p.n) 201,.ob (fA gp p.d),.ob (dr mp wp H p.m),.ob (dU sp tp dp lp p.k),.ob (b_ dp p.k.d),.mem H]
def A7(sp tp dp lp mp wp pp gp:Nat)(H:aW)(y:dA × (Int × Int))(v:Value)(post:List Chunk):Prop:=∃H',H.le H'/\v= .tuple #[.int .i64 y.2.1,.int .i64 y.2.2]/\post=A6 sp tp dp lp mp wp pp gp H' y.1
theorem Qk(sp tp dp lp mp wp pp gp:Nat)(H:aW)(p:dA)(hp:p.Ok)(eJ:p.k.d.ops<=90000):SP 122 [dg pp] (A6 sp tp dp lp mp wp pp gp H p) (A7 sp tp dp lp mp wp pp gp H p.uS):=by
 intro W F w hS;apply bwz;delta Ia aF bw a_ dc ai;(try simp only[app]at hS)
 obtain⟨N,hk,hN⟩:=hp.src
 have B6:=hp.m.reqs.1
 have p7:=hp.dl
 have k8:=hp.row
 have ET:=rS hk.g.ok.bI
 have xP:=hk.g.hd
 refine Cc (Qm sp mp wp pp gp p.n H p.m p.d B6 (by omega)) ?_;clear hS
 rintro _ post rfl w hS
 (try simp only[app]at hS);refine Gp ?_
 have B7:(fY p.d p.m.reqs).l.length<=1000:=by
  have h1:=Dw (gQ p.m.reqs) ((p.m.reqs.filter (·.done)).foldl (λd r=>d.del r.id) p.d)
  have h2:=Bo (p.m.reqs.filter (·.done)) p.d
  have h3:=Gs p.m.reqs p.m.reqs.length
  rw[List.take_length]at h3
  unfold fY;omega
 unfold dA.uS
 generalize hx:fY p.d p.m.reqs=d1 at *
 refine Cc (qB gp d1 k8 B7) ?_;clear hS
 rintro _ post ⟨rfl,rfl⟩ w hS
 (try simp only[app]at hS);refine Gp ?_
 refine Cc (yE mp wp H p.m (by omega)) ?_;clear hS
 rintro u post rfl w hS
 try simp only[app]at hS
 have eN:∀{w:World},tz p.m.reqs d1.next.2=none->SL W (.pt pp (jc sp mp wp gp p.n) 201::.ob (fA gp d1.next.1)::.ob (dr mp wp H p.m)::.ob (dU sp tp dp lp p.k)::.ob (b_ dp p.k.d)::.mem H::F) w->∃post,A7 sp tp dp lp mp wp pp gp H (p.rh d1.next) (.tuple #[.int .i64 0,.int .i64 0]) post/\SL W (app post F) w:=λe hS=>by
  rw[show p.rh d1.next=({p with d:=d1.next.1},(0,0)) by unfold dA.rh;rw[e]]
  exact⟨_,⟨H,aW.le_refl H,rfl,rfl⟩,hS⟩
 refine Gp ?_
 refine zA (λhq=>?_) (λhq=>?_)
 ·refine eN ?_ (aR hS)
  have he:d1.l=[]:=Decidable.of_not_not (of_decide_eq_false hq)
  unfold dt.next tz
  rw[if_pos he];rfl
 have dV:d1.l≠[]:=of_decide_eq_true hq
 refine zr hS (v:=u) (t:=125) (sz:=7) (n:=p.m.reqs.length) (cells:=(p.m.reqs.map gX).flatten) Xh ?_
 refine Gp ?_
 have hid:1<=d1.next.2:=by
  unfold dt.next
  rw[if_neg dV]
  have fo:0<=d1.place/\d1.place<d1.l.length:=by
   have:=k8.neg
   have:=k8.jB
   have:=k8.vp
   have:0<d1.l.length:=List.length_pos_iff.2 dV
   unfold dt.place
   split
   ·split<;>omega
   ·omega
  have hm:d1.j_∈d1.l:=by
   unfold dt.j_
   rw[List.getElem?_eq_getElem (show d1.place.toNat<d1.l.length by omega)]
   exact List.getElem_mem _
  exact (k8.w _ hm).1
 refine za (λh=>eN (by unfold tz;rw[if_neg (by omega),List.getElem?_eq_none (by omega)]) (aR hS)) (λh=>?_)
 clear eN
 obtain⟨j,hj⟩:∃j:Nat,d1.next.2=(j:Int)+1:=⟨(d1.next.2-1).toNat,by omega⟩
 have fG:j<p.m.reqs.length:=by omega
 have Fx:tz p.m.reqs d1.next.2=some p.m.reqs[j]:=by
  unfold tz
  rw[if_neg (by omega),hj,show ((j:Int)+1-1).toNat=j by omega,List.getElem?_eq_getElem fG]
 rw[show p.rh d1.next=({p with d:=d1.next.1}:dA).tc p.m.reqs[j] by unfold dA.rh;rw[Fx]]
 unfold dA.tc
 clear Fx
 rw[hj]
 generalize d1.next.1=d2 at hS ⊢
 refine Gp ?_
 refine Cg (yl sp tp dp lp p.k hk.g (by omega)) λw hS=>?_
 refine Cc (Yb sp tp dp lp p.k H 2 (b9 p.k.g.bI+1) hk (by omega) eJ) ?_;clear hS
 rintro _ post ⟨rfl,rfl⟩ w hS
 (try simp only[app]at hS);refine Gp ?_
 generalize p.k.jx 2 (b9 p.k.g.bI+1)=y at hS ⊢
 obtain⟨k',a,e⟩:=y
 simp only at hS ⊢
 refine za (λhe=>?_) (λhe=>?_)
 ·rw[if_pos he]
  exact⟨_,⟨H,aW.le_refl H,rfl,rfl⟩,aR hS⟩
 rw[if_neg he]
 refine Gp ?_
 rw[show ((j:Int)+1-1)=(j:Int) by omega]
 refine z6 hS (v:=u) (t:=125) Xh jS (List.getElem?_eq_getElem fG) fG ?_
 generalize p.m.reqs[j]=r
 refine Gb λxb w hS=>?_
 obtain⟨rv,hr,hS⟩:=dr.iff.1 (SL.b6 hS (t:=.ob (dr mp wp H p.m)::.pt pp (jc sp mp wp gp p.n) 201::.ob (fA gp d2)::.ob (dU sp tp dp lp k')::.ob (b_ dp k'.d)::.mem H::F) Xi)
 refine Cc (Qs wp p.m.b8 (b9 p.k.g.bI+1) r.id r.table r.dL) ?_;clear hS
 rintro _ post ⟨⟨q,rfl⟩,rfl⟩ w hS
 try simp only[app]at hS
 have hS:=dr.put (mp:=mp) {p.m with b8:=p.m.b8.l9 (b9 p.k.g.bI+1) r.id r.table r.dL} rv hr hS Xp
 exact⟨_,⟨H,aW.le_refl H,rfl,rfl⟩,aR hS⟩
theorem qu(sp tp dp lp mp wp pp gp:Nat)(H:aW)(p:dA)(hp:p.Ok)(eJ:p.k.d.ops<=90000):SP 125 [dg pp] (A6 sp tp dp lp mp wp pp gp H p) (A7 sp tp dp lp mp wp pp gp H p.ux):=by
 intro W F w hS;apply bw2;delta Ie aF bw cF df ai;(try simp only[app]at hS)
 obtain⟨N,hk,hN⟩:=hp.src
 refine Gn λw hS=>?_
 obtain⟨rv,hr,hS⟩:=dr.iff.1 (SL.b6 hS (t:=.ob (dr mp wp H p.m)::.pt pp (jc sp mp wp gp p.n) 201::.ob (fA gp p.d)::.ob (dU sp tp dp lp p.k)::.ob (b_ dp p.k.d)::.mem H::F) Xi)
 refine Cg (Qr wp p.m.b8) λw hS=>?_
 unfold dA.ux
 refine Cc (Yb sp tp dp lp p.k H 3 p.m.b8.mark hk (by omega) eJ) ?_;clear hS
 rintro _ post ⟨rfl,rfl⟩ w hS
 (try simp only[app]at hS);refine Gp ?_
 generalize p.k.jx 3 p.m.b8.mark=y at hS ⊢
 obtain⟨k',a,e⟩:=y
 simp only at hS ⊢
 refine za (λhe=>?_) (λhe=>?_)
 ·rw[if_pos he]
  have hS:=dr.put (mp:=mp) p.m rv hr hS Xp
  exact⟨_,⟨H,aW.le_refl H,rfl,rfl⟩,aR hS⟩
 rw[if_neg he]
 refine Gp ?_
 refine Cc (Qt wp p.m.b8) ?_;clear hS
 rintro _ post ⟨⟨q,rfl⟩,rfl⟩ w hS
 try simp only[app]at hS
 have hS:=dr.put (mp:=mp) {p.m with b8:=p.m.b8.shut} rv hr hS Xp
 exact⟨_,⟨H,aW.le_refl H,rfl,rfl⟩,aR hS⟩
theorem yt(sp tp dp lp mp wp pp gp:Nat)(H:aW)(p:dA)(hp:p.Ok)(eJ:p.k.d.ops<=90000):SP 46 [dg pp] (A6 sp tp dp lp mp wp pp gp H p) (A7 sp tp dp lp mp wp pp gp H p.step):=by
 intro W F w hS;apply b5u;delta K0 aF bw cF df dc ai;(try simp only[app]at hS)
 obtain⟨N,hk,hN⟩:=hp.src
 have B6:=hp.m.reqs.1
 have b8s:=hp.n
 unfold dA.step
 refine Cg (yh sp mp wp pp gp p.n H p.m (by omega)) λw hS=>?_
 refine zA (λhq=>?_) (λhq=>?_)
 ·rw[if_pos hq]
  exact⟨_,⟨H,aW.le_refl H,rfl,rfl⟩,aR hS⟩
 rw[if_neg (by simp[hq])]
 obtain⟨rv,hr,hS⟩:=dr.iff.1 (SL.b6 hS (t:=.ob (dr mp wp H p.m)::.pt pp (jc sp mp wp gp p.n) 201::.ob (fA gp p.d)::.ob (dU sp tp dp lp p.k)::.ob (b_ dp p.k.d)::.mem H::F) Xi)
 refine Gp ?_
 refine Cg (ZL wp p.m.b8) λw hS=>?_
 refine za (λh0=>?_) (λh0=>?_)
 ·rw[if_pos h0]
  have hS:=dr.put (mp:=mp) p.m rv hr hS Xp
  refine Cc (Qk sp tp dp lp mp wp pp gp H p hp eJ) ?_;clear hS
  rintro _ post ⟨H1,d_,rfl,rfl⟩ w hS
  (try simp only[app]at hS);refine Gp ?_
  exact⟨_,⟨H1,d_,rfl,rfl⟩,aR hS⟩
 rw[if_neg h0]
 refine bR (λh1=>?_) (λh1=>?_)
 ·rw[if_pos h1]
  refine Gn λw hS=>?_
  refine Cg (ZM wp p.m.b8) λw hS=>?_
  refine Cg (qw wp p.m.b8) λw hS=>?_
  refine Cc (qt sp tp dp lp p.k p.m.b8.table p.m.b8.after p.n (λC hC=>by have:=hk.len C hC;omega) (λC hC=>(hk.rows C hC).sorted) (by omega) (by omega)) ?_;clear hS
  rintro u post rfl w hS
  try simp only[app]at hS
  obtain⟨H1,d_,hR,hS⟩:=zE (H:=H) (v:=u) hS Xp
  have gj:(p.k.oS p.m.b8.table p.m.b8.after p.n).length<=64:=by
   unfold du.oS iu
   rw[List.length_take];omega
  generalize p.k.oS p.m.b8.table p.m.b8.after p.n=C at hR gj ⊢
  refine Gp ?_
  refine Cc (Qq wp p.m.b8 H1 u C hR (by omega)) ?_;clear hS
  rintro _ post ⟨⟨q,rfl⟩,rfl⟩ w hS
  try simp only[app]at hS
  have hS:=dr.put (mp:=mp) {p.m with b8:=p.m.b8.fill C} rv (hr.mono d_) hS Xp
  exact⟨_,⟨H1,d_,rfl,rfl⟩,aR hS⟩
 ·rw[if_neg h1]
  have hS:=dr.put (mp:=mp) p.m rv hr hS Xp
  refine Cc (qu sp tp dp lp mp wp pp gp H p hp eJ) ?_;clear hS
  rintro _ post ⟨H1,d_,rfl,rfl⟩ w hS
  (try simp only[app]at hS);refine Gp ?_
  exact⟨_,⟨H1,d_,rfl,rfl⟩,aR hS⟩
abbrev vk(H:aW)(v:Value)(l:List Int):Prop:=dy H 1 v l.length (l.map (Value.int .i64))
def lU(p:Nat)(H:aW)(d:dt):zC:=jQ λx:Value × Value=>zP (vk H x.1 (d.l.map Prod.fst)/\vk H x.2 (d.l.map Prod.snd)) [.pt p [x.1,x.2,.int .i64 d.at_,.int .i64 d.left] 349]
section
variable {W w:World} {l F:List Chunk} {p:Nat} {H H':aW}
theorem lU.iff{d:dt}:SL W (.ob (lU p H d)::l) w↔∃x:Value × Value,(vk H x.1 (d.l.map Prod.fst)/\vk H x.2 (d.l.map Prod.snd))/\SL W (.pt p [x.1,x.2,.int .i64 d.at_,.int .i64 d.left] 349::l) w:=by
 unfold lU
 simp only[SL.ex,SL.fact,List.cons_append,List.nil_append]
theorem lU.put(d:dt)(u v:Value)(h1:vk H u (d.l.map Prod.fst))(h2:vk H v (d.l.map Prod.snd))(hS:SL W l w)(k:gB (.pt p [u,v,.int .i64 d.at_,.int .i64 d.left] 349) l F):SL W (.ob (lU p H d)::F) w:=lU.iff.2 ⟨(u,v),⟨h1,h2⟩,hS.perm k.perm⟩
theorem lU.gC{d:dt}(hh:H.le H')(hS:SL W l w)(r:gB (.ob (lU p H d)) l F):SL W (.ob (lU p H' d)::F) w:=by
 obtain⟨x,⟨h1,h2⟩,h3⟩:=lU.iff.1 (hS.perm r.perm)
 exact lU.iff.2 ⟨x,⟨h1.mono hh,h2.mono hh⟩,h3⟩
end
theorem qR(H:aW):SP 196 [] [] (λv post=>∃p:Nat,v=dg p/\post=[.ob (lU p H gu)]):=by
 intro W F w hS;apply bIj;delta I' ai bF;(try simp only[app]at hS)
 refine yr rfl ?_
 refine⟨_,rfl,zI hS λp w hS=>?_⟩
 exact⟨_,⟨p,rfl,rfl⟩,SL.b6 (lU.put (H:=H) gu (.slice none 0 0) (.slice none 0 0) (dy.nil _ _) (dy.nil _ _) hS Xr) Xi⟩
section
variable {W w:World} {l F:List Chunk} {H:aW}
end
abbrev GP(k:dQ)(rv:Value):List Value:=[.int .i64 k.n,.int .i64 k.state,.int .i64 k.id,.int .i64 k.table,.int .i64 k.mark,.int .i64 k.after,.int .i64 k.dL,.bool k.last,rv]
abbrev Dk(H:aW)(v:Value)(C:List Row):Prop:=dy H 2 v C.length (C.map dX).flatten
def lW(wp:Nat)(H:aW)(k:dQ):zC:=jQ λrv:Value=>zP (Dk H rv k.rows) [.pt wp (GP k rv) 214]
section
variable {W w:World} {l F:List Chunk} {wp:Nat} {H H':aW} {k:dQ}
theorem lW.iff:SL W (.ob (lW wp H k)::l) w↔∃rv,Dk H rv k.rows/\SL W (.pt wp (GP k rv) 214::l) w:=by
 unfold lW
 simp only[SL.ex,SL.fact,List.cons_append,List.nil_append]
theorem lW.put(k:dQ)(rv:Value)(h:Dk H rv k.rows)(hS:SL W l w)(p:gB (.pt wp (GP k rv) 214) l F):SL W (.ob (lW wp H k)::F) w:=lW.iff.2 ⟨rv,h,hS.perm p.perm⟩
theorem lW.gC(hh:H.le H')(hS:SL W l w)(r:gB (.ob (lW wp H k)) l F):SL W (.ob (lW wp H' k)::F) w:=by
 obtain⟨rv,h1,h2⟩:=lW.iff.1 (hS.perm r.perm)
 exact lW.iff.2 ⟨rv,h1.mono hh,h2⟩
end
section
variable (wp:Nat) (k:dQ) (H:aW)
end
abbrev GJ(m:dD)(wp:Nat)(rv:Value):List Value:=[.int .i64 m.tables,.int .i64 m.late,.int .i64 m.at_,rv,dg wp]
def lV(mp wp:Nat)(H:aW)(m:dD):zC:=jQ λrv:Value=>zP (kz H rv m.reqs) [.pt mp (GJ m wp rv) 212,.ob (lW wp H m.b8)]
section
variable {W w:World} {l F:List Chunk} {mp wp:Nat} {H H':aW}
theorem lV.iff{m:dD}:SL W (.ob (lV mp wp H m)::l) w↔∃rv,kz H rv m.reqs/\SL W (.pt mp (GJ m wp rv) 212::.ob (lW wp H m.b8)::l) w:=by
 unfold lV
 simp only[SL.ex,SL.fact,List.cons_append,List.nil_append]
theorem lV.put(m:dD)(rv:Value)(hr:kz H rv m.reqs)(hS:SL W l w)(p:gq [.pt mp (GJ m wp rv) 212,.ob (lW wp H m.b8)] l F):SL W (.ob (lV mp wp H m)::F) w:=lV.iff.2 ⟨rv,hr,hS.pick p⟩
theorem lV.gC{m:dD}(hh:H.le H')(hS:SL W l w)(r:gB (.ob (lV mp wp H m)) l F):SL W (.ob (lV mp wp H' m)::F) w:=by
 obtain⟨rv,h1,h2⟩:=lV.iff.1 (hS.perm r.perm)
 have h3:=lW.gC hh h2 (.tl .hd)
 exact lV.iff.2 ⟨rv,h1.mono hh,h3.perm (.swap _ _ _)⟩
end
theorem qW(H:aW)(tables late chunk aI:Int)(v:Value)(L:List Rq)(hv:kz H v L)(hn:L.length<=1000):
  SP 114 [.int .i64 tables,.int .i64 late,.int .i64 chunk,.int .i64 aI,v] [.mem H] (λu post=>(oD tables late chunk aI L/\u= .pointer none/\post=[.mem H])\/(¬oD tables late chunk aI L/\∃(mp wp:Nat) (H':aW),H.le H'/\u=dg mp/\post=[.ob (lV mp wp H' ⟨tables,late,aI,L,gl chunk⟩),.mem H'])):=by
 intro W F w hS;apply bwp;delta HT aF a_ dc ai dk bF;(try simp only[app]at hS)
 have dK:∀{w:World},oD tables late chunk aI L->SL W (.mem H::F) w->∃post,((oD tables late chunk aI L/\(Value.pointer none)= .pointer none/\post=[.mem H])\/(¬oD tables late chunk aI L/\∃(mp wp:Nat) (H':aW),H.le H'/\(Value.pointer none)=dg mp/\post=[.ob (lV mp wp H' ⟨tables,late,aI,L,gl chunk⟩),.mem H']))/\SL W (app post F) w:=λh hS=>⟨_,.inl ⟨h,rfl,rfl⟩,hS⟩
 refine Gp ?_
 refine za (λh=>dK (.inl h) hS) (λh1=>?_)
 refine Gp ?_
 refine za (λh=>dK (.inr (.inl h)) hS) (λh2=>?_)
 refine Gp ?_
 refine za (λh=>dK (.inr (.inr (.inl h))) hS) (λh3=>?_)
 obtain⟨n,rfl⟩:∃n:Nat,tables=n:=⟨tables.toNat,by omega⟩
 have Xc:(2:Int) ^ n<=256:=by
  have:n<=8:=by omega
  match n,this with
  | 0,_=>decide
  | 1,_=>decide
  | 2,_=>decide
  | 3,_=>decide
  | 4,_=>decide
  | 5,_=>decide
  | 6,_=>decide
  | 7,_=>decide
  | 8,_=>decide
 have uI:(0:Int)<2 ^ n:=Int.pow_pos (by decide)
 refine aWg (by omega) ?_
 refine Sg (by omega) (by omega) ?_
 rw[Int.one_mul]
 refine Gp ?_
 refine za (λh=>dK (.inr (.inr (.inr (.inl (by rw[Int.toNat_natCast];exact h))))) hS) (λh4=>?_)
 refine Gp ?_
 refine za (λh=>dK (.inr (.inr (.inr (.inr (.inr (.inr (.inl h))))))) hS) (λh5=>?_)
 refine Gp ?_
 refine za (λh=>dK (.inr (.inr (.inr (.inr (.inr (.inr (.inr (.inl h)))))))) hS) (λh6=>?_)
 refine Gp ?_
 refine za (λh=>dK (.inr (.inr (.inr (.inr (.inl h))))) hS) (λh7=>?_)
 refine Gp ?_
 refine za (λh=>dK (.inr (.inr (.inr (.inr (.inr (.inl h)))))) hS) (λh8=>?_)
 refine Cc (YD H v L hv (by omega)) ?_;clear hS
 rintro _ post ⟨q,rfl,hq,rfl⟩ w hS
 (try simp only[app]at hS);refine Gp ?_
 refine zA (λhe=>dK (.inr (.inr (.inr (.inr (.inr (.inr (.inr (.inr (.inl λh=>by rw[hq.2 h]at he;cases he))))))))) hS) (λhe=>?_)
 have hm:=hq.1 he
 refine⟨λus w=>∃i:Nat,us=[.int .i64 i]/\i<=L.length/\(∀j (h:j<L.length),j<i->L[j].table<(n:Int)/\L[j].at_<=aI)/\SL W (.mem H::F) w,λus _=>match us with|[.int _ i]=>(L.length-i).toNat|_=>0,⟨0,rfl,by omega,λj h hj=>by omega,hS⟩,?_⟩
 clear hS
 rintro v11 w ⟨i,da,hi,dY,hS⟩
 cases da
 refine zm hv ?_
 refine bR (λh=>?_) (λh=>?_)
 ·have bW:i<L.length:=by omega
  have hx:L[i]?=some L[i]:=List.getElem?_eq_getElem bW
  have OU:=List.getElem_mem bW
  refine zJ hS Xh jS hv hx bW (i:=1) rfl ?_
  refine Gp ?_
  refine za (λh=>dK (.inr (.inr (.inr (.inr (.inr (.inr (.inr (.inr (.inr ⟨_,OU,.inl h⟩))))))))) hS) (λh9=>?_)
  refine zJ hS Xh jS hv hx bW (i:=3) rfl ?_
  refine Gp ?_
  refine za (λh=>dK (.inr (.inr (.inr (.inr (.inr (.inr (.inr (.inr (.inr ⟨_,OU,.inr h⟩))))))))) hS) (λoe=>?_)
  refine Gp ?_
  refine⟨⟨i+1,rfl,by omega,λj hj gZ=>?_,hS⟩,by dsimp only;omega⟩
  rcases Nat.lt_or_ge j i with xu|xu
  ·exact dY j hj xu
  ·obtain rfl:j=i:=by omega
   exact⟨by omega,by omega⟩
 ·clear dK
  refine Gb λb w hS=>?_
  have hS:SL W (.ob (a7 (.slice (some ⟨b,0,none⟩) 0 0) 125 7 0 [])::_) w:=a7.full (n:=0) (sz:=7) (cells:=[]) rfl hS
  refine zx (n:=0) (m:=L.length) hS Xr (nQ hS Xh hv) (jF jS L) rfl (m_ vC L) (by omega) (by omega) λu w hS=>?_
  rw[List.nil_append,Nat.zero_add]at hS
  obtain⟨H1,d_,hR,hS⟩:=zE (H:=H) (v:=u) hS Xp
  have hu:u.oneCell'=true:=hR.one
  refine Gp ?_
  refine⟨_,rfl,zI hS λwp w hS=>?_⟩
  refine yr (cells:=[.int .i64 n,.int .i64 late,.int .i64 aI,u,dg wp]) (by simp[iw,show ∀n,(Value.int .i64 n).cells = #[.int .i64 n] from λ_=>rfl,show (Value.pointer (some ⟨wp,0,none⟩)).cells = #[dg wp] from rfl,si hu]) ?_
  refine⟨_,rfl,zI hS λmp w hS=>?_⟩
  have b5:¬oD n late chunk aI L:=by
   rintro (h|h|h|h|h|h|h|h|h|⟨r,hr,h⟩)
   ·exact h1 h
   ·exact h2 h
   ·exact h3 h
   ·rw[Int.toNat_natCast]at h;exact h4 h
   ·exact h7 h
   ·exact h8 h
   ·exact h5 h
   ·exact h6 h
   ·exact h hm
   ·obtain⟨j,hj,rfl⟩:=List.getElem_of_mem hr
    have:=dY j hj (by omega);omega
  have hS:=lW.put (wp:=wp) (H:=H1) (gl chunk) (.slice none 0 0) (dy.nil _ _) hS Xr
  have hS:=lV.put (wp:=wp) ⟨n,late,aI,L,gl chunk⟩ u hR hS Xp
  exact⟨_,.inr ⟨b5,mp,wp,H1,d_,rfl,rfl⟩,aR hS⟩
theorem UW{b:List UInt8}{l:List dH}(h:h_ b= .ok l)(h2:¬((kN ⟨l,false⟩).2.bad=false/\(kN ⟨l,false⟩).2.l=[]/\eH (kN ⟨l,false⟩).1=true)):iU b= .error 3:=by
 unfold iU;rw[h];simp only;rw[<- ME];unfold Bn;simp only;rw[if_neg h2]
theorem UU{b:List UInt8}{l:List dH}(h:h_ b= .ok l)(h2:(kN ⟨l,false⟩).2.bad=false/\(kN ⟨l,false⟩).2.l=[]/\eH (kN ⟨l,false⟩).1=true):iU b= .ok (kN ⟨l,false⟩).1:=by
 unfold iU;rw[h];simp only;rw[<- ME];unfold Bn;simp only;rw[if_pos h2]
structure Dp(l:List dH)(aI kind mark:Int)(r3:cw):Prop where
 aI:(kN ⟨l,false⟩).1.aI=aI
 kind:(kN ⟨l,false⟩).1.kind=kind
 mark:(kN ⟨l,false⟩).1.mark=mark
 ch:(kN ⟨l,false⟩).1.changes=(eE jr (dv 16 r3).1.toNat (dv 16 r3).2).1
 sg:∀r4,(eE jr (dv 16 r3).1.toNat (dv 16 r3).2).2=r4->(kN ⟨l,false⟩).1.signals=(eE eQ (dv 2 r4).1.toNat (dv 2 r4).2).1/\(kN ⟨l,false⟩).2=(eE eQ (dv 2 r4).1.toNat (dv 2 r4).2).2
theorem Dp.is(l:List dH):Dp l (dv 1099511627776 ⟨l,false⟩).1 (dv 3 (dv 1099511627776 ⟨l,false⟩).2).1 (dv 1099511627776 (dv 3 (dv 1099511627776 ⟨l,false⟩).2).2).1 (dv 1099511627776 (dv 3 (dv 1099511627776 ⟨l,false⟩).2).2).2:=⟨rfl,rfl,rfl,rfl,λr4 h=>by subst h;exact⟨rfl,rfl⟩⟩
theorem q7(X:Chunk)(H:aW)(v:Value)(bs:List UInt8)(hv:dN X v bs)(hN:bs.length<=140737488355328):SP 180 [v] [X,.mem H] (nS X H bs):=by
 intro W F w hS;apply bF7;delta IY aF bw cF dc ai c_ bF;(try simp only[app]at hS)
 refine Gb λzb w hS=>?_
 refine Cc (yN X v bs hv hN) ?_;clear hS
 rintro r post hq w hS
 unfold nk at hq
 cases hd:h_ bs with
 | error e=>
  rw[hd]at hq
  obtain⟨rfl,rfl⟩:=hq
  have he:=Bl hd
  (try simp only[app]at hS);refine Gp ?_
  refine za (λ_=>?_) (λh=>absurd he h)
  refine Gn λw hS=>?_
  exact⟨[X,.mem H],by unfold nS;rw[MF hd];exact⟨he,H,aW.le_refl H,rfl,rfl⟩,aR hS⟩
 | ok l=>
  rw[hd]at hq
  obtain⟨lv,rfl,rfl⟩:=hq
  try simp only[app]at hS
  refine Gp ?_
  refine za (λh=>absurd rfl h) (λ_=>?_)
  obtain⟨la,lc,rfl,_⟩:=a7.at hS (v:=lv) .hd
  refine Gp ?_
  refine zK hS λrp w hS=>?_
  have hS:=(fU.iff (r:=⟨l,false⟩)).2 ⟨_,l,0,⟨Nat.zero_le _,My hd,rfl⟩,hS⟩
  refine Cc (zN rp ⟨l,false⟩ 1099511627776) ?_;clear hS
  rintro v1 post ⟨rfl,rfl⟩ w hS
  try simp only[app]at hS
  refine Gp ?_
  refine Gb λxb w hS=>?_
  refine Cc (zN rp _ 3) ?_;clear hS
  rintro v1 post ⟨rfl,rfl⟩ w hS
  refine Gn λw hS=>?_
  refine Cc (zN rp _ 1099511627776) ?_;clear hS
  rintro v1 post ⟨rfl,rfl⟩ w hS
  refine Gn λw hS=>?_
  have hI:=Dp.is l
  generalize (dv 1099511627776 (dv 3 (dv 1099511627776 ⟨l,false⟩).2).2).1=mark at *
  generalize (dv 1099511627776 (dv 3 (dv 1099511627776 ⟨l,false⟩).2).2).2=r3 at *
  generalize (dv 3 (dv 1099511627776 ⟨l,false⟩).2).1=kind at *
  generalize (dv 1099511627776 ⟨l,false⟩).1=aI at *
  have z':=Ci (m:=16) (by decide) r3
  have hS:SL W (pE (.slice none 0 0) []::_) _:=a7.nil hS
  have hS:SL W (pI (.slice none 0 0) []::_) _:=a7.nil hS
  refine Cc (zN rp r3 16) ?_;clear hS
  rintro v1 post ⟨rfl,rfl⟩ w hS
  try simp only[app]at hS
  refine⟨λus w=>us=[]/\∃cv,SL W (pE cv (eE jr (dv 16 r3).1.toNat (dv 16 r3).2).1::.ob (fU rp (eE jr (dv 16 r3).1.toNat (dv 16 r3).2).2)::pI (.slice none 0 0) []::.pt xb [.int .i64 aI,.int .i64 kind,cv,.slice none 0 0,.int .i64 mark] 39::sH zb::X::.mem H::F) w,?_,?_⟩
  ·generalize (dv 16 r3).1=n1 at *
   generalize (dv 16 r3).2=r2 at *
   refine⟨λus w=>∃(i k:Nat) (gH:List dW) (r:cw) (cv:Value),us=[.int .i64 i]/\n1=((i+k:Nat):Int)/\kf jr n1.toNat r2 gH k r/\SL W (pE cv gH::.ob (fU rp r)::pI (.slice none 0 0) []::.pt xb [.int .i64 aI,.int .i64 kind,cv,.slice none 0 0,.int .i64 mark] 39::sH zb::X::.mem H::F) w,
    λus _=>match us with|[.int _ i]=>(n1-i).toNat|_=>0,⟨0,n1.toNat,[],r2,.slice none 0 0,rfl,by omega,kf.start _ _ _,aR hS⟩,?_⟩
   clear hS
   rintro v8 w ⟨i,k,gH,r,cv,da,hn,hM,hS⟩
   cases da
   have hle:=hM.le
   refine bR (λh=>?_) (λh=>?_)
   ·refine Gp ?_
    refine fU.Bg (r:=r) (Has.front hS Xr) ?_
    refine Gp ?_
    refine zA (λhb=>?_) (λhb=>?_)
    ·obtain⟨k,rfl⟩:∃j,k=j+1:=⟨k-1,by omega⟩
     have hM:=hM.step hb
     refine Gn λw hS=>?_
     refine Cg (Q3 rp r) λw hS=>?_;refine Gm λb w hS=>?_
     refine yu (n:=gH.length) (xs:=gH) (y:=(jr r).1) (enc:=gi) hS Xr Xh kh (λx=>MX x) rfl (by omega) (by omega) λu w hS=>?_
     have h1:=a7.one hS
     refine Gn λw hS=>?_
     refine⟨⟨i+1,k,_,_,u,rfl,by omega,hM,?_⟩,by dsimp only;omega⟩
     have hS:=hS.oJ (x:=(jr r).1)
     exact aR hS
    ·refine⟨rfl,cv,?_⟩
     rw[hM.stop (.inr hb)];exact aR hS
   ·refine⟨rfl,cv,?_⟩
    rw[hM.stop (.inl (by omega))];exact aR hS
  ·clear hS
   rintro w ⟨_,cv,hS⟩
   have jV:=hI.ch
   obtain⟨vY,dE⟩:=hI.sg _ rfl
   generalize (eE jr (dv 16 r3).1.toNat (dv 16 r3).2).1=gH at *
   generalize (eE jr (dv 16 r3).1.toNat (dv 16 r3).2).2=r4 at *
   have Fl:=Ci (m:=2) (by decide) r4
   refine Cc (zN rp r4 2) ?_;clear hS
   rintro v1 post ⟨rfl,rfl⟩ w hS
   try simp only[app]at hS
   refine⟨λus w=>us=[]/\∃sv,SL W (pI sv (eE eQ (dv 2 r4).1.toNat (dv 2 r4).2).1::.ob (fU rp (eE eQ (dv 2 r4).1.toNat (dv 2 r4).2).2)::pE cv gH::.pt xb [.int .i64 aI,.int .i64 kind,cv,sv,.int .i64 mark] 39::sH zb::X::.mem H::F) w,?_,?_⟩
   ·generalize (dv 2 r4).1=n1 at *
    generalize (dv 2 r4).2=r2 at *
    refine⟨λus w=>∃(i k:Nat) (nP:List ByteArray) (r:cw) (sv:Value),us=[.int .i64 i]/\n1=((i+k:Nat):Int)/\kf eQ n1.toNat r2 nP k r/\SL W (pI sv nP::.ob (fU rp r)::pE cv gH::.pt xb [.int .i64 aI,.int .i64 kind,cv,sv,.int .i64 mark] 39::sH zb::X::.mem H::F) w,
     λus _=>match us with|[.int _ i]=>(n1-i).toNat|_=>0,⟨0,n1.toNat,[],r2,.slice none 0 0,rfl,by omega,kf.start _ _ _,aR hS⟩,?_⟩
    clear hS
    rintro v8 w ⟨i,k,nP,r,sv,da,hn,hM,hS⟩
    cases da
    have hle:=hM.le
    refine bR (λh=>?_) (λh=>?_)
    ·refine Gp ?_
     refine fU.Bg (r:=r) (Has.front hS Xr) ?_
     refine Gp ?_
     refine zA (λhb=>?_) (λhb=>?_)
     ·obtain⟨k,rfl⟩:∃j,k=j+1:=⟨k-1,by omega⟩
      have hM:=hM.step hb
      refine Gn λw hS=>?_
      refine Cg (yY rp r) λw hS=>?_;refine Gm λb w hS=>?_
      refine yu (n:=nP.length) (xs:=nP) (y:=(eQ r).1) (enc:=λs=>[Value.string s]) hS Xr Xh (λ_=>rfl) (by simp[Value.oneCell']) rfl (by omega) (by omega) λu w hS=>?_
      have h1:=a7.one hS
      refine Gn λw hS=>?_
      refine⟨⟨i+1,k,_,_,u,rfl,by omega,hM,?_⟩,by dsimp only;omega⟩
      have hS:=hS.oJ (x:=(eQ r).1)
      exact aR hS
     ·refine⟨rfl,sv,?_⟩
      rw[hM.stop (.inr hb)];exact aR hS
    ·refine⟨rfl,sv,?_⟩
     rw[hM.stop (.inl (by omega))];exact aR hS
   ·clear hS
    rintro w ⟨_,sv,hS⟩
    generalize (eE eQ (dv 2 r4).1.toNat (dv 2 r4).2).1=nP at *
    generalize (eE eQ (dv 2 r4).1.toNat (dv 2 r4).2).2=r at *
    have j8:=hI.aI
    have E9:=hI.kind
    have Fg:=hI.mark
    clear hI
    generalize ht:(kN ⟨l,false⟩).1=t at *
    generalize hr:(kN ⟨l,false⟩).2=r' at *
    subst dE jV vY
    obtain⟨H1,d_,hO,hS⟩:=a7.freeze (SL.b6 hS (t:=.mem H::pE cv t.changes::pI sv t.signals::.ob (fU rp r')::.pt xb [.int .i64 aI,.int .i64 kind,cv,sv,.int .i64 mark] 39::sH zb::X::F) Xi)
    obtain⟨H2,eh,xB,hS⟩:=a7.freeze hS
    rw[SG]at xB
    have hx:gO H2 ⟨aI,kind,cv,sv,mark⟩ t:=⟨j8.symm,E9.symm,Fg.symm,hO.mono eh,xB⟩
    have gv:=aW.le_trans d_ eh
    have fW:=hO.one
    have jl:=xB.one
    refine Cg (Ys rp r') λw hS=>?_
    have eN:¬(r'.bad=false/\r'.l=[]/\eH t=true)->∀{w:World},SL W (X::.mem H2::F) w->∃post,nS X H bs (.tuple #[agg (eI ry),.int .i64 3]) post/\SL W (app post F) w:=λh w hS=>⟨[X,.mem H2],by unfold nS;rw[UW hd (by rw[ht,hr];exact h)];exact⟨by decide,H2,gv,rfl,rfl⟩,hS⟩
    refine zA (λhb=>?_) (λhb=>?_)
    ·have hb:=of_decide_eq_false hb
     refine Gn λw hS=>?_
     exact eN (λh=>hb ⟨h.1,h.2.1⟩) (aR hS)
    ·have hb:=of_decide_eq_true hb
     refine Gp ?_
     refine Cg (yX H2 ⟨aI,kind,cv,sv,mark⟩ t hx) λw hS=>?_
     refine zA (λhm=>?_) (λhm=>?_)
     ·refine Gn λw hS=>?_
      exact eN (λh=>by rw[h.2.2]at hm;cases hm) (aR hS)
     ·refine Gp ?_
      refine zz (vs:=eI ⟨aI,kind,cv,sv,mark⟩) hS Xu rfl rfl (mo fW jl) λw hS=>?_
      refine Gp ?_
      exact⟨[X,.mem H2],by unfold nS;rw[UU hd (by rw[ht,hr];exact⟨hb.1,hb.2,hm⟩),ht];exact⟨⟨aI,kind,cv,sv,mark⟩,H2,gv,rfl,hx,rfl⟩,aR hS⟩
theorem SL.aij{W w:World}{l:List Chunk}{H:aW}{b:Nat}{cs:List Value}{t:TypeId}(h:SL W (.mem H::.pt b cs t::l) w):∃H',H.le H'/\(∀o v,cs[o]?=some v->H'.cell b o=some v)/\SL W (.mem H'::l) w/\∀{W':World} {l':List Chunk} {w':World},SL W' (.mem H'::l') w'->SL W' (.mem H::.pt b cs t::l') w':=by
 obtain⟨a1,a2,a3,k,⟨h1,h2,s,e1,h3,h4,s',⟨f,hf,e3⟩,r⟩,m⟩:=h
 have e1:h1=H:=e1
 subst e1 e3
 obtain⟨k',x,y⟩:=s.join s'
 refine⟨k',λb o e=>y.left b o e,λo v e=>?_,⟨a1,a2,a3,k,⟨k',h4,x,rfl,r⟩,m⟩,?_⟩
 ·have:k' b=some (.cells cs.toArray t f):=y.right b _ (by simp[aW.one])
  simp[aW.cell,this,e]
 ·rintro W' l' w' ⟨c1,c2,c3,kk,⟨q1,q2,sq,e4,rq⟩,mq⟩
  have e4:q1=k':=e4
  subst e4
  obtain⟨j,u,v⟩:=sq.assoc y
  exact⟨c1,c2,c3,kk,⟨_,j,u,rfl,_,q2,v,⟨f,hf,rfl⟩,rq⟩,mq⟩
theorem aW0{W w:World}{l F:List Chunk}{H:aW}{v:Value}{t:TypeId}{sz n:Nat}{cells:List Value}(hS:SL W l w)(hp:gq [.mem H,.ob (a7 v t sz n cells)] l F):
  ∃H',H.le H'/\dy H' sz v n cells/\SL W (.mem H'::F) w/\∀{W':World} {l':List Chunk} {w':World},SL W' (.mem H'::l') w'->SL W' (.mem H::.ob (a7 v t sz n cells)::l') w':=by
 have h:=hS.pick hp
 rcases a7.open (h.perm (.swap _ _ _)) with ⟨⟨a,rfl⟩,rfl,rfl,hS⟩|⟨b,cap,rest,rfl,hc,hlen,jW,hS⟩
 ·exact⟨H,aW.le_refl H,⟨by simp,a,0,rfl,Nat.le_refl _,.inl rfl⟩,hS,λh2=>(a7.nK h2).perm (.swap _ _ _)⟩
 ·obtain⟨H',h1,h2,h3,h4⟩:=SL.aij (hS.perm (.swap _ _ _))
  refine⟨H',h1,⟨hlen,_,cap,rfl,hc,.inr ⟨b,0,rfl,λj u hu=>?_⟩⟩,h3,λh5=>?_⟩
  ·rw[Nat.zero_add]
   refine h2 j u ?_
   rw[List.getElem?_append_left (List.getElem?_eq_some_iff.1 hu).1];exact hu
  ·exact (a7.mk hc hlen jW ((h4 h5).perm (.swap _ _ _))).perm (.swap _ _ _)
theorem Zo(H:aW)(v:Value)(aI:Int)(ts:List (List Row))(hv:nU H v ts)(hn:ts.length<=140737488351232)(hc:∀C∈ts,C.length<=140737488351232):SP 91 [.int .i64 aI,v] [.mem H] (dj (.bool (g8 aI ts)) [.mem H]):=by
 intro W F w hS;apply b6r;delta Lw aF a_ b7 ai;(try simp only[app]at hS)
 have hF:∀{w:World},¬(0<=aI/\aI<=1099511627776/\1<=ts.length/\ts.length<=8)->SL W (.mem H::F) w->∃post,dj (.bool (g8 aI ts)) [.mem H] (.bool false) post/\SL W (app post F) w:=λeN hS=>⟨_,⟨by unfold g8;rw[decide_eq_false eN];rfl,rfl⟩,hS⟩
 refine Gp ?_
 refine za (λh=>hF (by omega) hS) (λh1=>?_)
 refine Gp ?_
 refine za (λh=>hF (by omega) hS) (λh2=>?_)
 refine yo hv ?_
 refine Gp ?_
 refine za (λh=>hF (by omega) hS) (λh3=>?_)
 refine yo hv ?_
 refine Gp ?_
 refine za (λh=>hF (by omega) hS) (λh4=>?_)
 have hM:g8 aI ts=ts.all jZ:=by unfold g8;rw[decide_eq_true (show 0<=aI/\aI<=1099511627776/\1<=ts.length/\ts.length<=8 by omega)];rfl
 refine⟨λus w=>∃i:Nat,us=[.int .i64 i]/\i<=ts.length/\(∀j (h:j<ts.length),j<i->jZ ts[j]=true)/\SL W (.mem H::F) w,λus _=>match us with|[.int _ i]=>(ts.length-i).toNat|_=>0,⟨0,rfl,by omega,λj h hj=>by omega,hS⟩,?_⟩
 clear hS
 rintro v5 w ⟨i,da,hi,dY,hS⟩
 cases da
 refine yo hv ?_
 refine bR (λh=>?_) (λh=>?_)
 ·have bW:i<ts.length:=by omega
  refine YN hS Xh hv bW λcv kX=>?_
  have sV:=hc _ (List.getElem_mem bW)
  have eN:∀{w:World},jZ ts[i]=false->SL W (.mem H::F) w->∃post,dj (.bool (g8 aI ts)) [.mem H] (.bool false) post/\SL W (app post F) w:=λhb hS=>
   ⟨_,⟨by rw[hM,show ts.all jZ=false from List.all_eq_false.2 ⟨_,List.getElem_mem bW,by rw[hb];decide⟩],rfl⟩,hS⟩
  have XK:jZ ts[i]=true->∀j (h:j<ts.length),j<i+1->jZ ts[j]=true:=λhb j hj gZ=>by
   by_cases e:j=i
   ·subst e;exact hb
   ·exact dY j hj (by omega)
  generalize ts[i]=C at *
  refine zm kX ?_
  refine Gp ?_
  refine za (λh5=>eN (by unfold jZ;rw[decide_eq_false (show ¬C.length<=1000 by omega),Bool.and_false]) hS) (λh5=>?_)
  refine⟨λus w=>∃(j:Nat) (k:Int),us=[.int .i64 j]/\j<=C.length/\0<=k/\(∀(h:0<j) (h2:j<=C.length),k=(C[j-1]'(by omega)).key)/\(j=0->k=0)/\nO 0 C=nO k (C.drop j)/\SL W (.mem H::F) w,
   λus _=>match us with|[.int _ i]=>(C.length-i).toNat|_=>0,⟨0,0,rfl,by omega,Int.le_refl _,λh=>absurd h (by decide),λ_=>rfl,rfl,hS⟩,?_⟩
  clear hS
  rintro v7 w ⟨j,k,da,hj,B1,xY,WT,hr,hS⟩
  cases da
  refine zm kX ?_
  refine bR (λh=>?_) (λh=>?_)
  ·have fG:j<C.length:=by omega
   rw[List.drop_eq_getElem_cons fG,nO]at hr
   have hx:C[j]?=some C[j]:=List.getElem?_eq_getElem fG
   have BI:∀{w:World},¬(k<C[j].key/\C[j].key<=1099511627776/\C[j].val.size<=32)->SL W (.mem H::F) w->∃post,dj (.bool (g8 aI ts)) [.mem H] (.bool false) post/\SL W (app post F) w:=λhn hS=>
    eN (by unfold jZ;rw[hr,decide_eq_false hn];rfl) hS
   have mX:∀{w:World},(k<C[j].key/\C[j].key<=1099511627776/\C[j].val.size<=32)->SL W (.mem H::F) w->∃(j':Nat) (k':Int),[Value.int .i64 ((j+1:Nat):Int)]=[.int .i64 j']/\j'<=C.length/\0<=k'/\(∀(h:0<j') (h2:j'<=C.length),k'=(C[j'-1]'(by omega)).key)/\(j'=0->k'=0)/\nO 0 C=nO k' (C.drop j')/\SL W (.mem H::F) w:=λhn hS=>
    ⟨j+1,C[j].key,rfl,by omega,by omega,λ_ _=>rfl,λh=>by omega,by rw[hr,decide_eq_true hn];rfl,hS⟩
   refine Gn λw hS=>?_
   refine zJ hS Xh fQ kX hx fG (i:=0) rfl ?_
   refine Gp ?_
   refine za (λh=>BI (by omega) hS) (λh6=>?_)
   refine zJ hS Xh fQ kX hx fG (i:=0) rfl ?_
   refine Gp ?_
   refine za (λh=>BI (by omega) hS) (λh7=>?_)
   refine zJ hS Xh fQ kX hx fG (i:=1) rfl ?_
   refine Gp ?_
   refine za (λh=>BI (by omega) hS) (λh8=>?_)
   refine bR (λh9=>?_) (λh9=>?_)
   ·have OJ:j-1<C.length:=by omega
    have hp:=xY (by omega) hj
    refine zJ hS Xh fQ kX hx fG (i:=0) rfl ?_
    refine Gp ?_
    rw[show ((j:Nat):Int)-1=((j-1:Nat):Int) by omega]
    refine zJ hS Xh fQ kX (x:=C[j-1]) (List.getElem?_eq_getElem OJ) OJ (i:=0) rfl ?_
    refine Gp ?_
    refine za (λh=>BI (by omega) hS) (λoe=>?_)
    refine Gp ?_
    exact⟨mX (by omega) (aR hS),by dsimp only;omega⟩
   ·have hp:=WT (by omega)
    refine Gp ?_
    exact⟨mX (by omega) (aR hS),by dsimp only;omega⟩
  ·have WS:j=C.length:=by omega
   subst WS
   rw[List.drop_length]at hr
   refine Gp ?_
   exact⟨⟨i+1,rfl,by omega,XK (by unfold jZ;rw[hr,decide_eq_true (show C.length<=1000 by omega)];rfl),aR hS⟩,by dsimp only;omega⟩
 ·refine⟨_,⟨?_,rfl⟩,hS⟩
  rw[hM,show ts.all jZ=true from List.all_eq_true.2 λC hC=>by
   obtain⟨j,hj,rfl⟩:=List.getElem_of_mem hC
   exact dY j hj (by omega)]
theorem Vo{aI:Int}{ts:List (List Row)}{i:Nat}{C:List Row}{j:Nat}(h:j<C.length):oa aI ts i C (j+1)=oa aI ts i C j++[iF C[j].key,tF C[j].val]:=by
 rw[Vn h,List.append_assoc];rfl
theorem b9v(H:aW)(v:Value)(aI:Int)(ts:List (List Row))(hv:nU H v ts)(hn:ts.length<=140737488351232)(hc:∀C∈ts,C.length<=140737488351232):SP 32 [.int .i64 aI,v] [.mem H] (C9 H aI ts):=by
 intro W F w hS;apply bW3;delta Kz aF a_ cF dc ai c_ bF;(try simp only[app]at hS)
 refine Cg (Zo H v aI ts hv hn hc) λw hS=>?_
 refine zA (λh=>?_) (λhm=>?_)
 ·exact⟨[.mem H],by unfold C9 D_;rw[if_neg (by rw[h];decide)];exact⟨rfl,rfl⟩,aR hS⟩
 obtain⟨hb,hT⟩:=pA.1 hm
 have EK:∀C∈ts,C.length<=1000:=λC hC=>(hT C hC).len
 have h8:ts.length*2001<=8*2001:=Nat.mul_le_mul_right _ (by omega)
 obtain⟨vs,kj,jL⟩:=id hv
 refine Cg (zL aI) λw hS=>?_
 refine yo hv ?_
 refine Cg (zL ts.length) λw hS=>?_
 refine zy hS (Nj (iF aI) (iF ts.length)) λb w hS=>?_
 have hS:=a7.full (n:=2) (sz:=3) rfl hS
 have hS:SL W (jd _ (oX aI ts 0)::_) _:=hS
 refine⟨λus w=>∃(i:Nat) (u:Value),us=[u,.int .i64 i]/\i<=ts.length/\SL W (jd u (oX aI ts i)::.mem H::F) w,λus _=>match us with|[_,.int _ i]=>(ts.length-i).toNat|_=>0,⟨0,_,rfl,by omega,aR hS⟩,?_⟩
 clear hS
 rintro u v7 w ⟨i,_,da,hi,hS⟩
 cases da
 have pW:=Na (aI:=aI) EK i
 refine yo hv ?_
 refine bR (λh=>?_) (λh=>?_)
 ·have bW:i<ts.length:=by omega
  have hs:=Vl (aI:=aI) bW
  have sV:=EK _ (List.getElem_mem bW)
  have OF:i<vs.length:=by rw[jL.1];exact bW
  have hu:vs[i]?=some vs[i]:=List.getElem?_eq_getElem OF
  have kX:=jL.2 i _ _ hu (List.getElem?_eq_getElem bW)
  generalize vs[i]=cv at *
  generalize ts[i]=C at *
  refine yH hS Xh kj bW hu ?_
  refine zm kX ?_
  refine Cg (zL C.length) λw hS=>?_;refine Gm λb w hS=>?_
  refine yB (L:=oX aI ts i) (M:=[iF C.length]) hS Xr (AQ hS Xh) (by simp;omega) λu3 w hS=>?_
  have hS:SL W (jd u3 (oa aI ts i C 0)::_) _:=hS
  refine⟨λus w=>∃(j:Nat) (u:Value),us=[u,.int .i64 j]/\j<=C.length/\SL W (jd u (oa aI ts i C j)::.mem H::F) w,λus _=>match us with|[_,.int _ i]=>(C.length-i).toNat|_=>0,⟨0,_,rfl,by omega,aR hS⟩,?_⟩
  clear hS
  rintro u v8 w ⟨j,_,da,hj,hS⟩
  cases da
  have BG:=Vm (aI:=aI) EK i sV j
  refine yH hS Xh kj bW hu ?_
  refine zm kX ?_
  refine bR (λh=>?_) (λh=>?_)
  ·have fG:j<C.length:=by omega
   have Ag:=Vo (aI:=aI) (ts:=ts) (i:=i) fG
   have hx:C[j]?=some C[j]:=List.getElem?_eq_getElem fG
   generalize C[j]=r at *
   obtain⟨rk,rv⟩:=r
   refine Gn λw hS=>?_
   refine yH hS Xh kj bW hu ?_
   refine zJ hS Xh fQ kX hx fG (i:=0) rfl ?_
   refine ZC kj bW λb1 o1 rP=>?_
   have fW:=rP 0 cv (by omega) (by simpa using hu)
   refine ZJ hS Xh fW ?_
   refine ZC kX fG λb2 o2 kW=>zQ ?_
   have jl:=kW 1 (.string rv) (by omega) (nz fQ C j 1 _ _ hx rfl)
   refine ZJ hS Xh jl ?_
   refine Cg (zL rk) λw hS=>?_
   refine ZJ hS Xh fW (YO ?_)
   refine ZJ hS Xh jl (YO ?_)
   refine Cg (y9 rv) λw hS=>?_
   refine zy hS (Nj (iF rk) (tF rv)) λb w hS=>?_
   refine yB (L:=oa aI ts i C j) (M:=[iF rk,tF rv]) hS Xr (iP (m:=2) (sz:=3) (cap:=2) hS Xh rfl) (by simp;omega) λu5 w hS=>?_
   refine Gp ?_
   refine⟨⟨j+1,_,rfl,by omega,?_⟩,by dsimp only;omega⟩
   rw[Ag]
   exact aR hS
  ·obtain rfl:j=C.length:=by omega
   refine Gp ?_
   refine⟨⟨i+1,_,rfl,by omega,?_⟩,by dsimp only;omega⟩
   rw[hs]
   exact aR hS
 ·obtain rfl:i=ts.length:=by omega
  rw[Vk]at hS pW
  refine Cc (yO (jd u (lD aI ts)) u (lD aI ts) mI.own (by omega)) ?_;clear hS
  rintro r post hq w hS
  try simp only[app]at hS
  have he:=(Pm hm).1
  have hl:=Pk hm
  unfold nm at hq
  rw[he]at hq
  obtain⟨bv,rfl,rfl⟩:=hq
  (try simp only[app]at hS);refine Gp ?_
  refine Cc (ZB _ bv (sd aI ts) dN.own (by omega)) ?_;clear hS
  rintro r post hq w hS
  try simp only[app]at hS
  unfold nq at hq
  rw[if_neg (by omega)]at hq
  obtain⟨ov,rfl,rfl⟩:=hq
  (try simp only[app]at hS);refine Gp ?_
  exact⟨_,by unfold C9 D_;rw[if_pos hm];exact⟨ov,rfl,rfl⟩,aR hS⟩
def sE(X:Chunk)(H:aW)(b:List UInt8)(u:Value)(post:List Chunk):Prop:=match iD b with
 | none=>u= .tuple #[.int .i64 0,.slice none 0 0,.int .i64 3]/\∃H',H.le H'/\post=[X,.mem H']
 | some x=>∃v vs H',H.le H'/\jo H' vs x.2/\u= .tuple #[.int .i64 x.1,v,.int .i64 0]/\post=[.ob (a7 v 53 1 x.2.length vs),X,.mem H']
theorem Po{l:List dH}(h:¬((k_ ⟨l,false⟩).2.bad=false/\(k_ ⟨l,false⟩).2.l=[]/\g8 (k_ ⟨l,false⟩).1.1 (k_ ⟨l,false⟩).1.2=true)):nI l=none:=by
 rw[<- Pn];unfold Ch;simp only;rw[if_neg h]
theorem XX{l:List dH}(h:(k_ ⟨l,false⟩).2.bad=false/\(k_ ⟨l,false⟩).2.l=[]/\g8 (k_ ⟨l,false⟩).1.1 (k_ ⟨l,false⟩).1.2=true):nI l=some (k_ ⟨l,false⟩).1:=by
 rw[<- Pn];unfold Ch;simp only;rw[if_pos h]
structure C_(l:List dH)(aI:Int)(r1:cw):Prop where
 aI:(k_ ⟨l,false⟩).1.1=aI
 ts:(k_ ⟨l,false⟩).1.2=(eE ng (dv 8 r1).1.toNat (dv 8 r1).2).1
 rd:(k_ ⟨l,false⟩).2=(eE ng (dv 8 r1).1.toNat (dv 8 r1).2).2
theorem C_.is(l:List dH):C_ l (dv 1099511627776 ⟨l,false⟩).1 (dv 1099511627776 ⟨l,false⟩).2:=⟨rfl,rfl,rfl⟩
theorem a_i(r:cw):ng r=eE pC (dv 1000 r).1.toNat (dv 1000 r).2:=rfl
theorem qi(X:Chunk)(H:aW)(v:Value)(bs:List UInt8)(hv:dN X v bs)(hN:bs.length<=140737488355328):SP 178 [v] [X,.mem H] (sE X H bs):=by
 intro W F w hS;apply bF4;delta IU aF bw dc ai c_ bF;(try simp only[app]at hS)
 have eN:iD bs=none->∀{w:World} {H':aW},H.le H'->SL W (X::.mem H'::F) w->∃post,sE X H bs (.tuple #[.int .i64 0,.slice none 0 0,.int .i64 3]) post/\SL W (app post F) w:=λh w H' hh hS=>⟨[X,.mem H'],by unfold sE;rw[h];exact⟨rfl,H',hh,rfl⟩,hS⟩
 refine Cc (Z6 X v bs hv hN) ?_;clear hS
 rintro r post hq w hS
 unfold nX at hq
 cases ht:gN bs with
 | error e=>
  rw[ht]at hq
  obtain⟨rfl,rfl⟩:=hq
  have hd:iD bs=none:=by unfold iD;rw[ht]
  have he:e≠0:=by have:=CX ht;omega
  (try simp only[app]at hS);refine Gp ?_
  exact za (λ_=>eN hd (aW.le_refl H) (aR hS)) (λh=>absurd he h)
 | ok pn=>
  obtain⟨p,n⟩:=pn
  rw[ht]at hq
  obtain⟨pv,rfl,rfl⟩:=hq
  (try simp only[app]at hS);refine Gp ?_
  refine za (λh=>absurd rfl h) (λ_=>?_)
  refine zH hS Xh hv ?_
  refine bR (λh=>?_) (λh=>?_)
  ·have hd:iD bs=none:=by unfold iD;rw[ht];simp only;rw[if_neg (by omega)]
   exact eN hd (aW.le_refl H) (aR hS)
  have uF:n=bs.length:=by omega
  have fo:p.length<=140737488355328:=by have:=u0 ht;omega
  refine Cc (yN _ pv p dN.own fo) ?_;clear hS
  rintro r post hq w hS
  unfold nk at hq
  cases hd:h_ p with
  | error e=>
   rw[hd]at hq
   obtain⟨rfl,rfl⟩:=hq
   have he:=Bl hd
   have hd:iD bs=none:=by unfold iD;rw[ht];simp only;rw[if_pos uF,hd]
   (try simp only[app]at hS);refine Gp ?_
   exact za (λ_=>eN hd (aW.le_refl H) (aR hS)) (λh=>absurd he h)
  | ok l=>
   rw[hd]at hq
   obtain⟨lv,rfl,rfl⟩:=hq
   have hI:=DZ ht uF hd
   try simp only[app]at hS
   refine Gp ?_
   refine za (λh=>absurd rfl h) (λ_=>?_)
   obtain⟨la,lc,rfl,_⟩:=a7.at hS (v:=lv) (t:=174) (sz:=3) (n:=l.length) (cells:=(l.map ep).flatten) Xh
   have hS:=SL.b6 hS (t:=jd (.slice la l.length lc) l::X::.mem H::F) Xi
   refine Gp ?_
   refine zK hS λrp w hS=>?_
   have hS:=(fU.iff (r:=⟨l,false⟩)).2 ⟨_,l,0,⟨Nat.zero_le _,My hd,rfl⟩,hS⟩
   refine Cc (zN rp ⟨l,false⟩ 1099511627776) ?_;clear hS
   rintro v1 post ⟨rfl,rfl⟩ w hS
   try simp only[app]at hS
   have hR:=C_.is l
   generalize (dv 1099511627776 ⟨l,false⟩).1=aI at *
   generalize (dv 1099511627776 ⟨l,false⟩).2=r1 at *
   have z':=Ci (m:=8) (by decide) r1
   refine Cc (zN rp r1 8) ?_;clear hS
   rintro v1 post ⟨rfl,rfl⟩ w hS
   try simp only[app]at hS
   have jJ:=hR.ts
   have dE:=hR.rd
   generalize (dv 8 r1).1=n1 at *
   generalize (dv 8 r1).2=r2 at *
   have hS:SL W (.ob (a7 (.slice none 0 0) 53 1 ([]:List (List Row)).length [])::_) _:=a7.nil hS
   refine⟨λus w=>∃(i k:Nat) (ts:List (List Row)) (r:cw) (tv:Value) (vs:List Value) (H':aW),us=[tv,.int .i64 i]/\n1=((i+k:Nat):Int)/\kf ng n1.toNat r2 ts k r/\(∀C∈ts,C.length<=1000)/\H.le H'/\jo H' vs ts/\SL W (.ob (a7 tv 53 1 ts.length vs)::.ob (fU rp r)::X::.mem H'::F) w,
    λus _=>match us with|[_,.int _ i]=>(n1-i).toNat|_=>0,⟨0,n1.toNat,[],r2,.slice none 0 0,[],H,rfl,by omega,kf.start _ _ _,by simp,aW.le_refl H,jo.nil H,aR hS⟩,?_⟩
   clear hS
   rintro tv tG w ⟨i,k,ts,r,_,vs,H',da,hn,hM,sV,hh,jU,hS⟩
   cases da
   have hle:=hM.le
   have jG:∀{w:World},(k=0\/r.bad=true)->SL W (.ob (a7 tv 53 1 ts.length vs)::.ob (fU rp r)::X::.mem H'::F) w ->
     aw 246 [.pointer (some ⟨rp,0,none⟩)] w λv87 S8=>Zi v87 λv88=>dO v88
      (∃post,sE X H bs (.tuple #[.int .i64 0,.slice none 0 0,.int .i64 3]) post/\SL W (app post F) S8)
      (aw 91 [.int .i64 aI,tv] S8 λv92 S9=>Zi v92 λv93=>dO v93
       (∃post,sE X H bs (.tuple #[.int .i64 0,.slice none 0 0,.int .i64 3]) post/\SL W (app post F) S9)
       (∃post,sE X H bs (.tuple #[.int .i64 aI,tv,.int .i64 0]) post/\SL W (app post F) S9)):=by
    intro w hk hS
    rw[hM.stop hk]at jJ dE
    have jJ:(k_ ⟨l,false⟩).1.2=ts:=jJ
    have dE:(k_ ⟨l,false⟩).2=r:=dE
    have j8:=hR.aI
    refine Cg (Ys rp r) λw hS=>?_
    refine zA (λhb=>?_) (λhb=>?_)
    ·have hb:=of_decide_eq_false hb
     exact eN (by rw[hI];exact Po λh=>hb ⟨by rw[<- dE];exact h.1,by rw[<- dE];exact h.2.1⟩) hh (aR hS)
    ·have hb:=of_decide_eq_true hb
     obtain⟨H2,eh,hO,hS,jg⟩:=aW0 (H:=H') (v:=tv) hS Xp
     have hT:nU H2 tv ts:=⟨vs,hO,jU.mono eh⟩
     refine Cg (Zo H2 tv aI ts hT (by omega) (λC hC=>by have:=sV C hC;omega)) λw hS=>?_
     have hS:=jg (SL.b6 hS (t:=.mem H2::X::F) Xi)
     refine zA (λhm=>?_) (λhm=>?_)
     ·exact eN (by rw[hI];exact Po λh=>by rw[j8,jJ,hm]at h;cases h.2.2) hh (aR hS)
     ·have he:=XX (l:=l) ⟨by rw[dE];exact hb.1,by rw[dE];exact hb.2,by rw[j8,jJ];exact hm⟩
      refine⟨[.ob (a7 tv 53 1 ts.length vs),X,.mem H'],?_,aR hS⟩
      unfold sE
      rw[hI,he]
      simp only
      rw[j8,jJ]
      exact⟨tv,vs,H',hh,jU,rfl,rfl⟩
   refine Gp ?_
   refine za (λh=>?_) (λh=>jG (.inl (by omega)) hS)
   refine Gp ?_
   refine fU.Bg (r:=r) (Has.front hS Xr) ?_
   refine Gp ?_
   refine zA (λhb=>?_) (λhb=>jG (.inr hb) hS)
   clear jG
   obtain⟨k,rfl⟩:∃j,k=j+1:=⟨k-1,by omega⟩
   have hM:=hM.step hb
   rw[a_i]at hM
   have Fl:=Ci (m:=1000) (by decide) r
   refine Cc (zN rp r 1000) ?_;clear hS
   rintro v1 post ⟨rfl,rfl⟩ w hS
   try simp only[app]at hS
   generalize (dv 1000 r).1=n2 at *
   generalize (dv 1000 r).2=r5 at *
   have hS:SL W (fO (.slice none 0 0) []::_) _:=a7.nil hS
   refine⟨λus w=>∃(a c:Nat) (rs:List Row) (r':cw) (rv:Value),us=[rv,.int .i64 a]/\n2=((a+c:Nat):Int)/\kf pC n2.toNat r5 rs c r'/\SL W (fO rv rs::.ob (fU rp r')::.ob (a7 tv 53 1 ts.length vs)::X::.mem H'::F) w,
    λus _=>match us with|[_,.int _ i]=>(n2-i).toNat|_=>0,⟨0,n2.toNat,[],r5,.slice none 0 0,rfl,by omega,kf.start _ _ _,aR hS⟩,?_⟩
   clear hS
   rintro rv wK w ⟨a,c,rs,r',_,da,hn3,my,hS⟩
   cases da
   have ON:=my.le
   have ig:∀{w:World},(c=0\/r'.bad=true)->SL W (fO rv rs::.ob (fU rp r')::.ob (a7 tv 53 1 ts.length vs)::X::.mem H'::F) w ->
     ∃H2,H'.le H2/\dy H2 2 rv rs.length (rs.map dX).flatten/\rs.length<=1000/\kf ng n1.toNat r2 (ts++[rs]) k r'/\SL W (.mem H2::.ob (fU rp r')::.ob (a7 tv 53 1 ts.length vs)::X::F) w:=λhk hS=>by
    obtain⟨H2,eh,hO,hS⟩:=zE (H:=H') (v:=rv) hS Xp
    refine⟨H2,eh,hO,by omega,?_,aR hS⟩
    rw[my.stop hk]at hM
    exact hM
   have iy:∀{w:World} {H2:aW} {u:Value} {cells:List Value},H'.le H2->dy H2 2 rv rs.length (rs.map dX).flatten->rs.length<=1000->kf ng n1.toNat r2 (ts++[rs]) k r'->cells=vs++[rv]->SL W (.ob (a7 u 53 1 (ts.length+1) cells)::.ob (fU rp r')::X::.mem H2::F) w ->
     ∃(i' k:Nat) (ts:List (List Row)) (r:cw) (tv:Value) (vs:List Value) (H':aW),[u,Value.int .i64 ((i+1:Nat):Int)]=[tv,.int .i64 i']/\n1=((i'+k:Nat):Int)/\kf ng n1.toNat r2 ts k r/\(∀C∈ts,C.length<=1000)/\H.le H'/\jo H' vs ts/\SL W (.ob (a7 tv 53 1 ts.length vs)::.ob (fU rp r)::X::.mem H'::F) w:=λeh hO hl hM e hS=>by
    subst e
    refine⟨i+1,k,ts++[rs],r',_,vs++[rv],_,rfl,by omega,hM,λC hC=>?_,aW.le_trans hh eh,(jU.mono eh).snoc hO,?_⟩
    ·rcases List.mem_append.1 hC with hC|hC
     ·exact sV C hC
     ·rw[List.mem_singleton.1 hC];exact hl
    ·rw[List.length_append,List.length_singleton];exact hS
   refine bR (λh=>?_) (λh=>?_)
   ·refine Gp ?_
    refine fU.Bg (r:=r') (Has.front hS Xr) ?_
    refine Gp ?_
    refine zA (λhb=>?_) (λhb=>?_)
    ·clear ig iy
     obtain⟨c,rfl⟩:∃j,c=j+1:=⟨c-1,by omega⟩
     have my:=my.step hb
     refine Cc (zN rp r' 1099511627776) ?_;clear hS
     rintro v1 post ⟨rfl,rfl⟩ w hS
     try simp only[app]at hS
     refine Gp ?_
     refine Gb λxb w hS=>?_
     refine Cg (yY rp _) λw hS=>?_;refine Gm λb w hS=>?_
     refine yu (n:=rs.length) (xs:=rs) (y:=(pC r').1) (enc:=dX) hS Xr Xh fQ (λx=>sO x) rfl (by omega) (by omega) λu w hS=>?_
     refine Gp ?_
     refine⟨⟨a+1,c,_,_,u,rfl,by omega,my,?_⟩,by dsimp only;omega⟩
     have hS:=hS.oJ (x:=(pC r').1)
     have hS:SL W (fO u (rs++[(pC r').1])::_::.ob (fU rp (pC r').2)::_::.ob (a7 tv 53 1 ts.length vs)::X::.mem H'::F) _:=hS
     exact aR hS
    ·obtain⟨H2,eh,hO,hl,hM,hS⟩:=ig (.inr hb) hS
     have fW:=hO.one
     refine zy hS (Bu fW) λb w hS=>?_
     refine zx (n:=ts.length) (m:=1) hS Xr (iP (cs:=[rv]) hS Xh rfl) rfl rfl (by simpa using fW) (by omega) (by omega) ?_
     clear hS;intro u w hS
     refine Gp ?_
     exact⟨iy eh hO hl hM rfl (aR hS),by dsimp only;omega⟩
   ·obtain⟨H2,eh,hO,hl,hM,hS⟩:=ig (.inl (by omega)) hS
    have fW:=hO.one
    refine zy hS (Bu fW) λb w hS=>?_
    refine zx (n:=ts.length) (m:=1) hS Xr (iP (cs:=[rv]) hS Xh rfl) rfl rfl (by simpa using fW) (by omega) (by omega) ?_
    clear hS;intro u w hS
    refine Gp ?_
    exact⟨iy eh hO hl hM rfl (aR hS),by dsimp only;omega⟩
section
variable {W w:World} {l:List Chunk}
theorem qs{b o n cap sz:Nat}{t:TypeId}{cells:List Value}{u:Value}{K:Value->Prop}(h:SL W l w)(m:Has (.ob (a7 (.slice (some ⟨b,0,none⟩) n cap) t sz n cells)) l)(hn:0<n)(hu:cells[o]?=some u)(hK:K u):
  cR (.pointer (some ⟨b,o,none⟩)) w K:=by
 obtain⟨a,pM,e,_,h2⟩:=a7.at h m
 cases e
 obtain⟨b',e,h3⟩:=h2 0 hn
 cases e
 exact⟨_,u,rfl,h3 o u hu,hK⟩
theorem Qz{v:Value}{t:TypeId}{sz n k:Nat}{kk:IntKind}{cells:List Value}{K:Value->Prop}(h:SL W l w)(m:Has (.ob (a7 v t sz n cells)) l)(hk:k<=n)
  (hK:∀u,(∀w' l',SL W l' w'->Has (.ob (a7 v t sz n cells)) l'->jy w' sz u (n-k) (cells.drop (k*sz)))->K u):eG sz v (some (.int kk (k:Int))) none none K:=by
 obtain⟨a,cap,rfl,hl,hx⟩:=a7.at h m
 have sX:n<=cap:=by
  obtain⟨l2,r⟩:=m.rem
  rcases a7.open (h.perm r.perm) with ⟨⟨a',e⟩,rfl,rfl,_⟩|⟨b,pM,rest,e,hc,_⟩
  ·cases e;omega
  ·cases e;exact hc
 refine⟨a,n,cap,k,n,cap,rfl,rfl,rfl,⟨kk,rfl⟩,hk,sX,Nat.le_refl _,hK _ λw' l' h' m'=>?_⟩
 have hs:=nc h' m'
 have lK:(cells.drop (k*sz)).length=(n-k)*sz:=by rw[List.length_drop,hl,Nat.mul_sub_right_distrib]
 cases a with
 | none=>
  obtain⟨e1,e2⟩:=hs
  subst e2
  have e:(if cap=k then (none:Option Addr) else Option.map (λx:Addr=>x.add (k*sz)) none)=none:=by split<;>rfl
  rw[e]
  exact⟨rfl,by simp⟩
 | some p=>
  obtain⟨_,e2,e3⟩:=hs
  by_cases hc:cap=k
  ·rw[if_pos hc]
   have W4:n-k=0:=by omega
   rw[W4]at lK ⊢
   have:cells.drop (k*sz)=[]:=List.eq_nil_of_length_eq_zero (by simpa using lK)
   rw[this]
   exact⟨rfl,by simp,λj v e=>by simp at e⟩
  ·rw[if_neg hc]
   refine⟨rfl,lK,λj v e=>?_⟩
   rw[List.getElem?_drop]at e
   have:=e3 _ v e
   rwa [Addr.add_add]at *
end
theorem Nq{α:Type}{enc:α->List Value}{n:Nat}(hn:∀x,(enc x).length=n):∀(xs:List α) (j k:Nat) (hj:j<xs.length) (x:α) (v:Value),k<n->(enc xs[j]).set k v=enc x->((xs.map enc).flatten).set (j*n+k) v=((xs.set j x).map enc).flatten
 | y::xs,0,k,_,x,v,hk,h=>by
  simp only[List.map_cons,List.flatten_cons,List.set_cons_zero,Nat.zero_mul,Nat.zero_add]
  rw[List.set_append_left _ _ (by rw[hn];exact hk)]
  rw[show (enc y).set k v=enc x from h]
 | y::xs,j+1,k,hj,x,v,hk,h=>by
  simp only[List.map_cons,List.flatten_cons,List.set_cons_succ]
  rw[List.set_append_right _ _ (by rw[hn,Nat.add_mul];omega),hn,show (j+1)*n+k-n=j*n+k by rw[Nat.add_mul];omega,Nq hn xs j k (by simpa using hj) x v hk (by simpa using h)]
abbrev YF:=PF × Value
def gz(y:YF):Int:=y.1.id
theorem py(y:YF):PF.id (Prod.fst y)=gz y:=rfl
def eX(y:YF):List Value:=[.int .i64 y.1.id,.int .i64 (y.1.safe:Int),y.2]
theorem ki(y:YF):(eX y).length=3:=rfl
def nT(H:aW)(ys:List YF):Prop:=∀y∈ys,dy H 1 y.2 y.1.b.length (y.1.b.map cI)
theorem nT.mono{H H':aW}(hh:H.le H'){ys:List YF}(h:nT H ys):nT H' ys:=λy hy=>(h y hy).mono hh
theorem nT.set{H:aW}{ys:List YF}(h:nT H ys){i:Nat}{y:YF}(hy:dy H 1 y.2 y.1.b.length (y.1.b.map cI)):nT H (ys.set i y):=λz hz=>by
 rcases List.mem_or_eq_of_mem_set hz with hz|rfl
 ·exact h z hz
 ·exact hy
abbrev gk(fv:Value)(s:DS):List Value:=[fv,.int .i64 s.arm,.bool s.off,.int .i64 (s.ops:Int)]
abbrev fB(fv:Value)(ys:List YF):zC:=a7 fv 186 3 ys.length (ys.map eX).flatten
def dm(H:aW)(xp:Nat)(s:DS):zC:=jQ λx:Value × List YF=>zP (x.2.map Prod.fst=s.R/\nT H x.2) [.pt xp (gk x.1 s) 66,.ob (fB x.1 x.2)]
theorem dm.iff{W w:World}{H:aW}{xp:Nat}{s:DS}{l:List Chunk}:SL W (.ob (dm H xp s)::l) w↔∃fv ys,(ys.map Prod.fst=s.R/\nT H ys)/\SL W (.pt xp (gk fv s) 66::.ob (fB fv ys)::l) w:=by
 unfold dm
 simp only[SL.ex,SL.fact,List.cons_append,List.nil_append]
 exact⟨λ⟨x,h1,h2⟩=>⟨x.1,x.2,h1,h2⟩,λ⟨fv,ys,h1,h2⟩=>⟨(fv,ys),h1,h2⟩⟩
theorem dm.mono{W w:World}{H H':aW}(hh:H.le H'){xp:Nat}{s:DS}{l:List Chunk}(h:SL W (.ob (dm H xp s)::l) w):SL W (.ob (dm H' xp s)::l) w:=by
 obtain⟨fv,ys,⟨h1,h2⟩,hS⟩:=dm.iff.1 h
 exact dm.iff.2 ⟨fv,ys,⟨h1,h2.mono hh⟩,hS⟩
theorem M5{ys:List YF}{j i o:Nat}(hj:j<ys.length)(ho:o=j*3+i){u:Value}(hu:(eX ys[j])[i]?=some u):((ys.map eX).flatten)[o]?=some u:=by
 subst ho;exact nz ki ys j i _ u (List.getElem?_eq_getElem hj) hu
theorem y3(xp:Nat)(s:DS)(fv:Value)(ys:List YF)(hs:f_ PF.id (ys.map Prod.fst))(hn:ys.length<=100000)(f:Int):
  SP 100 [.pointer (some ⟨xp,0,none⟩),.int .i64 f] [.pt xp (gk fv s) 66,.ob (fB fv ys)]
   (dj (.tuple #[.int .i64 (eD gz ys f:Int),.bool (fS gz ys f)]) [.pt xp (gk fv s) 66,.ob (fB fv ys)]):=by
 intro W F w hS;apply bwk;delta HO aF bw a_ cF df ai;(try simp only[app]at hS)
 have hs:f_ gz ys:=(a7y py).1 hs
 refine⟨λus w=>∃i:Nat,us=[.int .i64 i]/\i<=ys.length/\(∀j (h:j<ys.length),j<i->gz ys[j]<f)/\SL W (.pt xp (gk fv s) 66::.ob (fB fv ys)::F) w,
  λus _=>match us with|[.int _ i]=>(ys.length-i).toNat|_=>0,⟨0,rfl,by omega,λj h h0=>by omega,hS⟩,?_⟩
 clear hS
 rintro v6 w ⟨i,da,hi,dZ,hS⟩
 cases da
 refine Gp ?_
 refine zr hS (t:=186) (sz:=3) (n:=ys.length) (cells:=(ys.map eX).flatten) Xh ?_
 refine bR (λh=>?_) (λh=>?_)
 ·have bW:i<ys.length:=by omega
  obtain⟨a,cap,rfl,_,hx⟩:=a7.at hS (t:=186) (sz:=3) (n:=ys.length) (cells:=(ys.map eX).flatten) Xh
  obtain⟨b,rfl,_⟩:=hx i bW
  have hid:((ys.map eX).flatten)[0+i*3+0]?=some (.int .i64 ys[i].1.id):=M5 bW (i:=0) (by omega) rfl
  refine Gp ?_
  refine zB bW (zQ ?_)
  refine qs hS (t:=186) (sz:=3) (cells:=(ys.map eX).flatten) Xh (by omega) hid ?_
  refine bR (λh2=>?_) (λh2=>?_)
  ·refine Gp ?_
   refine⟨⟨i+1,by simp,by omega,λj h3 h4=>?_,aR hS⟩,by dsimp only;omega⟩
   by_cases e:j=i
   ·subst e;exact h2
   ·exact dZ j h3 (by omega)
  ·have hc:eD gz ys f=i:=DT hs f hi dZ λ_=>h2
   have hk:fS gz ys f=decide (ys[i].1.id=f):=by
    unfold fS;rw[hc,List.getElem?_eq_getElem bW];rfl
   rw[hc,hk]
   refine Gn λw hS=>?_
   refine za (λ_=>?_) (λh=>absurd (by omega) h)
   refine Gp ?_
   refine zB bW (zQ ?_)
   refine qs hS (t:=186) (sz:=3) (cells:=(ys.map eX).flatten) Xh (by omega) hid ?_
   refine Gp ?_
   refine qs hS (t:=186) (sz:=3) (cells:=(ys.map eX).flatten) Xh (by omega) hid ?_
   refine Gp ?_
   exact dq hS
 ·have iW:i=ys.length:=by omega
  have hc:eD gz ys f=i:=DT hs f hi dZ λh=>by omega
  have hk:fS gz ys f=false:=by
   unfold fS;rw[hc,List.getElem?_eq_none (by omega)]
  rw[hc,hk]
  refine Gn λw hS=>?_
  refine zr hS (t:=186) (sz:=3) (n:=ys.length) (cells:=(ys.map eX).flatten) Xh ?_
  refine Gp ?_
  refine za (λh=>absurd h (by omega)) (λ_=>?_)
  exact dq hS
theorem Cj{s:DS}{ys:List YF}(h:ys.map Prod.fst=s.R)(f:Int):fS PF.id s.R f=fS gz ys f:=by rw[<- h];exact wc py ys f
theorem yA(xp:Nat)(s:DS)(fv:Value)(ys:List YF)(he:ys.map Prod.fst=s.R)(hs:f_ PF.id s.R)(hn:ys.length<=100000)(f:Int)(uU:Bool):
  SP 98 [.pointer (some ⟨xp,0,none⟩),.int .i64 f,.bool uU] [.pt xp (gk fv s) 66,.ob (fB fv ys)]
   (dj (.int .i64 (if uU then s.find f else may s f)) [.pt xp (gk fv s) 66,.ob (fB fv ys)]):=by
 intro W F w hS;apply b6y;delta LD aF bw dc ai;(try simp only[app]at hS)
 have jX:f_ PF.id (ys.map Prod.fst):=by rw[he];exact hs
 have dK:may s f≠0->(if uU then s.find f else may s f)=may s f:=λh=>by
  unfold DS.find;rw[if_pos h];split<;>rfl
 have WJ:may s f=0->(if uU then s.find f else may s f)=if uU then (if fS gz ys f then 0 else 5) else 0:=λh=>by
  unfold DS.find;rw[if_neg (show ¬may s f≠0 by omega),Cj he,h]
 generalize (if uU then s.find f else may s f)=r at *
 refine Gp ?_
 refine y0 (λh=>?_) (λh=>?_)
 ·have hm:may s f=8:=by unfold may;rw[if_pos h]
  rw[dK (by omega),hm]
  (exact dq hS)
 ·refine bR (λh2=>?_) (λh2=>?_)
  ·have hm:may s f=1:=by unfold may;rw[if_neg (by rw[h];decide),if_pos (.inl h2)]
   rw[dK (by omega),hm]
   (exact dq hS)
  ·refine bR (λh3=>?_) (λh3=>?_)
   ·have hm:may s f=1:=by unfold may;rw[if_neg (by rw[h];decide),if_pos (.inr h3)]
    rw[dK (by omega),hm]
    (exact dq hS)
   ·have hm:may s f=0:=by unfold may;rw[if_neg (by rw[h];decide),if_neg (by omega)]
    rw[WJ hm]
    refine Cg (y3 xp s fv ys jX hn f) λw hS=>?_
    cases uU with
    | true=>
     refine zw ?_
     cases fS gz ys f with
     | true=>
      refine zO (zq ?_)
      (exact dq hS)
     | false=>
      refine zO (zw ?_)
      (exact dq hS)
    | false=>
     refine zq ?_
     (exact dq hS)
theorem y6(xp:Nat)(s:DS)(fv:Value)(h0:s.off=false)(h1:0<=s.arm)(h2:s.arm<=9223372036854775807)(h3:s.ops<=100000):
  SP 99 [.pointer (some ⟨xp,0,none⟩)] [.pt xp (gk fv s) 66] (dj (.bool s.dB.off) [.pt xp (gk fv s.dB) 66]):=by
 intro W F w hS;apply b6z;delta LF aF bw dx ai;(try simp only[app]at hS)
 refine Gn λw hS=>?_
 refine za (λh=>?_) (λh=>?_)
 ·refine Gn λw hS=>?_
  refine za (λh4=>?_) (λh4=>?_)
  ·refine Gn λw hS=>?_
   have e:s.dB.off=true:=by simp[DS.dB];omega
   have hS:SL W (.pt xp (gk fv s.dB) 66::F) w:=by
    unfold gk;rw[e]
    simp only[DS.dB,if_pos h]
    exact hS
   rw[e]
   (exact dq hS)
  ·refine Gp ?_
   have e:s.dB.off=false:=by simp[DS.dB];omega
   have hS:SL W (.pt xp (gk fv s.dB) 66::F) w:=by
    unfold gk;rw[e]
    rw[h0]at hS
    simp only[DS.dB,if_pos h]
    exact hS
   rw[e,h0]
   (exact dq hS)
 ·refine Gp ?_
  have e:s.dB.off=false:=by simp[DS.dB];omega
  have hS:SL W (.pt xp (gk fv s.dB) 66::F) w:=by
   unfold gk;rw[e]
   rw[h0]at hS
   simp only[DS.dB,if_neg h]
   exact hS
  rw[e,h0]
  (exact dq hS)
theorem yn(g:Bool):SP 101 [.bool g] [] (dj (.int .i64 (if g then 8 else 0)) []):=by
 intro W F w hS;apply bwl;delta HP ai;(try simp only[app]at hS)
 cases g with
 | true=>refine Gp ?_;(exact dq hS)
 | false=>refine Gp ?_;(exact dq hS)
theorem fB.pt{W w:World}{l:List Chunk}{fv:Value}{ys:List YF}(h:SL W (.ob (fB fv ys)::l) w)(hn:0<ys.length):∃b cap rest,fv= .slice (some ⟨b,0,none⟩) ys.length cap/\SL W (.pt b ((ys.map eX).flatten++rest) 186::l) w /\
  ∀C5 w' l',C5.length=ys.length->SL W (.pt b ((C5.map eX).flatten++rest) 186::l') w'->SL W (.ob (fB (.slice (some ⟨b,0,none⟩) ys.length cap) C5)::l') w':=by
 rcases a7.open h with ⟨_,h0,_⟩|⟨b,cap,rest,rfl,hc,hl,hr,hS⟩
 ·omega
 ·refine⟨b,cap,rest,rfl,hS,λC5 w' l' hlen h'=>?_⟩
  unfold fB
  rw[hlen]
  exact a7.mk hc (by rw[jF ki,hlen]) hr h'
theorem xh{ys:List YF}{rest:List Value}{j i o:Nat}(hj:j<ys.length)(ho:o=j*3+i){u:Value}(hu:(eX ys[j])[i]?=some u):((ys.map eX).flatten++rest)[o]?=some u:=by
 have h:=M5 hj ho hu
 rw[List.getElem?_append_left (List.getElem?_eq_some_iff.1 h).1];exact h
theorem Bq{ys:List YF}{rest:List Value}{j i o:Nat}(hj:j<ys.length)(ho:o=j*3+i)(hi:i<3){v:Value}{y:YF}(hy:(eX ys[j]).set i v=eX y):((ys.map eX).flatten++rest).set o v=((ys.set j y).map eX).flatten++rest:=by
 subst ho
 rw[List.set_append_left _ _ (by rw[jF ki];omega),Nq ki ys j i hj y v hi hy]
structure C7(R:List PF)(gG:List YF)(i:Nat)(f:Int):Prop where
 lt:i<gG.length
 at_:∀h:i<gG.length,gG[i].1=⟨f,((dP PF.id R f).getD (kK f)).safe,((dP PF.id R f).getD (kK f)).b⟩
 put:∀y:YF,y.1.id=f->(gG.set i y).map Prod.fst=iO PF.id R y.1
 len:gG.length<=R.length+1
theorem DB{R:List PF}{ys:List YF}(he:ys.map Prod.fst=R){f:Int}(hk:fS gz ys f=true):C7 R ys (eD gz ys f) f:=by
 obtain⟨h1,h2⟩:=oA hk
 have hg:dP PF.id R f=some ys[eD gz ys f].1:=by
  rw[<- he,xq py]
  unfold dP;rw[if_pos hk,List.getElem?_eq_getElem h1];rfl
 refine⟨h1,λ_=>?_,λy hy=>?_,by rw[<- he,List.length_map];omega⟩
 ·rw[hg]
  have h3:∀p:PF,p.id=f->p=⟨f,p.safe,p.b⟩:=by rintro ⟨a,b,c⟩ rfl;rfl
  exact h3 _ h2
 ·have hi:fS PF.id R y.1.id=true:=by rw[hy,<- he,wc py];exact hk
  rw[CE hi,hy,<- he,tW py,List.map_set]
theorem TN{R:List PF}{ys:List YF}(he:ys.map Prod.fst=R){f:Int}(hk:fS gz ys f=false)(v:Value):C7 R (ys.take (eD gz ys f)++[(kK f,v)]++ys.drop (eD gz ys f)) (eD gz ys f) f:=by
 have hle:=vu (key:=gz) ys f
 have hg:dP PF.id R f=none:=by
  rw[<- he,xq py]
  unfold dP;rw[if_neg (by rw[hk];decide)];rfl
 have hl:(ys.take (eD gz ys f)).length=eD gz ys f:=by rw[List.length_take];omega
 refine⟨by simp;omega,λh=>?_,λy hy=>?_,by rw[<- he];simp;omega⟩
 ·rw[hg]
  rw[List.getElem_append_left (by simp;omega),List.getElem_append_right (by omega)]
  simp[hl];rfl
 ·have hi:fS PF.id R y.1.id=false:=by rw[hy,<- he,wc py];exact hk
  unfold iO
  rw[hi,hy,<- he,tW py]
  rw[List.append_assoc,List.set_append_right _ _ (by omega),hl,Nat.sub_self]
  simp
theorem awu(H:aW)(f:Int):dy H 1 (.slice none 0 0) (kK f).b.length ((kK f).b.map cI):=dy.nil H 1
theorem M6{H:aW}{ys:List YF}(hB:nT H ys):∀v∈(ys.map eX).flatten,v.oneCell'=true:=by
 intro v hv
 obtain⟨l,hl,hv⟩:=List.mem_flatten.1 hv
 obtain⟨y,hy,rfl⟩:=List.mem_map.1 hl
 simp only[eX,List.mem_cons,List.not_mem_nil,or_false]at hv
 rcases hv with rfl|rfl|rfl
 ·rfl
 ·rfl
 ·exact (hB y hy).one
theorem aRp(H:aW)(xp:Nat)(s:DS)(N:Nat)(b5:s.Ok N)(eJ:s.ops<=100000)(hR:s.R.length<=90000)(f:Int)(bv:Value)(bs:List UInt8)(hb:dy H 1 bv bs.length (bs.map cI))(hN:((dP PF.id s.R f).getD (kK f)).b.length+bs.length<=140737488355328):
  SP 35 [.pointer (some ⟨xp,0,none⟩),.int .i64 f,bv] [.ob (dm H xp s),.mem H] (λv post=>v= .int .i64 (s.append f bs).2/\∃H',H.le H'/\post=[.ob (dm H' xp (s.append f bs).1),.mem H']):=by
 intro W F w hS;apply b5d;delta KI aF bw dx cF df dc ai bF;(try simp only[app]at hS)
 obtain⟨fv,ys,⟨he,g6⟩,hS⟩:=dm.iff.1 hS
 have px:ys.length=s.R.length:=by rw[<- he,List.length_map]
 refine Cc (yA xp s fv ys he b5.sorted (by omega) f false) ?_;clear hS
 rintro v post ⟨rfl,rfl⟩ w hS
 try simp only[app]at hS
 simp only[Bool.false_eq_true,if_false]
 unfold DS.append
 refine bR (λh=>?_) (λh=>?_)
 ·rw[if_pos h]
  exact⟨_,⟨rfl,H,aW.le_refl H,rfl⟩,dm.iff.2 ⟨fv,ys,⟨he,g6⟩,aR hS⟩⟩
 ·rw[if_neg h]
  have hm:may s f=0:=by omega
  obtain⟨h0,pa,ur⟩:=sf hm
  refine Cg (y6 xp s fv h0 b5.n3 b5.n_ eJ) λw hS=>?_
  refine Cg (y3 xp s.dB fv ys (by rw[he];exact b5.sorted) (by omega) f) λw hS=>?_
  have gj:=vu (key:=gz) ys f
  have NO:=DB he (f:=f)
  have NN:=λhk=>TN he (f:=f) hk (.slice none 0 0)
  generalize uq:eD gz ys f=i at *
  refine⟨λus w=>us=[]/\∃xn gG,C7 s.R gG i f/\nT H gG/\SL W (.pt xp (gk xn s.dB) 66::.ob (fB xn gG)::.mem H::F) w,?_,?_⟩
  ·cases hk:fS gz ys f with
   | true=>
    refine zO (zq ?_)
    exact⟨rfl,fv,ys,NO hk,g6,aR hS⟩
   | false=>
    refine zO (zw ?_)
    refine Gm λb w hS=>?_
    have hS:=a7.full (n:=0) (sz:=3) rfl hS
    refine GY hS (t:=186) (sz:=3) (n:=ys.length) (cells:=(ys.map eX).flatten) Xh gj ?_
    intro a cap g7
    have uh:=M6 g6
    refine zx (n:=0) (m:=i) hS .hd (g7 _ _ hS Xh) (by rw[List.length_take,jF ki];exact Nat.min_eq_left (Nat.mul_le_mul_right _ gj)) rfl (λv hv=>uh v (List.mem_of_mem_take hv)) (by omega) (by omega) ?_
    clear hS;intro v1 w hS
    rw[Nat.zero_add,List.nil_append,od ki]at hS
    refine yr rfl ?_
    refine zy hS rfl ?_
    clear hS;intro b2 w hS
    refine zx (n:=i) (m:=1) (cells:=((ys.take i).map eX).flatten) hS Xr (iP (cs:=eX (kK f,Value.slice none 0 0)) hS .hd rfl) rfl rfl (by simp[eX,Value.oneCell']) (by omega) (by omega) ?_
    clear hS;intro v2 w hS
    refine Gp ?_
    refine Qz hS (t:=186) (sz:=3) (n:=ys.length) (cells:=(ys.map eX).flatten) Xh gj ?_
    intro u FA
    refine zx (n:=i+1) (m:=ys.length-i) (cells:=((ys.take i).map eX).flatten++eX (kK f,Value.slice none 0 0)) hS Xr (FA _ _ hS Xh) (by rw[List.length_drop,jF ki,Nat.mul_sub_right_distrib]) rfl (λv hv=>uh v (List.mem_of_mem_drop hv)) (by omega) (by omega) ?_
    clear hS;intro v3 w hS
    have iN:=hS.kL .hd
    refine Gn λw hS=>?_
    rw[nA ki]at hS
    have e1:((ys.take i).map eX).flatten++eX (kK f,Value.slice none 0 0)++((ys.drop i).map eX).flatten=((ys.take i++[(kK f,Value.slice none 0 0)]++ys.drop i).map eX).flatten:=by simp
    have e2:i+1+(ys.length-i)=(ys.take i++[(kK f,Value.slice none 0 0)]++ys.drop i).length:=by simp;omega
    rw[e1,e2]at hS
    refine⟨v3,ys.take i++[(kK f,Value.slice none 0 0)]++ys.drop i,NN hk,λy hy=>?_,aR hS⟩
    rcases List.mem_append.1 hy with hy|hy
    ·rcases List.mem_append.1 hy with hy|hy
     ·exact g6 y (List.mem_of_mem_take hy)
     ·rw[List.mem_singleton]at hy;subst hy;exact awu H f
    ·exact g6 y (List.mem_of_mem_drop hy)
  ·clear hS NO NN uq gj
   rintro w ⟨-,xn,gG,hA,hB,hS⟩
   have hi:=hA.lt
   have fD:=hA.at_ hi
   have hold:=hB _ (List.getElem_mem hi)
   have b8n:=hA.len
   obtain⟨b0,cap,rest,rfl,hS,jg⟩:=fB.pt (SL.b6 hS (t:=.ob (fB xn gG)::.pt xp (gk xn s.dB) 66::.mem H::F) Xi) (by omega)
   have ix:((gG.map eX).flatten++rest)[0+i*3+2]?=some gG[i].2:=xh hi (i:=2) (by omega) rfl
   have rP:gG[i].1.b.length+bs.length<=140737488355328:=by rw[fD];exact hN
   refine Gn λw hS=>?_
   refine zB hi (zQ (zX hS Xh ix ?_))
   refine Gm λb w hS=>?_
   refine zX hS Xh ix ?_
   refine Gp ?_
   have hS:=a7.full (n:=0) (sz:=1) rfl hS
   refine zx (n:=0) (m:=gG[i].1.b.length) hS .hd (nQ hS Xh hold) (by simp) rfl (j3 _) (by omega) (by omega) ?_
   clear hS;intro v1 w hS
   rw[Nat.zero_add,List.nil_append]at hS
   refine Gp ?_
   refine zx (n:=gG[i].1.b.length) (m:=bs.length) (cells:=gG[i].1.b.map cI) hS Xr (nQ hS Xh hb) (by simp) rfl (j3 _) (by omega) (by omega) ?_
   clear hS;intro v2 w hS
   have iN:=hS.kL .hd
   refine Gp ?_
   refine zB hi (zQ ?_)
   refine y2 hS Xu ix iN ?_
   clear hS;intro w hS
   have e1:gG[i].1.b.map cI++bs.map cI=(gG[i].1.b++bs).map cI:=by rw[List.map_append]
   have e2:gG[i].1.b.length+bs.length=(gG[i].1.b++bs).length:=by rw[List.length_append]
   rw[e1,e2]at hS
   rw[Bq (y:=(⟨f,gG[i].1.safe,gG[i].1.b++bs⟩,v2)) hi (i:=2) (by omega) (by omega) (by
    rw[show gG[i]=((⟨f,gG[i].1.safe,gG[i].1.b⟩:PF),gG[i].2) from Prod.ext (by rw[fD]) rfl];rfl)]at hS
   obtain⟨H',d_,jU,hS⟩:=zE (H:=H) (v:=v2) (n:=(gG[i].1.b++bs).length) (sz:=1) (t:=5) (cells:=(gG[i].1.b++bs).map cI) hS Xp
   refine Cg (yn s.dB.off) λw hS=>?_
   refine⟨_,⟨by unfold DS.err;rfl,H',d_,rfl⟩,dm.iff.2 ⟨Value.slice (some ⟨b0,0,none⟩) gG.length cap,gG.set i (⟨f,gG[i].1.safe,gG[i].1.b++bs⟩,v2),⟨?_,(hB.mono d_).set jU⟩,?_⟩⟩
   ·show _=kg s.R f bs
    rw[hA.put _ rfl]
    unfold kg
    simp only[fD]
   ·have:=jg (gG.set i (⟨f,gG[i].1.safe,gG[i].1.b++bs⟩,v2)) w (.pt xp (gk (.slice (some ⟨b0,0,none⟩) gG.length cap) s.dB) 66::.mem H'::F) (by simp) (aR hS)
    exact SL.b6 this Xi
theorem YJ(H:aW)(xp:Nat)(s:DS)(N:Nat)(b5:s.Ok N)(eJ:s.ops<=100000)(hR:s.R.length<=90000)(f:Int)(bv:Value)(bs:List UInt8)(hb:dy H 1 bv bs.length (bs.map cI))(hN:N+bs.length<=140737488355328):
  SP 35 [.pointer (some ⟨xp,0,none⟩),.int .i64 f,bv] [.ob (dm H xp s),.mem H] (λv post=>v= .int .i64 (s.append f bs).2/\∃H',H.le H'/\post=[.ob (dm H' xp (s.append f bs).1),.mem H']):=
 aRp H xp s N b5 eJ hR f bv bs hb (by have:=Ep (f:=f) b5.len;omega)
theorem Ek{s:DS}{f:Int}(h:s.find f=0):may s f=0/\fS PF.id s.R f=true:=by
 unfold DS.find at h
 by_cases hm:may s f=0
 ·rw[if_neg (show ¬may s f≠0 from λe=>e hm)]at h
  refine⟨hm,?_⟩
  by_cases hk:fS PF.id s.R f=true
  ·exact hk
  ·rw[if_neg hk]at h;cases h
 ·rw[if_pos hm]at h;exact absurd h hm
theorem Es{R:List PF}{ys:List YF}(he:ys.map Prod.fst=R){f:Int}(hk:fS gz ys f=true):∃h:eD gz ys f<ys.length,dP PF.id R f=some ys[eD gz ys f].1/\ys[eD gz ys f].1.id=f:=by
 obtain⟨h1,h2⟩:=oA hk
 refine⟨h1,?_,h2⟩
 rw[<- he,xq py]
 unfold dP;rw[if_pos hk,List.getElem?_eq_getElem h1];rfl
theorem q6(H:aW)(xp:Nat)(s:DS)(N:Nat)(b5:s.Ok N)(eJ:s.ops<=100000)(hR:s.R.length<=100000)(f:Int):
  SP 252 [.pointer (some ⟨xp,0,none⟩),.int .i64 f] [.ob (dm H xp s),.mem H] (dj (.int .i64 (s.sync f).2) [.ob (dm H xp (s.sync f).1),.mem H]):=by
 intro W F w hS;apply bRu;delta JV aF bw a_ dc ai;(try simp only[app]at hS)
 obtain⟨fv,ys,⟨he,g6⟩,hS⟩:=dm.iff.1 hS
 have px:ys.length=s.R.length:=by rw[<- he,List.length_map]
 refine Cc (yA xp s fv ys he b5.sorted (by omega) f true) ?_;clear hS
 rintro v post ⟨rfl,rfl⟩ w hS
 try simp only[app]at hS
 simp only[if_true]
 unfold DS.sync
 refine bR (λh=>?_) (λh=>?_)
 ·rw[if_pos h]
  exact⟨_,⟨rfl,rfl⟩,dm.iff.2 ⟨fv,ys,⟨he,g6⟩,aR hS⟩⟩
 ·rw[if_neg h]
  obtain⟨hm,hk⟩:=Ek (s:=s) (f:=f) (by omega)
  rw[Cj he]at hk
  obtain⟨h0,pa,ur⟩:=sf hm
  refine Cg (y6 xp s fv h0 b5.n3 b5.n_ eJ) λw hS=>?_
  by_cases hc:s.dB.off=true
  ·rw[if_pos hc,hc]
   refine zq ?_
   refine Cg (yn true) λw hS=>?_
   exact⟨_,⟨rfl,rfl⟩,dm.iff.2 ⟨fv,ys,⟨he,g6⟩,aR hS⟩⟩
  ·rw[if_neg hc,(by simpa using hc:s.dB.off=false)]
   refine zw ?_
   refine Cg (y3 xp s.dB fv ys (by rw[he];exact b5.sorted) (by omega) f) λw hS=>?_
   obtain⟨hi,hg,hid⟩:=Es he hk
   have hA:=DB he hk
   generalize eD gz ys f=i at *
   obtain⟨b0,cap,rest,rfl,hS,jg⟩:=fB.pt (SL.b6 hS (t:=.ob (fB fv ys)::.pt xp (gk fv s.dB) 66::.mem H::F) Xi) (by omega)
   have ix:((ys.map eX).flatten++rest)[0+i*3+2]?=some ys[i].2:=xh hi (i:=2) (by omega) rfl
   have BP:((ys.map eX).flatten++rest)[0+i*3+1]?=some (.int .i64 (ys[i].1.safe:Int)):=xh hi (i:=1) (by omega) rfl
   have hold:=g6 _ (List.getElem_mem hi)
   refine zB hi (zQ (zX hS Xh ix ?_))
   refine zm hold ?_
   refine zB hi (zQ ?_)
   refine y2 hS Xu BP rfl ?_
   clear hS;intro w hS
   rw[Bq (y:=(⟨f,ys[i].1.b.length,ys[i].1.b⟩,ys[i].2)) hi (i:=1) (by omega) (by omega) (by rw[<- hid];rfl)]at hS
   refine Cg (yn false) λw hS=>?_
   refine⟨_,⟨rfl,rfl⟩,dm.iff.2 ⟨Value.slice (some ⟨b0,0,none⟩) ys.length cap,ys.set i (⟨f,ys[i].1.b.length,ys[i].1.b⟩,ys[i].2),⟨?_,g6.set hold⟩,?_⟩⟩
   ·show _=kr s.R f _
    rw[hA.put _ rfl,C0 hg]
   ·have:=jg (ys.set i (⟨f,ys[i].1.b.length,ys[i].1.b⟩,ys[i].2)) w (.pt xp (gk (.slice (some ⟨b0,0,none⟩) ys.length cap) s.dB) 66::.mem H::F) (by simp) (aR hS)
    exact SL.b6 this Xi
theorem Yr(H:aW)(xp:Nat)(s:DS)(N:Nat)(b5:s.Ok N)(hN:N<=140737488355328)(eJ:s.ops<=100000)(hR:s.R.length<=100000)(f n:Int):
  SP 176 [.pointer (some ⟨xp,0,none⟩),.int .i64 f,.int .i64 n] [.ob (dm H xp s),.mem H] (λv post=>v= .int .i64 (s.cut f n).2/\∃H',H.le H'/\post=[.ob (dm H' xp (s.cut f n).1),.mem H']):=by
 intro W F w hS;apply bF2;delta IS aF bw a_ cF df dc ai;(try simp only[app]at hS)
 obtain⟨fv,ys,⟨he,g6⟩,hS⟩:=dm.iff.1 hS
 have px:ys.length=s.R.length:=by rw[<- he,List.length_map]
 refine Cc (yA xp s fv ys he b5.sorted (by omega) f true) ?_;clear hS
 rintro v post ⟨rfl,rfl⟩ w hS
 try simp only[app]at hS
 simp only[if_true]
 unfold DS.cut
 refine bR (λh=>?_) (λh=>?_)
 ·rw[if_pos h]
  exact⟨_,⟨rfl,H,aW.le_refl H,rfl⟩,dm.iff.2 ⟨fv,ys,⟨he,g6⟩,aR hS⟩⟩
 ·rw[if_neg h]
  obtain⟨hm,hk⟩:=Ek (s:=s) (f:=f) (by omega)
  rw[Cj he]at hk
  obtain⟨h0,pa,ur⟩:=sf hm
  refine Cg (y3 xp s fv ys (by rw[he];exact b5.sorted) (by omega) f) λw hS=>?_
  obtain⟨hi,hg,hid⟩:=Es he hk
  have hA:=DB he hk
  generalize eD gz ys f=i at *
  have Fb:mE s.R f=ys[i].1.b.length:=by unfold mE;rw[hg]
  have hold:=g6 _ (List.getElem_mem hi)
  have rP:ys[i].1.b.length<=N:=b5.len _ (by rw[<- he];exact List.mem_map.2 ⟨_,List.getElem_mem hi,rfl⟩)
  rw[Fb]
  refine za (λh3=>?_) (λh3=>?_)
  ·rw[if_pos (.inl h3)]
   exact⟨_,⟨rfl,H,aW.le_refl H,rfl⟩,dm.iff.2 ⟨fv,ys,⟨he,g6⟩,aR hS⟩⟩
  ·obtain⟨b0,cap,rest,rfl,hS,jg⟩:=fB.pt (SL.b6 hS (t:=.ob (fB fv ys)::.pt xp (gk fv s) 66::.mem H::F) Xi) (by omega)
   have ix:((ys.map eX).flatten++rest)[0+i*3+2]?=some ys[i].2:=xh hi (i:=2) (by omega) rfl
   refine Gp ?_
   refine zB hi (zQ (zX hS Xh ix ?_))
   refine zm hold ?_
   refine bR (λh4=>?_) (λh4=>?_)
   ·rw[if_pos (.inr h4)]
    have:=jg ys w (.pt xp (gk (.slice (some ⟨b0,0,none⟩) ys.length cap) s) 66::.mem H::F) rfl (aR hS)
    exact⟨_,⟨rfl,H,aW.le_refl H,rfl⟩,dm.iff.2 ⟨_,ys,⟨he,g6⟩,SL.b6 this Xi⟩⟩
   ·rw[if_neg (by omega)]
    obtain⟨k,rfl⟩:∃k:Nat,n=(k:Int):=⟨n.toNat,by omega⟩
    rw[Int.toNat_natCast]
    refine Cg (y6 xp s (.slice (some ⟨b0,0,none⟩) ys.length cap) h0 b5.n3 b5.n_ eJ) λw hS=>?_
    by_cases hc:s.dB.off=true
    ·rw[if_pos hc,hc]
     refine zq ?_
     refine Cg (yn true) λw hS=>?_
     have:=jg ys w (.pt xp (gk (.slice (some ⟨b0,0,none⟩) ys.length cap) s.dB) 66::.mem H::F) rfl (aR hS)
     exact⟨_,⟨rfl,H,aW.le_refl H,rfl⟩,dm.iff.2 ⟨_,ys,⟨he,g6⟩,SL.b6 this Xi⟩⟩
    ·rw[if_neg hc,(by simpa using hc:s.dB.off=false)]
     refine zw ?_
     refine Gn λw hS=>?_
     refine zB hi (zQ (zX hS Xh ix ?_))
     refine q9 hold (k:=k) (by omega) ?_
     intro v' We
     refine Gm λb w hS=>?_
     refine zX hS Xh ix ?_
     refine Gp ?_
     have hS:=a7.full (n:=0) (sz:=1) rfl hS
     refine zx (n:=0) (m:=k) hS .hd (nQ hS Xh We) (by rw[List.length_take,List.length_map];omega) rfl (λv hv=>j3 _ v (List.mem_of_mem_take hv)) (by omega) (by omega) ?_
     clear hS;intro v2 w hS
     have iN:=hS.kL .hd
     rw[Nat.zero_add,List.nil_append]at hS
     refine Gp ?_
     refine zB hi (zQ ?_)
     refine y2 hS Xu ix iN ?_
     clear hS;intro w hS
     rw[Bq (y:=(⟨f,ys[i].1.safe,ys[i].1.b.take k⟩,v2)) hi (i:=2) (by omega) (by omega) (by rw[<- hid];rfl)]at hS
     have lJ:i<(ys.set i (⟨f,ys[i].1.safe,ys[i].1.b.take k⟩,v2)).length:=by simpa using hi
     have BP:(((ys.set i (⟨f,ys[i].1.safe,ys[i].1.b.take k⟩,v2)).map eX).flatten++rest)[0+i*3+1]?=some (.int .i64 (ys[i].1.safe:Int)):=xh lJ (i:=1) (by omega) (by simp[eX])
     refine Gn λw hS=>?_
     refine zB hi (zQ (zX hS Xh BP ?_))
     refine Gp ?_
     refine zB hi (zQ ?_)
     refine y2 hS Xu BP rfl ?_
     clear hS;intro w hS
     have U':min (ys[i].1.safe:Int) (k:Int)=((min ys[i].1.safe k:Nat):Int):=by omega
     rw[U']at hS
     rw[Bq (y:=(⟨f,min ys[i].1.safe k,ys[i].1.b.take k⟩,v2)) lJ (i:=1) (by omega) (by omega) (by simp[eX]),List.set_set]at hS
     have e1:(ys[i].1.b.map cI).take (k*1)=(ys[i].1.b.take k).map cI:=by rw[Nat.mul_one,List.map_take]
     have e2:(ys[i].1.b.take k).length=k:=by rw[List.length_take];omega
     rw[e1]at hS
     obtain⟨H',d_,jU,hS⟩:=zE (H:=H) (v:=v2) (n:=k) (sz:=1) (t:=5) (cells:=(ys[i].1.b.take k).map cI) hS Xp
     refine Cg (yn false) λw hS=>?_
     refine⟨_,⟨rfl,H',d_,rfl⟩,dm.iff.2 ⟨Value.slice (some ⟨b0,0,none⟩) ys.length cap,ys.set i (⟨f,min ys[i].1.safe k,ys[i].1.b.take k⟩,v2),⟨?_,(g6.mono d_).set (by rw[e2];exact jU)⟩,?_⟩⟩
     ·show _=kr s.R f _
      rw[hA.put _ rfl,C0 hg];rfl
     ·have:=jg (ys.set i (⟨f,min ys[i].1.safe k,ys[i].1.b.take k⟩,v2)) w (.pt xp (gk (.slice (some ⟨b0,0,none⟩) ys.length cap) s.dB) 66::.mem H'::F) (by simp) (aR hS)
      exact SL.b6 this Xi
theorem Zp(H:aW)(xp:Nat)(s:DS)(N:Nat)(b5:s.Ok N)(eJ:s.ops<=100000)(hR:s.R.length<=100000)(f:Int):
  SP 174 [.pointer (some ⟨xp,0,none⟩),.int .i64 f] [.ob (dm H xp s),.mem H] (dj (.int .i64 (s.remove f).2) [.ob (dm H xp (s.remove f).1),.mem H]):=by
 intro W F w hS;apply bF0;delta IP aF dx cF df dc ai bF;(try simp only[app]at hS)
 obtain⟨fv,ys,⟨he,g6⟩,hS⟩:=dm.iff.1 hS
 have px:ys.length=s.R.length:=by rw[<- he,List.length_map]
 refine Cc (yA xp s fv ys he b5.sorted (by omega) f true) ?_;clear hS
 rintro v post ⟨rfl,rfl⟩ w hS
 try simp only[app]at hS
 simp only[if_true]
 unfold DS.remove
 refine bR (λh=>?_) (λh=>?_)
 ·rw[if_pos h]
  exact⟨_,⟨rfl,rfl⟩,dm.iff.2 ⟨fv,ys,⟨he,g6⟩,aR hS⟩⟩
 ·rw[if_neg h]
  obtain⟨hm,hk⟩:=Ek (s:=s) (f:=f) (by omega)
  rw[Cj he]at hk
  obtain⟨h0,pa,ur⟩:=sf hm
  refine Cg (y6 xp s fv h0 b5.n3 b5.n_ eJ) λw hS=>?_
  by_cases hc:s.dB.off=true
  ·rw[if_pos hc,hc]
   refine zq ?_
   refine Cg (yn true) λw hS=>?_
   exact⟨_,⟨rfl,rfl⟩,dm.iff.2 ⟨fv,ys,⟨he,g6⟩,aR hS⟩⟩
  ·rw[if_neg hc,(by simpa using hc:s.dB.off=false)]
   refine zw ?_
   refine Cg (y3 xp s.dB fv ys (by rw[he];exact b5.sorted) (by omega) f) λw hS=>?_
   obtain⟨hi,hg,hid⟩:=Es he hk
   have BR:j6 gz ys f=ys.eraseIdx (eD gz ys f):=by unfold j6;rw[if_pos hk]
   have Ot:=MI py ys f
   rw[he,BR]at Ot
   generalize eD gz ys f=i at *
   have uh:=M6 g6
   refine GY hS (t:=186) (sz:=3) (n:=ys.length) (cells:=(ys.map eX).flatten) Xh (Nat.le_of_lt hi) ?_
   intro a cap g7
   refine Gp ?_
   refine Qz hS (t:=186) (sz:=3) (n:=ys.length) (cells:=(ys.map eX).flatten) Xh hi ?_
   intro u FA
   refine Gm λb w hS=>?_
   have hS:=a7.full (n:=0) (sz:=3) rfl hS
   refine zx (n:=0) (m:=i) hS .hd (g7 _ _ hS Xh) (by rw[List.length_take,jF ki];exact Nat.min_eq_left (Nat.mul_le_mul_right _ (Nat.le_of_lt hi))) rfl (λv hv=>uh v (List.mem_of_mem_take hv)) (by omega) (by omega) ?_
   clear hS;intro v1 w hS
   rw[Nat.zero_add,List.nil_append,od ki]at hS
   refine Gp ?_
   refine zx (n:=i) (m:=ys.length-(i+1)) (cells:=((ys.take i).map eX).flatten) hS Xr (FA _ _ hS Xh) (by rw[List.length_drop,jF ki,Nat.mul_sub_right_distrib]) rfl (λv hv=>uh v (List.mem_of_mem_drop hv)) (by omega) (by omega) ?_
   clear hS;intro v3 w hS
   have iN:=hS.kL .hd
   refine Gn λw hS=>?_
   rw[nA ki]at hS
   have e1:((ys.take i).map eX).flatten++((ys.drop (i+1)).map eX).flatten=((ys.eraseIdx i).map eX).flatten:=by rw[List.eraseIdx_eq_take_drop_succ];simp
   have e2:i+(ys.length-(i+1))=(ys.eraseIdx i).length:=by rw[List.length_eraseIdx,if_pos hi];omega
   rw[e1,e2]at hS
   refine Cg (yn false) λw hS=>?_
   exact⟨_,⟨rfl,rfl⟩,dm.iff.2 ⟨v3,ys.eraseIdx i,⟨Ot,λy hy=>g6 y (List.mem_of_mem_eraseIdx hy)⟩,aR hS⟩⟩
def eC(H:aW)(r:Nat)(ts:gg):zC:=jQ λx:Value × List Value=>zP (jo H x.2 ts/\ts.length<=8)
 [.pt r [x.1] 157,.ob (a7 x.1 53 1 ts.length x.2)]
section
variable {W w:World} {l F:List Chunk} {H H':aW} {r:Nat} {ts:gg}
theorem eC.iff:SL W (.ob (eC H r ts)::l) w↔∃(v:Value) (vs:List Value),(jo H vs ts/\ts.length<=8)/\SL W (.pt r [v] 157::.ob (a7 v 53 1 ts.length vs)::l) w:=by
 unfold eC
 simp only[SL.ex,SL.fact,List.cons_append,List.nil_append]
 constructor
 ·rintro ⟨⟨v,vs⟩,h1,h2⟩;exact⟨v,vs,h1,h2⟩
 ·rintro ⟨v,vs,h1,h2⟩;exact⟨⟨v,vs⟩,h1,h2⟩
theorem eC.mono(hh:H.le H')(h:SL W (.ob (eC H r ts)::l) w):SL W (.ob (eC H' r ts)::l) w:=by
 obtain⟨v,vs,hA,hS⟩:=eC.iff.1 h
 exact eC.iff.2 ⟨v,vs,⟨hA.1.mono hh,hA.2⟩,hS⟩
theorem eC.gC(hh:H.le H')(hS:SL W l w)(k:gB (.ob (eC H r ts)) l F):SL W (.ob (eC H' r ts)::F) w:=eC.mono hh (hS.perm k.perm)
theorem eC.put{v:Value}{vs:List Value}(ts:gg)(h:jo H vs ts)(h8:ts.length<=8)(hS:SL W l w)(k:gq [.pt r [v] 157,.ob (a7 v 53 1 ts.length vs)] l F):SL W (.ob (eC H r ts)::F) w:=eC.iff.2 ⟨v,vs,⟨h,h8⟩,hS.pick k⟩
end
theorem awq(H:aW)(n:Nat)(h1:1<=n)(h2:n<=8):SP 75 [.int .i64 n] [] (λv post=>∃r:Nat,v=dg r/\post=[.ob (eC H r (List.replicate n []))]):=by
 intro W w F hS
 refine zU.mono (awr H n h1 h2 W w F hS) ?_
 rintro v w' ⟨post,⟨r,rfl,rfl⟩,hS⟩
 obtain⟨bv,vs,hA,hS⟩:=nW.iff.1 hS
 have hS:=a7.full (n:=(List.replicate n ([]:List Row)).length) (sz:=1) (by rw[hA.1.1,Nat.mul_one]) (hS.perm (.swap _ _ _))
 exact⟨_,⟨r,rfl,rfl⟩,eC.iff.2 ⟨_,vs,hA,hS.perm (.swap _ _ _)⟩⟩
theorem Y4(H:aW)(r:Nat)(ts:gg)(t:Int):SP 77 [dg r,.int .i64 t] [.ob (eC H r ts)] (dj (.bool (decide (0<=t/\t<(ts.length:Int)))) [.ob (eC H r ts)]):=by
 intro W F w hS;apply b6f;delta Lk aF bw b7 ai;(try simp only[app]at hS)
 refine bR (λh=>?_) (λh=>?_)
 ·obtain⟨v,vs,hA,hS⟩:=eC.iff.1 hS
  refine Gp ?_
  refine zr hS Xh ?_
  refine Gp ?_
  have hS:=eC.put ts hA.1 hA.2 hS Xp
  rw[show (decide (t<(ts.length:Int)))=decide (0<=t/\t<(ts.length:Int)) by simp[h]]
  exact dq hS
 ·rw[decide_eq_false (show ¬(0<=t/\t<(ts.length:Int)) by omega)]
  exact dq hS
def vd(H:aW)(r:Nat)(ts:gg)(l:List dW)(u:Value)(post:List Chunk):Prop:=if l.all (gd ts.length)=true then u= .bool true/\∃H',H.le H'/\post=[.mem H',.ob (eC H' r (eZ ts l))] else u= .bool false/\post=[.mem H,.ob (eC H r ts)]
theorem TO{ts:gg}{c:dW}{t:Nat}(ht:t<ts.length)(hc:c.table=t):jf ts c=ts.set t (j1 ts[t] c):=by
 unfold jf
 rw[hc,Int.toNat_natCast,nf ts t ht]
theorem yS(H:aW)(r:Nat)(ts:gg)(v:Value)(l:List dW)(hv:dy H 4 v l.length (l.map gi).flatten){L0:Nat}(hL:∀C∈ts,C.length<=L0)(hn:L0+l.length<=1000000):
  SP 78 [dg r,v] [.mem H,.ob (eC H r ts)] (vd H r ts l):=by
 intro W F w hS;apply b6g;delta Ll aF bw a_ cF df dc b7 ai;(try simp only[app]at hS)
 refine⟨λus w=>∃i:Nat,us=[.int .i64 i]/\i<=l.length/\(∀j (h:j<l.length),j<i->gd ts.length l[j]=true)/\SL W (.mem H::.ob (eC H r ts)::F) w,λus _=>match us with|[.int _ i]=>(l.length-i).toNat|_=>0,⟨0,rfl,by omega,λj h hj=>by omega,hS⟩,?_⟩
 clear hS
 rintro v5 w ⟨i,da,hi,dY,hS⟩
 cases da
 refine zm hv ?_
 refine bR (λh=>?_) (λh=>?_)
 ·have bW:i<l.length:=by omega
  refine zJ hS Xh kh hv (x:=l[i]) (List.getElem?_eq_getElem bW) bW (i:=0) rfl ?_
  refine Cg (Y4 H r ts l[i].table) λw hS=>?_
  refine zA (λhe=>?_) (λhe=>?_)
  ·have eN:¬l.all (gd ts.length)=true:=λh=>by
    have:=List.all_eq_true.1 h _ (List.getElem_mem bW)
    unfold gd at this
    rw[he]at this;cases this
   exact⟨[.mem H,.ob (eC H r ts)],by unfold vd;rw[if_neg eN];exact⟨rfl,rfl⟩,aR hS⟩
  ·refine Gp ?_
   refine⟨⟨i+1,rfl,by omega,λj hj gZ=>?_,aR hS⟩,by dsimp only;omega⟩
   by_cases e:j=i
   ·subst e;exact he
   ·exact dY j hj (by omega)
 ·have hA:∀c∈l,gd ts.length c=true:=λc hc=>by
   obtain⟨j,hj,rfl⟩:=List.getElem_of_mem hc
   exact dY j hj (by omega)
  have VR:l.all (gd ts.length)=true:=List.all_eq_true.2 hA
  refine⟨λus w=>∃(i:Nat) (H2:aW),us=[.int .i64 i]/\i<=l.length/\H.le H2/\SL W (.mem H2::.ob (eC H2 r (eZ ts (l.take i)))::F) w,λus _=>match us with|[.int _ i]=>(l.length-i).toNat|_=>0,⟨0,H,rfl,by omega,aW.le_refl H,hS⟩,?_⟩
  clear hS h hi dY i
  rintro v6 w ⟨i,H2,da,hi,hH,hS⟩
  cases da
  have jL:=hv.mono hH
  refine zm jL ?_
  refine bR (λh=>?_) (λh=>?_)
  ·have bW:i<l.length:=by omega
   have hx:l[i]?=some l[i]:=List.getElem?_eq_getElem bW
   have uq:=of_decide_eq_true (hA _ (List.getElem_mem bW))
   have m0:eZ ts (l.take (i+1))=jf (eZ ts (l.take i)) l[i]:=by rw[List.take_succ_eq_append_getElem bW,DE]
   have kU:=pK ts (l.take i)
   have nC:∀C∈eZ ts (l.take i),C.length<=1000000:=λC hC=>by
    have:=vo L0 hL (λc hc=>hA c (List.mem_of_mem_take hc)) C hC
    rw[List.length_take]at this
    omega
   generalize eZ ts (l.take i)=T at *
   generalize l[i]=c at *
   obtain⟨table,key,gone,val⟩:=c
   simp only at uq
   obtain⟨t,rfl⟩:∃t:Nat,table=t:=⟨table.toNat,by omega⟩
   have ht:t<T.length:=by omega
   rw[TO ht rfl]at m0
   have EE:=nC _ (List.getElem_mem ht)
   have V0:T[t]?=some T[t]:=List.getElem?_eq_getElem ht
   refine zJ hS Xh kh jL hx bW (i:=0) rfl ?_
   refine zJ hS Xh kh jL hx bW (i:=2) rfl ?_
   obtain⟨sv,vs,hR,hS⟩:=eC.iff.1 (SL.b6 hS (t:=.ob (eC H2 r T)::.mem H2::F) Xi)
   have uK:t<vs.length:=by rw[hR.1.1];exact ht
   have r9:vs[t]?=some vs[t]:=List.getElem?_eq_getElem uK
   have hC:=hR.1.2 t vs[t] T[t] r9 V0
   generalize T[t]=C at *
   generalize vs[t]=cv at *
   have jg:∀{w:World} {H3:aW} {u:Value} {C':List Row},H2.le H3->dy H3 2 u C'.length (C'.map dX).flatten->eZ ts (l.take (i+1))=T.set t C'->SL W (.ob (a7 sv 53 1 T.length (vs.set t u))::.pt r [sv] 157::.mem H3::F) w ->
     ∃(i':Nat) (H2:aW),[Value.int .i64 ((i+1:Nat):Int)]=[.int .i64 i']/\i'<=l.length/\H.le H2/\SL W (.mem H2::.ob (eC H2 r (eZ ts (l.take i')))::F) w:=λ{w H3 u C'} gE hu e hS=>by
    refine⟨i+1,_,rfl,by omega,aW.le_trans hH gE,?_⟩
    rw[e]
    have hS:=(eC.iff (H:=H3) (r:=r) (ts:=T.set t C')).2 ⟨sv,vs.set t u,⟨(hR.1.mono gE).set hu,by rw[List.length_set];exact hR.2⟩,by rw[List.length_set];exact SL.b6 hS (t:=.pt r [sv] 157::.ob (a7 sv 53 1 T.length (vs.set t u))::.mem H3::F) Xi⟩
    exact aR hS
   cases gone with
   | true=>
    refine zw ?_
    refine Gn λw hS=>?_
    refine z7 hS Xh ht r9 ?_
    refine zJ hS Xh kh jL hx bW (i:=1) rfl ?_
    refine Cc (qk H2 cv C key hC EE) ?_;clear hS
    rintro v3 post ⟨u,bb,H3,gE,rfl,xC,rfl⟩ w hS
    try simp only[app]at hS
    have h1:=xC.one
    refine Gp ?_
    refine y8 (SL.b6 hS (t:=.ob (a7 sv 53 1 T.length vs)::.pt r [sv] 157::.mem H3::F) Xi) ht h1 λw hS=>?_
    refine Gp ?_
    exact⟨jg gE xC m0 hS,by dsimp only;omega⟩
   | false=>
    refine zq ?_
    refine Gn λw hS=>?_
    refine z7 hS Xh ht r9 ?_
    refine zJ hS Xh kh jL hx bW (i:=1) rfl ?_
    refine zJ hS Xh kh jL hx bW (i:=3) rfl ?_
    refine Cc (ql H2 cv C key val hC EE) ?_;clear hS
    rintro v3 post ⟨u,bb,H3,gE,rfl,xC,rfl⟩ w hS
    try simp only[app]at hS
    have h1:=xC.one
    refine Gp ?_
    refine y8 (SL.b6 hS (t:=.ob (a7 sv 53 1 T.length vs)::.pt r [sv] 157::.mem H3::F) Xi) ht h1 λw hS=>?_
    refine Gp ?_
    exact⟨jg gE xC m0 hS,by dsimp only;omega⟩
  ·obtain rfl:i=l.length:=by omega
   rw[List.take_length]at hS
   exact⟨[.mem H2,.ob (eC H2 r (eZ ts l))],by unfold vd;rw[if_pos VR];exact⟨rfl,H2,hH,rfl⟩,hS⟩
theorem qA(H:aW)(r:Nat)(ts:gg)(hn:∀C∈ts,C.length<=1000000):
  SP 248 [dg r] [.mem H,.ob (eC H r ts)] (λu post=>∃(r2:Nat) (H':aW),H.le H'/\u=dg r2/\post=[.mem H',.ob (eC H' r ts),.ob (eC H' r2 ts)]):=by
 intro W F w hS;apply bRq;delta JR aF bw cF df ai c_ bF;(try simp only[app]at hS)
 obtain⟨sv,vs,hR,hS⟩:=eC.iff.1 (SL.b6 hS (t:=.ob (eC H r ts)::.mem H::F) Xi)
 have h8:=hR.2
 refine Gp ?_
 refine zr hS (v:=sv) (t:=53) (sz:=1) (n:=ts.length) (cells:=vs) Xh ?_
 refine AM hS (by omega) (by omega) (by omega) ?_
 clear hS;intro bv w hS
 have hz:db [.slice none 0 0] ts.length=List.replicate ts.length (.slice none 0 0:Value):=by simp[db]
 rw[hz]at hS
 have hS:=a7.full (n:=ts.length) (sz:=1) (by simp) hS
 generalize V9:(Value.slice (some ⟨bv,0,none⟩) ts.length ts.length)=nv at *
 have h1:nv.oneCell'=true:=by rw[<- V9];rfl
 refine yr (Bu h1) ?_
 refine⟨_,rfl,zI hS ?_⟩
 clear hS;intro r2 w hS
 refine⟨λus w=>∃(i:Nat) (H2:aW) (wJ:List Value),us=[.int .i64 i]/\i<=ts.length/\H.le H2/\jo H2 wJ (ts.take i++List.replicate (ts.length-i) [])/\SL W (.pt r2 [nv] 157::.ob (a7 nv 53 1 ts.length wJ)::.pt r [sv] 157::.ob (a7 sv 53 1 ts.length vs)::.mem H2::F) w,
  λus _=>match us with|[.int _ i]=>(ts.length-i).toNat|_=>0,⟨0,H,List.replicate ts.length (.slice none 0 0),rfl,by omega,aW.le_refl H,⟨by simp,λi v C h1 h2=>by
   rw[List.take_zero,List.nil_append,List.getElem?_replicate]at h2
   rw[List.getElem?_replicate]at h1
   split at h1
   ·cases h1;split at h2
    all_goals first|(cases h2;exact dy.nil H 2)|(cases h2)
   ·cases h1⟩,aR hS⟩,?_⟩
 clear hS
 rintro v4 w ⟨i,H2,wJ,da,hi,hH,jU,hS⟩
 cases da
 refine Gp ?_
 refine zr hS (v:=sv) (t:=53) (sz:=1) (n:=ts.length) (cells:=vs) Xh ?_
 refine bR (λh=>?_) (λh=>?_)
 ·have bW:i<ts.length:=by omega
  have uK:i<vs.length:=by rw[hR.1.1];exact bW
  have r9:vs[i]?=some vs[i]:=List.getElem?_eq_getElem uK
  have hC:=(hR.1.2 i vs[i] ts[i] r9 (List.getElem?_eq_getElem bW)).mono hH
  have EE:=hn _ (List.getElem_mem bW)
  have ra:(ts.take i++List.replicate (ts.length-i) ([]:List Row)).set i ts[i]=ts.take (i+1)++List.replicate (ts.length-(i+1)) []:=by
   rw[List.set_append_right _ _ (by rw[List.length_take];omega),List.length_take,Nat.min_eq_left hi,Nat.sub_self,show ts.length-i=(ts.length-(i+1))+1 by omega,List.replicate_succ,List.set_cons_zero,List.take_succ_eq_append_getElem bW,List.append_assoc];rfl
  generalize ts[i]=C at *
  generalize vs[i]=cv at *
  refine Gn λw hS=>?_
  obtain⟨sa,sc,rfl,B9,XA⟩:=a7.at hS (v:=sv) (t:=53) (sz:=1) (n:=ts.length) (cells:=vs) Xh
  obtain⟨sb,rfl,_⟩:=XA i bW
  have ix:vs[0+i*1]?=some cv:=by rw[Nat.zero_add,Nat.mul_one];exact r9
  refine zB bW ?_
  refine qs hS (t:=53) (sz:=1) (cells:=vs) Xh (by omega) ix ?_
  refine zy hS (cells:=[]) rfl ?_
  clear hS;intro b1 w hS
  refine Gp ?_
  refine qs hS (t:=53) (sz:=1) (cells:=vs) Xh (by omega) ix (YO ?_)
  have hS:=a7.full (n:=0) (sz:=2) (b:=b1) (t:=52) (cells:=[]) rfl hS
  refine zx (n:=0) (m:=C.length) hS Xr (nQ hS Xh hC) (jF fQ _) rfl (m_ vA _) (by omega) (by omega) ?_
  clear hS;intro u w hS
  rw[List.nil_append,Nat.zero_add]at hS
  obtain⟨H3,gE,hO,hS⟩:=zE (H:=H2) (v:=u) (n:=C.length) (sz:=2) (t:=52) (cells:=(C.map dX).flatten) hS Xp
  have h1:=hO.one
  refine Gp ?_
  refine y8 (SL.b6 hS (t:=.ob (a7 nv 53 1 ts.length wJ)::.pt r2 [nv] 157::.pt r [.slice (some ⟨sb,0,none⟩) ts.length sc] 157::.ob (a7 (.slice (some ⟨sb,0,none⟩) ts.length sc) 53 1 ts.length vs)::.mem H3::F) Xi) bW h1 λw hS=>?_
  refine Gp ?_
  refine⟨⟨i+1,H3,wJ.set i u,rfl,by omega,aW.le_trans hH gE,?_,aR hS⟩,by dsimp only;omega⟩
  rw[<- ra]
  exact (jU.mono gE).set hO
 ·obtain rfl:i=ts.length:=by omega
  rw[List.take_length,Nat.sub_self,List.replicate_zero,List.append_nil]at jU
  have hS:=eC.put (H:=H2) ts (hR.1.mono hH) hR.2 hS (r:=r) (v:=sv) (vs:=vs) Xp
  have hS:=eC.put (H:=H2) ts jU hR.2 hS (r:=r2) (v:=nv) (vs:=wJ) Xp
  exact⟨_,⟨r2,H2,hH,rfl,rfl⟩,aR hS⟩
theorem qE(H:aW)(r:Nat)(ts:gg)(v:Value)(l:List dW)(hv:dy H 4 v l.length (l.map gi).flatten){L0:Nat}(hL:∀C∈ts,C.length<=L0)(hn:L0+l.length<=1000000):
  SP 182 [dg r,v] [.mem H,.ob (eC H r ts)] (λu post=>∃H',H.le H'/\u= .bool (lE ts l)/\post=[.mem H',.ob (eC H' r ts)]):=by
 intro W F w hS;apply bF9;delta I0 aF bw dc b7 ai;(try simp only[app]at hS)
 refine Cc (qA H r ts (λC hC=>by have:=hL C hC;omega)) ?_;clear hS
 rintro _ post ⟨r2,H1,d_,rfl,rfl⟩ w hS
 try simp only[app]at hS
 refine Cc (yS H1 r2 ts v l (hv.mono d_) hL hn) ?_;clear hS
 rintro u post hq w hS
 unfold vd at hq
 by_cases ha:l.all (gd ts.length)=true
 ·rw[if_pos ha]at hq
  obtain⟨rfl,H2,eh,rfl⟩:=hq
  try simp only[app]at hS
  refine zO (zq ?_)
  have hS:=eC.gC eh hS (r:=r) (ts:=ts) Xr
  have hf:lE ts l=(eZ ts l).all λC=>decide (C.length<=1000):=by unfold lE;rw[ha];rfl
  obtain⟨sv,vs,hR,hS⟩:=eC.iff.1 (SL.b6 hS (t:=.ob (eC H2 r2 (eZ ts l))::.ob (eC H2 r ts)::.mem H2::F) Xi)
  generalize eZ ts l=T at *
  refine⟨λus w=>∃i:Nat,us=[.int .i64 i]/\i<=T.length/\(∀j (h:j<T.length),j<i->T[j].length<=1000)/\SL W (.pt r2 [sv] 157::.ob (a7 sv 53 1 T.length vs)::.ob (eC H2 r ts)::.mem H2::F) w,λus _=>match us with|[.int _ i]=>(T.length-i).toNat|_=>0,⟨0,rfl,by omega,λj h hj=>by omega,hS⟩,?_⟩
  clear hS
  rintro v6 w ⟨i,da,hi,dY,hS⟩
  cases da
  refine Gp ?_
  refine zr hS (v:=sv) (t:=53) (sz:=1) (n:=T.length) (cells:=vs) Xh ?_
  refine bR (λh=>?_) (λh=>?_)
  ·have bW:i<T.length:=by omega
   have uK:i<vs.length:=by rw[hR.1.1];exact bW
   have r9:vs[i]?=some vs[i]:=List.getElem?_eq_getElem uK
   have hC:=hR.1.2 i vs[i] T[i] r9 (List.getElem?_eq_getElem bW)
   refine Gp ?_
   refine z7 hS Xh bW r9 ?_
   refine zm hC ?_
   refine bR (λh2=>?_) (λh2=>?_)
   ·refine⟨[.mem H2,.ob (eC H2 r ts)],⟨H2,aW.le_trans d_ eh,?_,rfl⟩,aR hS⟩
    rw[hf,show T.all (λC=>decide (C.length<=1000))=false from List.all_eq_false.2 ⟨_,List.getElem_mem bW,by rw[decide_eq_true_eq];omega⟩]
   ·refine Gp ?_
    refine⟨⟨i+1,rfl,by omega,λj hj gZ=>?_,aR hS⟩,by dsimp only;omega⟩
    by_cases e:j=i
    ·subst e;omega
    ·exact dY j hj (by omega)
  ·refine⟨[.mem H2,.ob (eC H2 r ts)],⟨H2,aW.le_trans d_ eh,?_,rfl⟩,aR hS⟩
   rw[hf,show T.all (λC=>decide (C.length<=1000))=true from List.all_eq_true.2 λC hC=>by
    obtain⟨j,hj,rfl⟩:=List.getElem_of_mem hC
    exact decide_eq_true (dY j hj (by omega))]
 ·rw[if_neg ha]at hq
  obtain⟨rfl,rfl⟩:=hq
  try simp only[app]at hS
  refine zO (zw ?_)
  refine⟨[.mem H1,.ob (eC H1 r ts)],⟨H1,d_,?_,rfl⟩,aR hS⟩
  unfold lE
  rw[Bool.eq_false_iff.2 ha]
  rfl
theorem gW.head{L:List dz}(h:gW L)(hL:L≠[]):b9 L=e_ L+(eF L).length-1:=by
 induction L with
 | nil=>exact absurd rfl hL
 | cons s r ih=>
  cases r with
  | nil=>simp[b9,e_,eF,dz.next]
  | cons t r=>
   have h1:=ih h.2 (by simp)
   have h2:b9 (s::t::r)=b9 (t::r):=by simp only[b9,List.getLast?_cons_cons]
   have h3:=h.1
   rw[h2,h1,tZ s (t::r),List.length_append]
   simp only[dz.next]at h3
   show e_ (t::r)+_-1=s.first+_-1
   have:e_ (t::r)=t.first:=rfl
   rw[this];omega
theorem gW.read:∀{L:List dz},gW L->∀i:Nat,g9 L (e_ L+i)=(eF L)[i]?
 | [],_,i=>by simp[g9,eF]
 | [s],_,i=>by
  have e:e_ [s]=s.first:=rfl
  rw[e,g9,tZ]
  have he:eF []=([]:List (List UInt8)):=rfl
  rw[he,List.append_nil]
  by_cases h:i<s.l.length
  ·rw[if_pos ⟨by omega,by show s.first+i<s.first+s.l.length;omega⟩]
   congr 1;omega
  ·rw[if_neg (by rintro ⟨_,h2⟩;have h2:s.first+i<s.first+s.l.length:=h2;omega),List.getElem?_eq_none (by omega)];rfl
 | s::t::r,h,i=>by
  have e:e_ (s::t::r)=s.first:=rfl
  have e2:e_ (t::r)=t.first:=rfl
  have h1:=h.1
  simp only[dz.next]at h1
  rw[e,g9,tZ]
  by_cases hi:i<s.l.length
  ·rw[if_pos ⟨by omega,by show s.first+i<s.first+s.l.length;omega⟩,List.getElem?_append_left hi]
   congr 1;omega
  ·rw[if_neg (by rintro ⟨_,h2⟩;have h2:s.first+i<s.first+s.l.length:=h2;omega),List.getElem?_append_right (by omega)]
   have:=gW.read h.2 (i-s.l.length)
   rw[e2]at this
   rw[<- this]
   congr 1;omega
theorem RA{d d':DS}{base size:Int}{N:Nat}(hw:nY d.R base N)(hR:d.R.length<=100000){g:dJ}(h:gD d base size=(d',.ok g)):kP g (N+100000):=by
 have hk:=(aFc hw hR h).1
 unfold gD at h
 split at h
 ·cases h
 ·split at h
  ·cases h
  ·split at h
   ·cases h
   ·rename_i L wh hl
    obtain⟨k1,k2⟩:=PT _ _ [] _ trivial (by decide) hl
    split at h
    ·cases h
    ·cases h
     exact⟨hk,k1,k2,λx hx=>by cases hx⟩
theorem Pw:∀(l:List Nat) (a N:Nat),a<=N->l.Pairwise (· < ·)->(∀x∈l,a<=x/\x<N)->l.length+a<=N
 | [],a,N,h,_,_=>by simpa using h
 | x::l,a,N,_,hp,hx=>by
  have h1:=hx x (.head _)
  obtain⟨pj,p_⟩:=List.pairwise_cons.1 hp
  have:=Pw l (x+1) N (by omega) p_ λy hy=>⟨pj y hy,(hx y (.tail _ hy)).2⟩
  rw[List.length_cons];omega
theorem DS.Ok.wD{s:DS}{N:Nat}(h:s.Ok N):s.R.length<=16384:=by
 have hs:(s.R.map λx=>x.id.toNat).Pairwise (· < ·):=by
  rw[List.pairwise_map]
  refine List.Pairwise.imp_of_mem (λ{a b} ha hb dZ=>?_) h.sorted
  have h1:=h.ids a ha
  have h2:=h.ids b hb
  have dZ:a.id<b.id:=dZ
  omega
 have:=Pw _ 0 16384 (by decide) hs λn hn=>by
  obtain⟨x,hx,rfl⟩:=List.mem_map.1 hn
  have:=h.ids x hx
  omega
 simpa using this
def Tg(dp:Nat)(d:DS)(H:aW)(n:Nat)(f:Int)(r:Value)(post:List Chunk):Prop:=∃H',H.le H'/\post=[.ob (b_ dp d),.mem H']/\match ij d.R n f with
 | none=>∃a b,r= .tuple #[a,b,.bool false]
 | some y=>∃v,nU H' v y.2/\r= .tuple #[.int .i64 y.1,v,.bool true]
theorem QM(dp:Nat)(d:DS)(H:aW)(n:Nat)(f:Int){N:Nat}(b5:d.Ok N)(hN:N<=140737488355328):
  SP 140 [dg dp,.int .i64 f,.int .i64 (n:Nat)] [.ob (b_ dp d),.mem H] (Tg dp d H n f):=by
 intro W F w hS;apply bFa;delta Im aF dc ai bF;(try simp only[app]at hS)
 refine Cc (Z5 dp d N b5 hN f) ?_;clear hS
 rintro r post hq w hS
 unfold wY at hq
 cases hg:dP PF.id d.R f with
 | none=>
  rw[hg]at hq
  obtain⟨rfl,rfl⟩:=hq
  have hi:ij d.R n f=none:=by unfold ij;rw[hg]
  (try simp only[app]at hS);refine Gp ?_
  refine zw ?_
  refine⟨[.ob (b_ dp d),.mem H],⟨H,aW.le_refl H,rfl,?_⟩,aR hS⟩
  rw[hi];exact⟨_,_,rfl⟩
 | some x=>
  rw[hg]at hq
  obtain⟨u,rfl,rfl⟩:=hq
  have nG:=b5.len x (pV hg).1
  (try simp only[app]at hS);refine Gp ?_
  refine zq ?_
  refine Cc (Y9 (.ob (a7 u 5 1 x.b.length (x.b.map cI))) H u x.b dN.own (by omega)) ?_;clear hS
  rintro r post hq w hS
  unfold wQ at hq
  cases hd:iD x.b with
  | none=>
   rw[hd]at hq
   obtain⟨rfl,H',hh,rfl⟩:=hq
   have hi:ij d.R n f=none:=by unfold ij;rw[hg];simp only;rw[hd]
   (try simp only[app]at hS);refine Gp ?_
   refine za (λh=>absurd h (by decide)) (λ_=>?_)
   refine⟨[.ob (b_ dp d),.mem H'],⟨H',hh,rfl,?_⟩,aR hS⟩
   rw[hi];exact⟨_,_,rfl⟩
  | some y=>
   rw[hd]at hq
   obtain⟨v,H',hh,hT,rfl,rfl⟩:=hq
   have hi:ij d.R n f=if y.2.length=n then some y else none:=by unfold ij;rw[hg];simp only;rw[hd]
   (try simp only[app]at hS);refine Gp ?_
   refine za (λ_=>?_) (λh=>absurd rfl h)
   refine yo hT ?_
   refine Gp ?_
   refine⟨[.ob (b_ dp d),.mem H'],⟨H',hh,rfl,?_⟩,aR hS⟩
   rw[hi]
   by_cases hl:y.2.length=n
   ·rw[if_pos hl,decide_eq_true (by omega)]
    exact⟨v,hT,rfl⟩
   ·rw[if_neg hl,decide_eq_false (by omega)]
    exact⟨_,_,rfl⟩
def loadAt(R:List PF)(n:Nat)(x:np):Nat->np
 | 0=>x
 | 1=>fh R n 0 x
 | _=>fh R n 1 (fh R n 0 x)
theorem Cf{R:List PF}{n:Nat}{f:Int}{y:Int × gg}(h:ij R n f=some y):g8 y.1 y.2=true/\y.2.length=n:=by
 unfold ij at h
 split at h
 ·cases h
 ·split at h
  ·cases h
  ·rename_i hd
   split at h
   ·rename_i hl
    cases h
    exact⟨MD hd,hl⟩
   ·cases h
theorem a7o{α:Type}{l m:List α}{i:Nat}(hi:i<l.length)(h:m.length=l.length):(l.take i++m.drop i).set i l[i]=l.take (i+1)++m.drop (i+1):=by
 rw[List.set_append_right _ _ (by rw[List.length_take];omega),List.length_take,show i-min i l.length=0 by omega,List.drop_eq_getElem_cons (by omega:i<m.length),List.set_cons_zero,List.take_succ_eq_append_getElem hi,List.append_assoc]
 rfl
theorem PO{R:List PF}{n:Nat}{x:np}{j:Nat}(h:j<=1):loadAt R n x (j+1)=fh R n j (loadAt R n x j):=by
 match j,h with
 | 0,_=>rfl
 | 1,_=>rfl
theorem F2{R:List PF}{n:Nat}{f:Int}{x:np}(h:x.2.2.length=n):(fh R n f x).2.2.length=n:=by
 unfold fh
 cases hi:ij R n f with
 | none=>exact h
 | some y=>
  simp only
  split
  ·exact h
  ·exact (Cf hi).2
theorem aim{R:List PF}{n:Nat}{f:Int}{x:np}(h:0<=x.2.1/\x.2.1<=1099511627776):0<=(fh R n f x).2.1/\(fh R n f x).2.1<=1099511627776:=by
 unfold fh
 cases hi:ij R n f with
 | none=>exact h
 | some y=>
  simp only
  split
  ·exact h
  ·have:=(pA.1 (Cf hi).1).1
   exact⟨this.1,this.2.1⟩
theorem QT(sp tp dp lp:Nat)(d:DS)(H:aW)(x0:np)(n:Nat)(Aq:x0.2.2.length=n)(h8:n<=8){N:Nat}(b5:d.Ok N)(hN:N<=140737488355328):
  SP 56 [dg sp] [.pt sp (mG tp dp lp x0.1 x0.2.1) 58,.ob (eP tp x0.2.2),.ob (b_ dp d),.mem H] (λ_ post=>∃H',H.le H'/\post=[.pt sp (mG tp dp lp (fh d.R n 1 (fh d.R n 0 x0)).1 (fh d.R n 1 (fh d.R n 0 x0)).2.1) 58,.ob (eP tp (fh d.R n 1 (fh d.R n 0 x0)).2.2),.ob (b_ dp d),.mem H']):=by
 intro W F w hS;apply b51;delta K7 aF bw dx cF df dc ai;(try simp only[app]at hS)
 refine⟨λus w=>∃(j:Nat) (H':aW),us=[.int .i64 j]/\j<=2/\H.le H'/\(loadAt d.R n x0 j).2.2.length=n/\SL W (.pt sp (mG tp dp lp (loadAt d.R n x0 j).1 (loadAt d.R n x0 j).2.1) 58::.ob (eP tp (loadAt d.R n x0 j).2.2)::.ob (b_ dp d)::.mem H'::F) w,
  λus _=>match us with|[.int _ i]=>(2-i).toNat|_=>0,⟨0,H,rfl,by omega,aW.le_refl H,Aq,hS⟩,?_⟩
 clear hS
 rintro v2 w ⟨j,H',da,hj,hh,nG,hS⟩
 cases da
 refine bR (λh=>?_) (λh=>?_)
 ·have kG:j<=1:=by omega
  have iy:=PO (R:=d.R) (n:=n) (x:=x0) kG
  have ig:∀{w:World} {H2:aW} (y:np),fh d.R n j (loadAt d.R n x0 j)=y->H.le H2->SL W (.pt sp (mG tp dp lp y.1 y.2.1) 58::.ob (eP tp y.2.2)::.ob (b_ dp d)::.mem H2::F) w ->
    ∃(j':Nat) (H':aW),[Value.int .i64 ((j+1:Nat):Int)]=[.int .i64 j']/\j'<=2/\H.le H'/\(loadAt d.R n x0 j').2.2.length=n/\SL W (.pt sp (mG tp dp lp (loadAt d.R n x0 j').1 (loadAt d.R n x0 j').2.1) 58::.ob (eP tp (loadAt d.R n x0 j').2.2)::.ob (b_ dp d)::.mem H'::F) w:=λy hy gv hS=>by
   refine⟨j+1,_,rfl,by omega,gv,?_,?_⟩
   ·rw[iy];exact F2 nG
   ·rw[iy,hy];exact hS
  generalize hx:loadAt d.R n x0 j=x at *
  refine Gn λw hS=>?_
  refine Cg (yR tp x.2.2) λw hS=>?_
  refine Cc (QM dp d H' x.2.2.length j b5 hN) ?_;clear hS
  rintro r post ⟨H2,eh,rfl,hq⟩ w hS
  try simp only[app]at hS
  rw[nG]at hq
  have gv:=aW.le_trans hh eh
  cases hi:ij d.R n j with
  | none=>
   rw[hi]at hq
   obtain⟨a,b,rfl⟩:=hq
   refine Gp ?_
   refine⟨λus w=>False,?_,λw h=>h.elim⟩
   refine zO (zw ?_)
   refine Gp ?_
   exact⟨ig x (by unfold fh;rw[hi]) gv (aR hS),by dsimp only;omega⟩
  | some y=>
   rw[hi]at hq
   obtain⟨v,hT,rfl⟩:=hq
   obtain⟨s5,px⟩:=Cf hi
   have pY:=(pA.1 s5).2
   refine Gp ?_
   refine⟨λus w=>us=[]/\¬(0<=x.1/\y.1<=x.2.1)/\SL W (.pt sp (mG tp dp lp x.1 x.2.1) 58::.ob (eP tp x.2.2)::.ob (b_ dp d)::.mem H2::F) w,?_,?_⟩
   ·refine zO (zq ?_)
    refine bR (λh0=>?_) (λh0=>?_)
    ·refine bR (λh1=>?_) (λh1=>?_)
     ·refine Gp ?_
      exact⟨ig x (by unfold fh;rw[hi];simp only;rw[if_pos ⟨h0,h1⟩]) gv (aR hS),by dsimp only;omega⟩
     ·exact⟨rfl,λh=>h1 h.2,aR hS⟩
    ·exact⟨rfl,λh=>h0 h.1,aR hS⟩
   clear hS
   rintro w ⟨-,hc,hS⟩
   refine Gn λw hS=>?_
   refine yo hT ?_
   have hS:SL W (_::.ob (eP tp (y.2.take 0++x.2.2.drop 0))::_) _:=hS
   refine⟨λus w=>∃i:Nat,us=[.int .i64 i]/\i<=y.2.length/\SL W (.ob (eP tp (y.2.take i++x.2.2.drop i))::.pt sp (mG tp dp lp j y.1) 58::.ob (b_ dp d)::.mem H2::F) w,
    λus _=>match us with|[.int _ i]=>(y.2.length-i).toNat|_=>0,⟨0,rfl,by omega,aR hS⟩,?_⟩
   clear hS
   rintro C3 w ⟨i,da,bW,hS⟩
   cases da
   refine bR (λh=>?_) (λh=>?_)
   ·have bW:i<y.2.length:=by omega
    have jH:=a7o (m:=x.2.2) bW (by omega)
    have pr:i<(y.2.take i++x.2.2.drop i).length:=by rw[List.length_append,List.length_take,List.length_drop];omega
    have N3:=pY _ (List.getElem_mem bW)
    refine YN hS Xh hT bW λu hu=>?_
    generalize y.2[i]=C at *
    generalize y.2.take i++x.2.2.drop i=T at *
    refine Gp ?_
    refine Cg (Qp tp T H2 u i C pr hu N3.sorted (by have:=N3.len;omega)) λw hS=>?_
    refine⟨⟨i+1,rfl,by omega,?_⟩,by dsimp only;omega⟩
    rw[<- jH]
    exact aR hS
   ·obtain rfl:i=y.2.length:=by omega
    rw[List.take_length,List.drop_eq_nil_of_le (by omega),List.append_nil]at hS
    refine Gp ?_
    exact⟨ig (j,y.1,y.2) (by unfold fh;rw[hi];simp only;rw[if_neg hc]) gv (aR hS),by dsimp only;omega⟩
 ·obtain rfl:j=2:=by omega
  exact⟨_,⟨H',hh,rfl⟩,hS⟩
def du.tw(k:du):Option gg:=match kM k.ts.length k.image (eF k.g.bI) (e_ k.g.bI) k.ts with
 | none=>none
 | some ts=>if k.image<=b9 k.g.bI/\e_ k.g.bI<=k.image+1 then some ts else none
theorem M8{L:List dz}(h:gW L):b9 L-e_ L+1=((eF L).length:Int):=by
 by_cases hL:L=[]
 ·subst hL;rfl
 ·rw[h.head hL];omega
theorem PX{L:List dz}{N:Nat}(h:∀s∈L,jA s N):1<=e_ L/\e_ L<=1099511627776:=by
 cases L with
 | nil=>exact⟨Int.le_refl _,by show (1:Int)<=_;decide⟩
 | cons s r=>exact⟨(h s (.head _)).n0,(h s (.head _)).n1⟩
theorem R1{n:Nat}{image:Int}{b:List UInt8}{r:List (List UInt8)}{aI:Int}{ts:gg}:kM n image (b::r) aI ts=match iU b with
  | .error _=>none
  | .ok t=>if t.aI=aI/\(∀c∈t.changes,c.table<(n:Int)) then kM n image r (aI+1) (if image<aI then eZ ts t.changes else ts) else none:=rfl
theorem Q4(sp tp dp lp:Nat)(H:aW)(k:du){N:Nat}(hg:kP k.g N)(hN:N<=1000000000)(hs:∀C∈k.ts,fZ C){L0:Nat}(hn:∀C∈k.ts,C.length<=L0)(hL:L0+16*(eF k.g.bI).length<=900000)(ow:0<=k.image/\k.image<=1099511627776):
  SP 57 [dg sp] [.ob (dU sp tp dp lp k),.mem H] (λv post=>∃H',H.le H'/\match k.tw with
   | none=>v= .bool false/\post=[.mem H']
   | some ts=>v= .bool true/\post=[.ob (dU sp tp dp lp {k with ts:=ts}),.mem H']):=by
 intro W F w hS;apply b52;delta K8 aF bw a_ cF df dc b7 ai bF;(try simp only[app]at hS)
 have hF:∀{w:World} {H':aW},k.tw=none->H.le H'->SL W (.mem H'::F) w->∃post,(∃H',H.le H'/\match k.tw with
   | none=>(.bool false:Value)= .bool false/\post=[.mem H']
   | some ts=>(.bool false:Value)= .bool true/\post=[.ob (dU sp tp dp lp {k with ts:=ts}),.mem H'])/\SL W (app post F) w:=λhr hh hS=>by
  rw[hr]
  exact⟨[.mem _],⟨_,hh,rfl,rfl⟩,hS⟩
 have sY:=M8 hg.seq
 have sZ:=PX hg.ok.bI
 have xQ:=hg.hd
 refine Cg (Yx sp tp dp lp k hg hN) λw hS=>?_
 refine⟨λus w=>∃(i:Nat) (T:gg) (H2:aW),us=[.int .i64 (e_ k.g.bI+i)]/\i<=(eF k.g.bI).length/\kM k.ts.length k.image (eF k.g.bI) (e_ k.g.bI) k.ts=kM k.ts.length k.image ((eF k.g.bI).drop i) (e_ k.g.bI+i) T/\T.length=k.ts.length/\(∀C∈T,fZ C)/\(∀C∈T,C.length<=L0+16*i)/\H.le H2/\SL W (.ob (dU sp tp dp lp {k with ts:=T})::.mem H2::F) w,
  λus _=>match us with|[.int _ i]=>(b9 k.g.bI+1-i).toNat|_=>0,⟨0,k.ts,H,by simp,by omega,by simp,rfl,hs,by simpa using hn,aW.le_refl H,aR hS⟩,?_⟩
 clear hS
 rintro v3 w ⟨i,T,H2,da,hi,dE,kU,pY,nC,hh,hS⟩
 cases da
 refine Cg (yl sp tp dp lp {k with ts:=T} hg hN) λw hS=>?_
 refine za (λh=>?_) (λh=>?_)
 ·have h:e_ k.g.bI+i<=b9 k.g.bI:=h
  have bW:i<(eF k.g.bI).length:=by omega
  have Af:=hg.seq.read i
  rw[List.getElem?_eq_getElem bW]at Af
  rw[List.drop_eq_getElem_cons bW,R1]at dE
  generalize (eF k.g.bI)[i]=bs at *
  have j8:1<=e_ k.g.bI+i/\e_ k.g.bI+i<=1099511627776:=by omega
  generalize WW:e_ k.g.bI+i=aI at *
  have rY:(match iU bs with
   | .error _=>none
   | .ok t=>if t.aI=aI/\(∀c∈t.changes,c.table<(k.ts.length:Int)) then kM k.ts.length k.image ((eF k.g.bI).drop (i+1)) (aI+1) (if k.image<aI then eZ T t.changes else T) else none)=none->k.tw=none:=λh=>by unfold du.tw;rw[dE,h]
  refine Cc (zY sp tp dp lp {k with ts:=T} hg hN H2 aI (by omega)) ?_;clear hS
  rintro r post hq w hS
  unfold rC du.fp at hq
  simp only at hq
  rw[Af]at hq
  simp only at hq
  cases hd:iU bs with
  | error e=>
   rw[hd]at hq rY
   obtain⟨dV,H3,gE,rfl,rfl⟩:=hq
   refine Gm λb w hS=>?_
   refine za (λ_=>?_) (λh=>absurd dV h)
   exact hF (rY rfl) (aW.le_trans hh gE) (aR hS)
  | ok t=>
   rw[hd]at hq rY dE
   obtain⟨x,H3,gE,rfl,hx,rfl⟩:=hq
   have mw:=aW.le_trans hh gE
   obtain⟨FE,v_,FF,FG,FH,Ak,FI⟩:=kJ (MG hd)
   try simp only[app]at hS
   refine Gp ?_
   refine zI hS λxb w hS=>?_
   refine zz (vs:=eI x) hS Xu rfl rfl (mo (aI:=x.aI) (kind:=x.kind) (mark:=x.mark) hx.cv.one hx.sv.one) λw hS=>?_
   unfold eI at hS
   rw[hx.aI,hx.kind,hx.mark]at hS
   refine Gn λw hS=>?_
   refine za (λh=>absurd rfl h) (λ_=>?_)
   refine bR (λhl=>?_) (λhl=>?_)
   ·exact hF (rY (by simp only;rw[if_neg λh=>hl h.1])) mw (aR hS)
   have hS:=dU.iff.1 (SL.b6 hS (t:=.ob (dU sp tp dp lp {k with ts:=T})::.pt xb [.int .i64 t.aI,.int .i64 t.kind,x.cv,x.sv,.int .i64 t.mark] 39::.mem H3::F) Xi)
   refine Gp ?_
   refine Cg (yR tp T) λw hS=>?_
   refine Cg (ZS H3 x.cv t.changes T.length hx.cv (by omega)) λw hS=>?_
   rw[kU]
   refine zA (λhb=>?_) (λhb=>?_)
   ·have hb:=of_decide_eq_false hb
    exact hF (rY (by simp only;rw[if_neg λh=>hb h.2])) mw (aR hS)
   have hb:=of_decide_eq_true hb
   have dY:t.changes.all (gd T.length)=true:=List.all_eq_true.2 λc hc=>decide_eq_true ⟨(td.1 (Ak c hc)).1,by rw[kU];exact hb c hc⟩
   simp only at dE
   rw[if_pos (show t.aI=aI/\∀c∈t.changes,c.table<(k.ts.length:Int) from ⟨by omega,hb⟩)]at dE
   have uB:aI+1=e_ k.g.bI+((i+1:Nat):Int):=by omega
   rw[uB]at dE
   refine bR (λrU=>?_) (λrU=>?_)
   ·rw[if_pos (show k.image<aI by omega)]at dE
    refine Gn λw hS=>?_
    refine Cg (ZK tp T H3 x.cv t.changes hx.cv (by omega) pY (L0+16*i) nC (by omega)) λw hS=>?_
    rw[if_pos dY]at hS
    rw[uB]
    refine⟨⟨i+1,eZ T t.changes,H3,rfl,by omega,dE,by rw[pK];exact kU,Be pY λc hc=>List.all_eq_true.1 dY c hc,λC hC=>?_,mw,SL.b6 (dU.put {k with ts:=eZ T t.changes} hS Xp) Xi⟩,by dsimp only;omega⟩
    have:=vo (L0+16*i) (l:=t.changes) nC (λc hc=>List.all_eq_true.1 dY c hc) C hC
    omega
   ·rw[if_neg (show ¬k.image<aI by omega)]at dE
    refine Gp ?_
    rw[uB]
    exact⟨⟨i+1,T,H3,rfl,by omega,dE,kU,pY,λC hC=>by have:=nC C hC;omega,mw,SL.b6 (dU.put {k with ts:=T} hS Xp) Xi⟩,by dsimp only;omega⟩
 ·have h:¬e_ k.g.bI+i<=b9 k.g.bI:=h
  obtain rfl:i=(eF k.g.bI).length:=by omega
  rw[List.drop_length]at dE
  have dE:kM k.ts.length k.image (eF k.g.bI) (e_ k.g.bI) k.ts=some T:=dE
  have hR:k.tw=if k.image<=b9 k.g.bI/\e_ k.g.bI<=k.image+1 then some T else none:=by unfold du.tw;rw[dE]
  have hS:SL W (.pt sp (mG tp dp lp k.fX k.image) 58::.ob (eP tp T)::.ob (eb lp dp k.g)::_) _:=dU.iff.1 hS
  refine Gn λw hS=>?_
  have hS:=dU.put {k with ts:=T} hS Xp
  refine Cg (yl sp tp dp lp {k with ts:=T} hg hN) λw hS=>?_
  have hS:SL W (.pt sp (mG tp dp lp k.fX k.image) 58::.ob (eP tp T)::.ob (eb lp dp k.g)::_) _:=dU.iff.1 hS
  refine bR (λh1=>?_) (λh1=>?_)
  ·have h1:k.image<=b9 k.g.bI:=h1
   refine Gp ?_
   have hS:=dU.put {k with ts:=T} hS Xp
   refine Cg (Yx sp tp dp lp {k with ts:=T} hg hN) λw hS=>?_
   have hS:SL W (.pt sp (mG tp dp lp k.fX k.image) 58::.ob (eP tp T)::.ob (eb lp dp k.g)::_) _:=dU.iff.1 hS
   refine Gp ?_
   have hS:=dU.put {k with ts:=T} hS Xp
   by_cases h2:e_ k.g.bI<=k.image+1
   ·rw[decide_eq_true (show e_ ({k with ts:=T}:du).g.bI<=k.image+1 from h2)]
    refine⟨[.ob (dU sp tp dp lp {k with ts:=T}),.mem H2],⟨H2,hh,?_⟩,aR hS⟩
    rw[hR,if_pos ⟨h1,h2⟩]
    exact⟨rfl,rfl⟩
   ·rw[decide_eq_false (show ¬e_ ({k with ts:=T}:du).g.bI<=k.image+1 from h2)]
    exact hF (by rw[hR,if_neg λh=>h2 h.2]) hh (aR hS)
  ·exact hF (by rw[hR,if_neg λh=>h1 h.1]) hh (aR hS)
def HA(dp:Nat)(H:aW)(y:DS × Except Int du)(r:Value)(post:List Chunk):Prop:=match y.2 with
 | .error e=>e≠0/\∃H',H.le H'/\r= .tuple #[.pointer none,.int .i64 e]/\post=[.ob (b_ dp y.1),.mem H']
 | .ok k=>∃sp tp lp H',H.le H'/\r= .tuple #[dg sp,.int .i64 0]/\post=[.ob (dU sp tp dp lp k),.ob (b_ dp y.1),.mem H']
theorem PR{R:List PF}{n:Nat}{x:np}(hx:x.2.2.length=n/\(0<=x.2.1/\x.2.1<=1099511627776)/\∀C∈x.2.2,wZ C)(f:Int):(fh R n f x).2.2.length=n/\(0<=(fh R n f x).2.1/\(fh R n f x).2.1<=1099511627776)/\∀C∈(fh R n f x).2.2,wZ C:=by
 refine⟨F2 hx.1,aim hx.2.1,?_⟩
 unfold fh
 cases hi:ij R n f with
 | none=>exact hx.2.2
 | some y=>
  simp only
  split
  ·exact hx.2.2
  ·exact (pA.1 (Cf hi).1).2
theorem PQ(R:List PF)(n:Nat):(l8 R n).2.2.length=n/\(0<=(l8 R n).2.1/\(l8 R n).2.1<=1099511627776)/\∀C∈(l8 R n).2.2,wZ C:=
 PR (PR (x:=(-1,0,List.replicate n [])) ⟨List.length_replicate,⟨show (0:Int)<=0 by decide,show (0:Int)<=1099511627776 by decide⟩,λC hC=>by rw[(List.mem_replicate.1 hC).2];exact⟨List.Pairwise.nil,by simp,by decide⟩⟩ 0) 1
theorem a7v(H:aW)(dp:Nat)(d:DS)(iA size:Int){N B:Nat}(b5:d.Ok B)(hB:B<=140737488355328)(hw:nY d.R 16 N)(hN:N<=900000000)(eJ:d.ops<=90000)(hn:∀d' g,gD d 16 size=(d',.ok g)->(eF g.bI).length<=50000):
  SP 12 [dg dp,.int .i64 iA,.int .i64 size] [.ob (b_ dp d),.mem H] (HA dp H (nL d iA size)):=by
 intro W F w hS;apply bww;delta HZ aF dc ai dk;(try simp only[app]at hS)
 have hR:=b5.wD
 refine Cc (Q9 iA) ?_;clear hS
 rintro r post hq w hS
 unfold wU at hq
 by_cases ht:iA<1\/8<iA
 ·rw[if_pos ht]at hq
  obtain⟨rfl,rfl⟩:=hq
  have e:nL d iA size=(d,.error 1):=by unfold nL;rw[if_pos ht]
  rw[e]
  (try simp only[app]at hS);refine Gp ?_
  refine za (λ_=>?_) (λh=>absurd (by decide) h)
  exact⟨_,⟨by decide,H,aW.le_refl H,rfl,rfl⟩,aR hS⟩
 rw[if_neg ht]at hq
 obtain⟨tp,rfl,rfl⟩:=hq
 obtain⟨n,rfl⟩:∃n:Nat,iA=n:=⟨iA.toNat,by omega⟩
 rw[Int.toNat_natCast]at hS
 (try simp only[app]at hS);refine Gp ?_
 refine za (λh=>absurd rfl h) (λ_=>?_)
 refine Cc (aFe dp d 16 size b5 hB hw (by omega) (by omega) (by omega)) ?_;clear hS
 rintro r post hq w hS
 unfold nL
 rw[if_neg ht]
 unfold Dg at hq
 have xJ:=RB (base:=16) (size:=size) b5
 cases uG:gD d 16 size with
 | mk d' o=>
  rw[uG]at hq xJ
  cases o with
  | error e=>
   obtain⟨he,rfl,rfl⟩:=hq
   (try simp only[app]at hS);refine Gp ?_
   refine za (λ_=>?_) (λh=>absurd he h)
   exact⟨_,⟨he,H,aW.le_refl H,rfl,rfl⟩,aR hS⟩
  | ok g=>
   obtain⟨lp,rfl,rfl⟩:=hq
   have hG:=RA hw (by omega) uG
   have Wq:=hn d' g uG
   obtain⟨x1,x2,x3⟩:=PQ d'.R n
   (try simp only[app]at hS);refine Gp ?_
   refine za (λh=>absurd rfl h) (λ_=>?_)
   refine Gp ?_
   refine zK hS λsp w hS=>?_
   refine Cc (QT sp tp dp lp d' H (-1,0,List.replicate n []) n List.length_replicate (by omega) xJ hB) ?_;clear hS
   rintro _ post ⟨H2,gv,rfl⟩ w hS
   try simp only[app]at hS
   have B2:fh d'.R n 1 (fh d'.R n 0 (-1,0,List.replicate n []))=l8 d'.R n:=rfl
   rw[B2]at hS
   simp only[Int.toNat_natCast]
   generalize l8 d'.R n=x at *
   obtain⟨nw,im,ts⟩:=x
   simp only at x1 x2 x3 hS ⊢
   have hS:=dU.lh (d:=d') hS Xp
   refine Cc (Q4 sp tp dp lp H2 ⟨g,d',ts,nw,im⟩ hG (by omega) (λC hC=>(x3 C hC).sorted) (L0:=1000) (λC hC=>(x3 C hC).len) (by show 1000+16*(eF g.bI).length<=900000;omega) x2) ?_;clear hS
   rintro r post ⟨H3,gE,hq⟩ w hS
   have mw:=aW.le_trans gv gE
   have hK:du.tw ⟨g,d',ts,nw,im⟩=match kM n im (eF g.bI) (e_ g.bI) ts with
    | none=>none
    | some ts=>if im<=b9 g.bI/\e_ g.bI<=im+1 then some ts else none:=by rw[<- x1];rfl
   rw[hK]at hq
   clear hK
   cases hr:kM n im (eF g.bI) (e_ g.bI) ts with
   | none=>
    rw[hr]at hq
    obtain⟨rfl,rfl⟩:=hq
    try simp only[app]at hS
    refine zO (zw ?_)
    exact⟨_,⟨by decide,H3,mw,rfl,rfl⟩,aR hS⟩
   | some ts2=>
    rw[hr]at hq
    simp only at hq
    by_cases hc:im<=b9 g.bI/\e_ g.bI<=im+1
    ·rw[if_pos hc]at hq
     obtain⟨rfl,rfl⟩:=hq
     try simp only[app]at hS
     refine zO (zq ?_)
     simp only
     rw[if_pos hc]
     exact⟨_,⟨sp,tp,lp,H3,mw,rfl,rfl⟩,aR hS⟩
    ·rw[if_neg hc]at hq
     obtain⟨rfl,rfl⟩:=hq
     try simp only[app]at hS
     refine zO (zw ?_)
     simp only
     rw[if_neg hc]
     exact⟨_,⟨by decide,H3,mw,rfl,rfl⟩,aR hS⟩
theorem Qj(H:aW)(dp:Nat)(d:DS)(iA size:Int){N:Nat}(b5:d.Ok N)(hN:N<=900000000)(eJ:d.ops<=90000)(hn:∀d' g,gD d 16 size=(d',.ok g)->(eF g.bI).length<=50000):
  SP 12 [dg dp,.int .i64 iA,.int .i64 size] [.ob (b_ dp d),.mem H] (HA dp H (nL d iA size)):=
 a7v H dp d iA size b5 (by omega) (nY.all b5.len 16) hN eJ hn
theorem qY(X:Chunk)(v:Value)(q:List UInt8)(hq:dN X v q)(hN:q.length<=10000000000):SP 173 [v] [X] (rB X q):=by
 intro W F w hS;apply bFz;delta IN aF a_ ai bF;(try simp only[app]at hS)
 refine Cc (qZ X v q hq hN) ?_;clear hS
 rintro r post ⟨u,es,he,rfl,rfl⟩ w hS;(try simp only[app]at hS)
 have hr:=RY he
 have eN:∀{w:World},fp q=none->SL W (X::F) w->∃post,rB X q (.tuple #[.int .i64 0,.slice none 0 0,.int .i64 0,.int .i64 3]) post/\SL W (app post F) w:=λh hS=>⟨[X],by unfold rB;rw[h];exact⟨rfl,rfl⟩,hS⟩
 refine Gp ?_
 refine zr hS (v:=u) (t:=62) (sz:=1) (n:=es.length) (cells:=eO es) Xh ?_
 refine bR (λh=>?_) (λh=>?_)
 ·have:es=[]:=List.eq_nil_of_length_eq_zero (by omega)
  subst this
  exact eN hr (aR hS)
 ·obtain⟨e,es,rfl⟩:∃e t_,es=e::t_:=by
   cases es with
   | nil=>simp at h
   | cons e es=>exact⟨e,es,rfl⟩
  have hr:fp q=(l6 e.2).map λk=>(k,j5 es,(ic q).2):=hr
  refine z7 (j:=0) hS (v:=u) (t:=62) (n:=(e::es).length) (cells:=eO (e::es)) Xh (by simp) (u:=e.1) rfl ?_
  have hS:=zf.take (t:=0) (x:=e) (SL.b6 hS (t:=.ob (zf eV (e::es))::.ob (a7 u 62 1 (e::es).length (eO (e::es)))::X::F) Xi) rfl
  have e3:(e::es).eraseIdx 0=es:=rfl
  rw[e3]at hS
  have hR:dN (.ob (eV e)) e.1 e.2:=dN.own
  have mz:e.2.length<=1048576:=(Sk (q.length+1) q (by omega)).1 e.2 (by rw[<- he];simp[j5])
  refine Cc (yN (.ob (eV e)) e.1 e.2 hR (by omega)) ?_;clear hS
  intro r post hQ w hS
  unfold nk at hQ
  unfold l6 at hr
  cases hd:h_ e.2 with
  | error k=>
   rw[hd]at hQ hr
   obtain⟨rfl,rfl⟩:=hQ
   (try simp only[app]at hS);refine Gp ?_
   have hk:k≠0:=by
    intro hk
    rw[xc]at hd
    split at hd
    ·cases hd
    ·rename_i h0
     cases hd;exact h0 hk
   refine za (λ_=>?_) (λh=>absurd hk h)
   exact eN hr (aR hS)
  | ok l=>
   rw[hd]at hQ hr
   obtain⟨y,rfl,rfl⟩:=hQ
   (try simp only[app]at hS);refine Gp ?_
   refine za (λh=>absurd rfl h) (λ_=>?_)
   refine zr hS (v:=y) (t:=174) (sz:=3) (n:=l.length) (cells:=(l.map ep).flatten) Xh ?_
   refine bR (λh1=>?_) (λh1=>?_)
   ·have:vO l=none:=by
     match l,h1 with
     | [],_=>rfl
     | [x],h1=>simp at h1
     | _::_::_,_=>rfl
    simp only[this,Option.map_none]at hr
    exact eN hr (aR hS)
   ·obtain⟨x,rfl⟩:∃x,l=[x]:=List.length_eq_one_iff.1 (by omega)
    have hx:vO [x]=if x.kind=1/\1<=x.n/\x.n<=1099511627776 then some x.n else none:=rfl
    simp only[hx]at hr
    refine zD (j:=0) (i:=0) (x:=x) (xs:=[x]) hS (v:=y) (t:=174) (sz:=3) (n:=1) Xh mu rfl (by omega) (u:=.int .i64 x.kind) rfl ?_
    refine bR (λh2=>?_) (λh2=>?_)
    ·rw[if_neg (by omega)]at hr
     exact eN hr (aR hS)
    ·refine zD (j:=0) (i:=1) (x:=x) (xs:=[x]) hS (v:=y) (t:=174) (sz:=3) (n:=1) Xh mu rfl (by omega) (u:=.int .i64 x.n) rfl ?_
     refine bR (λh3=>?_) (λh3=>?_)
     ·rw[if_neg (by omega)]at hr
      exact eN hr (aR hS)
     ·refine zD (j:=0) (i:=1) (x:=x) (xs:=[x]) hS (v:=y) (t:=174) (sz:=3) (n:=1) Xh mu rfl (by omega) (u:=.int .i64 x.n) rfl ?_
      refine bR (λh4=>?_) (λh4=>?_)
      ·rw[if_neg (by omega)]at hr
       exact eN hr (aR hS)
      ·rw[if_pos ⟨by omega,by omega,by omega⟩]at hr
       refine Gn λw hS=>?_
       refine zD (j:=0) (i:=1) (x:=x) (xs:=[x]) hS (v:=y) (t:=174) (sz:=3) (n:=1) Xh mu rfl (by omega) (u:=.int .i64 x.n) rfl ?_
       have hS:=dC.of (SL.b6 hS (t:=.ob (a7 u 62 1 (e::es).length (eO (e::es)))::.ob (zf eV es)::X::F) Xi)
       refine Qi (k:=1) hS (by simp) ?_
       clear hS;intro z hS
       have e1:(e::es).length-1=es.length:=by simp
       have e2:(eO (e::es)).drop (1*1)=eO es:=rfl
       rw[e1,e2]at hS
       refine⟨[.ob (dC z 62 1 es.length (eO es)),.ob (zf eV es),X],?_,aR hS⟩
       unfold rB
       rw[hr]
       exact⟨z,es,rfl,rfl,rfl⟩
def lg(base:Int)(ys:List YF):List YF:=ys.filter λy=>decide (base<=y.1.id/\y.1.id<base+4096)
theorem aFn{base:Int}{ys:List YF}{R:List PF}(h:ys.map Prod.fst=R):(lg base ys).map (λy=>y.1.id)=fg base R:=by
 subst h
 unfold fg lg
 rw[List.map_map,List.filter_map]
 rfl
theorem aFo{base:Int}{ys:List YF}{y:YF}(h:y∈lg base ys):y∈ys:=(List.mem_filter.1 h).1
theorem Q5(H:aW)(xp:Nat)(s:DS)(fv:Value)(ys:List YF)(g6:nT H ys)(base:Int)(b0:0<=base)(b1:base<=12288)(px:ys.length<=100000):
  SP 172 [.pointer (some ⟨xp,0,none⟩),.int .i64 base] [.pt xp (gk fv s) 66,.ob (fB fv ys)]
   (λv post=>post=[.ob (fB v (lg base ys)),.pt xp (gk fv s) 66,.ob (fB fv ys)]):=by
 intro W F w hS;apply bFy;delta IL aF bw a_ ai bF;(try simp only[app]at hS)
 have xD:SL W (.ob (fB (.slice none 0 0) (lg base (ys.take 0)))::.pt xp (gk fv s) 66::.ob (fB fv ys)::F) w:=a7.nil hS
 refine⟨λvs w=>∃(u:Value) (i:Nat),i<=ys.length/\vs=[u,.int .i64 i]/\SL W (.ob (fB u (lg base (ys.take i)))::.pt xp (gk fv s) 66::.ob (fB fv ys)::F) w,
  λvs _=>match vs with|[_,.int _ i]=>(ys.length-i).toNat|_=>0,⟨_,0,by omega,rfl,xD⟩,?_⟩
 clear hS xD
 rintro v5 v6 w ⟨u,i,hi,eY,hS⟩
 cases eY
 refine Gp ?_
 refine zr hS (v:=fv) (t:=186) (sz:=3) (n:=ys.length) (cells:=(ys.map eX).flatten) Xh ?_
 refine bR (λh=>?_) (λh=>?_)
 ·have bW:i<ys.length:=by omega
  have hx:ys[i]?=some ys[i]:=List.getElem?_eq_getElem bW
  have iy:lg base (ys.take (i+1))=lg base (ys.take i)++if base<=ys[i].1.id/\ys[i].1.id<base+4096 then [ys[i]] else []:=by
   unfold lg
   rw[List.take_add_one,hx,List.filter_append]
   congr 1
   simp only[Option.toList_some,List.filter_cons,List.filter_nil,decide_eq_true_eq]
  have Fv:(lg base (ys.take i)).length<=100000:=by
   unfold lg
   have:=List.length_filter_le (λy:YF=>decide (base<=y.1.id/\y.1.id<base+4096)) (ys.take i)
   rw[List.length_take]at this;omega
  have iN:=(g6 _ (List.getElem_mem bW)).one
  generalize ys[i]=y at *
  refine Gp ?_
  refine zD (i:=0) hS (v:=fv) (t:=186) Xh ki hx bW (u:=.int .i64 y.1.id) rfl ?_
  refine bR (λh1=>?_) (λh1=>?_)
  ·refine Gp ?_
   refine zD (i:=0) hS (v:=fv) (t:=186) Xh ki hx bW (u:=.int .i64 y.1.id) rfl ?_
   refine bR (λh2=>?_) (λh2=>?_)
   ·rw[if_pos ⟨by omega,h2⟩]at iy
    refine Gp ?_
    refine z6 hS (v:=fv) (t:=186) Xh ki hx bW ?_
    refine zy (cells:=eX y) hS rfl ?_
    clear hS;intro p w hS
    have uh:∀v∈eX y,v.oneCell'=true:=by
     intro v hv
     simp only[eX,List.mem_cons,List.not_mem_nil,or_false]at hv
     rcases hv with rfl|rfl|rfl
     ·rfl
     ·rfl
     ·exact iN
    refine zx (m:=1) (cs:=eX y) hS Xr (iP hS .hd rfl) rfl rfl uh (by omega) (by omega) ?_
    clear hS;intro u' w hS
    refine Gp ?_
    have e1:(lg base (ys.take i)).length+1=(lg base (ys.take (i+1))).length:=by rw[iy,List.length_append];rfl
    have e2:((lg base (ys.take i)).map eX).flatten++eX y=((lg base (ys.take (i+1))).map eX).flatten:=by rw[iy];simp
    rw[e1,e2]at hS
    exact⟨⟨u',i+1,by omega,rfl,aR hS⟩,by dsimp only;omega⟩
   ·rw[if_neg (by omega),List.append_nil]at iy
    refine Gp ?_
    exact⟨⟨_,i+1,by omega,rfl,by rw[iy];exact hS⟩,by dsimp only;omega⟩
  ·rw[if_neg (by omega),List.append_nil]at iy
   refine Gp ?_
   exact⟨⟨_,i+1,by omega,rfl,by rw[iy];exact hS⟩,by dsimp only;omega⟩
 ·obtain rfl:i=ys.length:=by omega
  rw[List.take_length]at hS
  exact⟨_,rfl,hS⟩
def kd(t:Option tN):Int:=match t with
 | none=>-1
 | some x=>x.file
abbrev jj(sv:Value)(xp:Nat)(base size t:Int):List Value:=[.pointer (some ⟨xp,0,none⟩),.int .i64 base,.int .i64 size,sv,.int .i64 t]
abbrev iB(sv:Value)(xs:List dh):Chunk:=.ob (dC sv 259 4 xs.length (xs.map eK).flatten)
def dR(lp xp:Nat)(g:dJ):zC:=jQ λx:Value × List dh=>zP (x.2.map dh.pl=g.bI) [.pt lp (jj x.1 xp g.base g.size (kd g.dM)) 254,iB x.1 x.2,.ob (zf dF x.2)]
theorem dR.iff{W w:World}{lp xp:Nat}{g:dJ}{l:List Chunk}:SL W (.ob (dR lp xp g)::l) w↔∃sv xs,xs.map dh.pl=g.bI/\SL W (.pt lp (jj sv xp g.base g.size (kd g.dM)) 254::iB sv xs::.ob (zf dF xs)::l) w:=by
 unfold dR
 simp only[SL.ex,SL.fact,List.cons_append,List.nil_append]
 exact⟨λ⟨x,h1,h2⟩=>⟨x.1,x.2,h1,h2⟩,λ⟨a,b,h1,h2⟩=>⟨(a,b),h1,h2⟩⟩
theorem dR.close{W w:World}{lp xp:Nat}{g:dJ}{l F:List Chunk}{sv:Value}{xs:List dh}(h:SL W l w)(hx:xs.map dh.pl=g.bI)(k:je (.pt lp (jj sv xp g.base g.size (kd g.dM)) 254::iB sv xs::.ob (zf dF xs)::F) l):SL W (app [.ob (dR lp xp g)] F) w:=
 dR.iff.2 ⟨sv,xs,hx,h.b6 k⟩
theorem dR.Bj{W w:World}{lp xp:Nat}{L:List dz}{base size:Int}{l F:List Chunk}{sv:Value}{xs:List dh}(h:SL W l w)(hx:xs.map dh.pl=L)(k:je (.pt lp (jj sv xp base size (-1)) 254::iB sv xs::.ob (zf dF xs)::F) l):SL W (app [.ob (dR lp xp ⟨L,base,size,none⟩)] F) w:=
 dR.iff.2 ⟨sv,xs,hx,h.b6 k⟩
theorem dR.RC{W w:World}{lp xp:Nat}{L:List dz}{base size:Int}{F:List Chunk}(h:SL W (.ob (dR lp xp ⟨L,base,size,none⟩)::F) w):∃sv xs,xs.map dh.pl=L/\SL W (.pt lp (jj sv xp base size (-1)) 254::iB sv xs::.ob (zf dF xs)::F) w:=dR.iff.1 h
section
variable {W w:World} {l:List Chunk}
theorem a7b{v:Value}{xs:List dh}{j:Nat}{k:IntKind}{K:Value->Prop}(h:SL W l w)(m:Has (iB v xs) l)(hj:j<xs.length)(hK:K (.agg (eK xs[j]).toArray)):zh 4 v (.int k (j:Int)) λp=>zj 4 p w K:=by
 refine yC h m hj λb o hb=>⟨⟨b,o,none⟩,eK xs[j],rfl,rfl,λi u hu=>?_,hK⟩
 rw[Addr.add_lit]
 have hi:i<4:=(List.getElem?_eq_some_iff.1 hu).1
 exact hb i u hi (ud sw hj hu)
theorem yg{v u:Value}{xs:List dh}{i j:Nat}{k:IntKind}{K:Value->Prop}(h:SL W l w)(m:Has (iB v xs) l)(hj:j<xs.length)(hu:(eK xs[j])[i]?=some u)(hK:K u):zh 4 v (.int k (j:Int)) λp=>zu i p λq=>cR q w K:=by
 refine yC h m hj λb o hb=>?_
 refine zQ ?_
 have hi:i<4:=(List.getElem?_eq_some_iff.1 hu).1
 exact⟨_,u,rfl,hb i u hi (ud sw hj hu),hK⟩
end
theorem z8(lp xp:Nat)(sv:Value)(xs:List dh)(base size t:Int)(hl:xs.length<=1000000000000000):SP 175 [.pointer (some ⟨lp,0,none⟩)] [.pt lp (jj sv xp base size t) 254,iB sv xs]
  (dj (.int .i64 ((xs.length:Int)-1)) [.pt lp (jj sv xp base size t) 254,iB sv xs]):=by
 intro W F w hS;apply bF1;delta IQ bw ai;(try simp only[app]at hS)
 refine Gp ?_
 refine zT hS (v:=sv) (t:=259) (sz:=4) (n:=xs.length) (cells:=(xs.map eK).flatten) Xh ?_
 refine Gp ?_
 exact⟨_,⟨rfl,rfl⟩,hS⟩
theorem ZA(lp xp:Nat)(g:dJ){M:Nat}(hg:g.Ok M)(hM:M<=1000000000000):SP 87 [.pointer (some ⟨lp,0,none⟩)] [.ob (dR lp xp g)] (dj (.int .i64 (e_ g.bI)) [.ob (dR lp xp g)]):=by
 intro W F w hS;apply b6n;delta Ls aF bw a_ ai;(try simp only[app]at hS)
 obtain⟨sv,xs,hx,hS⟩:=dR.iff.1 hS
 obtain⟨h1,h2,_,_⟩:=hg.xs hx
 refine Gp ?_
 refine zT hS (v:=sv) (t:=259) (sz:=4) (n:=xs.length) (cells:=(xs.map eK).flatten) Xh ?_
 refine bR (λh0=>?_) (λh0=>?_)
 ·have:xs=[]:=List.eq_nil_of_length_eq_zero (by omega)
  have e:e_ g.bI=1:=by rw[<- hx,this];rfl
  rw[e]
  exact⟨_,⟨rfl,rfl⟩,dR.close hS hx Xi⟩
 ·cases xs with
  | nil=>simp at h0
  | cons x xs=>
   have e:e_ g.bI=x.first:=by rw[<- hx];rfl
   rw[e]
   refine Gp ?_
   refine yg (j:=0) (i:=1) hS Xh (by simp) (u:=.int .i64 x.first) rfl ?_
   exact⟨_,⟨rfl,rfl⟩,dR.close hS hx Xi⟩
theorem yW(lp xp:Nat)(sv:Value)(xs:List dh)(base size t:Int){M:Nat}(h1:∀s∈xs.map dh.pl,jA s M)(h2:xs.length<=1000000000000)(hM:M<=1000000000000):SP 86 [.pointer (some ⟨lp,0,none⟩)] [.pt lp (jj sv xp base size t) 254,iB sv xs] (dj (.int .i64 (b9 (xs.map dh.pl))) [.pt lp (jj sv xp base size t) 254,iB sv xs]):=by
 intro W F w hS;apply b6m;delta Lr aF bw a_ cF df ai bF;(try simp only[app]at hS)
 refine Gp ?_
 refine zT hS (v:=sv) (t:=259) (sz:=4) (n:=xs.length) (cells:=(xs.map eK).flatten) Xh ?_
 refine bR (λh0=>?_) (λh0=>?_)
 ·have:xs=[]:=List.eq_nil_of_length_eq_zero (by omega)
  have e:b9 (xs.map dh.pl)=0:=by rw[this];rfl
  rw[e]
  exact dq hS
 ·refine Gn λw hS=>?_
  have hj:xs.length-1<xs.length:=by omega
  have EZ:b9 (xs.map dh.pl)=(xs[xs.length-1]'hj).first-1+((xs[xs.length-1]'hj).es.length:Nat):=by
   unfold b9
   rw[List.getLast?_map,List.getLast?_eq_getElem?,List.getElem?_eq_getElem hj]
   show (xs[xs.length-1]'hj).pl.next-1=_
   rw[Tb];omega
  have b5:=h1 _ (List.mem_map.2 ⟨_,List.getElem_mem hj,rfl⟩)
  have e:((xs.length:Nat):Int)-1=((xs.length-1:Nat):Int):=by omega
  have k1:1<=(xs[xs.length-1]'hj).first:=b5.n0
  have k2:(xs[xs.length-1]'hj).first<=1099511627776:=b5.n1
  have k3:(xs[xs.length-1]'hj).es.length<=M:=by have:=b5.ln;simpa [dh.pl,oR] using this
  have Xw:∀{w:World} {l:List Chunk} {K:Value->Prop},SL W l w->Has (iB sv xs) l->K (.agg #[.int .i64 (xs[xs.length-1]'hj).file,.int .i64 (xs[xs.length-1]'hj).first,.int .i64 ((xs[xs.length-1]'hj).size:Nat),.slice (xs[xs.length-1]'hj).a (xs[xs.length-1]'hj).es.length (xs[xs.length-1]'hj).c])->zh 4 sv (.int .i64 ((xs.length-1:Nat):Int)) λp=>zj 4 p w K:=λhS m hK=>a7b hS m hj hK
  have Xx:∀{w:World} {l:List Chunk} {K:Value->Prop},SL W l w->Has (iB sv xs) l->(∀p,(∀(w':World) (l':List Chunk) (K':Value->Prop),SL W l' w'->Has (iB sv xs) l'->K' (.agg #[.int .i64 (xs[xs.length-1]'hj).file,.int .i64 (xs[xs.length-1]'hj).first,.int .i64 ((xs[xs.length-1]'hj).size:Nat),.slice (xs[xs.length-1]'hj).a (xs[xs.length-1]'hj).es.length (xs[xs.length-1]'hj).c])->zj 4 p w' K')->K p)->zh 4 sv (.int .i64 ((xs.length-1:Nat):Int)) K:=by
   intro w l K hS m hK
   obtain⟨l2,r⟩:=m.rem
   rcases dC.open (hS.perm r.perm) with ⟨_,Eu,_⟩|⟨b,pre,cap,rest,uJ,hc,hl,hr,_⟩
   ·omega
   ·rw[uJ]
    refine zB hj (hK _ λw' l' K' gx m' VU=>?_)
    obtain⟨l3,r3⟩:=m'.rem
    rcases dC.open (gx.perm r3.perm) with ⟨_,Eu,_⟩|⟨b',b9t,pM,b9u,FC,uo,uA,k7,sW⟩
    ·omega
    ·rw[uJ]at FC
     simp only[Value.slice.injEq,Option.some.injEq,Addr.mk.injEq,true_and,and_true]at FC
     obtain⟨⟨rfl,fo⟩,rfl⟩:=FC
     rw[fo]
     refine⟨_,_,rfl,rfl,λi u hu=>?_,VU⟩
     rw[Addr.add_lit]
     refine sW.cell .hd ?_
     have hi:i<4:=(List.getElem?_eq_some_iff.1 hu).1
     have:=ud sw hj (i:=i) (u:=u) hu
     rw[Nat.add_assoc,List.getElem?_append_right (by omega),Nat.add_sub_cancel_left,List.getElem?_append_left (List.getElem?_eq_some_iff.1 this).1]
     exact this
  rw[EZ]
  generalize xs[xs.length-1]'hj=x at *
  refine⟨?_,?_⟩
  ·refine Cg (z8 lp xp sv xs base size t (by omega)) λw hS=>?_
   rw[e]
   refine Xx hS Xh λp hp=>?_
   refine hp _ _ _ hS Xh ?_
   refine Gm λb w hS=>?_
   refine hp _ _ _ hS Xh ?_
   refine Gn λw hS=>?_
   exact dq hS
  ·refine Gm λb w hS=>?_
   refine Cg (z8 lp xp sv xs base size t (by omega)) λw hS=>?_
   rw[e]
   refine Xw hS Xh ?_
   refine Gn λw hS=>?_
   exact dq hS
theorem zW(lp xp:Nat)(g:dJ){M:Nat}(hg:g.Ok M)(hM:M<=1000000000000):SP 86 [.pointer (some ⟨lp,0,none⟩)] [.ob (dR lp xp g)] (dj (.int .i64 (b9 g.bI)) [.ob (dR lp xp g)]):=by
 intro W F w hS
 obtain⟨sv,xs,hx,hS⟩:=dR.iff.1 hS
 obtain⟨h1,h2,_,_⟩:=hg.xs hx
 refine Cc (yW lp xp sv xs g.base g.size (kd g.dM) h1 (by omega) hM) ?_;clear hS
 rintro v post ⟨rfl,rfl⟩ w hS;(try simp only[app]at hS)
 rw[hx]
 exact⟨_,⟨rfl,rfl⟩,dR.close hS hx Xi⟩
end Go.Proofs.YtfenmffiidchcaaGreat
