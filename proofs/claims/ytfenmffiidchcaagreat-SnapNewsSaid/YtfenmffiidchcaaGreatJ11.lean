/-
  Texts of the proof, joined: StrS, SigS, RqR, RqS, Cfg, MuxS, MuxS2, DrrS, SrcS5, SnpS, WinR, WinR2, SigR, MuxR, TxnR, ImgR, RefD, RefD2, RefD3, RefD4, SetR, SinkM, LogSt, SinkP, RLogG, SrcS3, SrcS4, RLogS.
-/
import Derived.Test.YtfenmffiidchcaaGreatJ10
import Derived.Lib.ConvBytes
import Derived.Laws.AppendOwn
import Derived.Test.YtfenmffiidchcaaGreatQVcW
import Derived.Test.YtfenmffiidchcaaGreatQVcY
import Derived.Test.YtfenmffiidchcaaGreatQVcF
namespace Go.Proofs.YtfenmffiidchcaaGreat
set_option linter.unusedVariables false
open Go.RowKit
section
variable {W w:World} {l:List Chunk} {P:Program}
end
set_option maxRecDepth 100000
theorem bstr_of(s:ByteArray):s=bstr s.data.toList:=by cases s;simp[bstr]
theorem bstr_list(l:List UInt8):(bstr l).data.toList=l:=by simp[bstr]
theorem s_slTh{l:List UInt8}{k:Nat}{kk:IntKind}{K:Value→Prop}(hk:k≤l.length)(h:K (.string (bstr (l.take k)))):ZC (.string (bstr l)) none (some (.int kk (k:Int))) K:=by
 refine⟨bstr l,0,k,rfl,⟨kk,rfl⟩,rfl,Nat.zero_le _,by rw[bstr_size];exact hk,?_⟩
 have:(bstr l).extract 0 k=bstr (l.take k):=by apply ByteArray.ext;simp[bstr,ByteArray.data_extract]
 rw[this];exact h
theorem s_slTl{l:List UInt8}{k:Nat}{kk:IntKind}{K:Value→Prop}(hk:k≤l.length)(h:K (.string (bstr (l.drop k)))):ZC (.string (bstr l)) (some (.int kk (k:Int))) none K:=by
 refine⟨bstr l,k,(bstr l).size,rfl,rfl,⟨kk,rfl⟩,by rw[bstr_size];exact hk,Nat.le_refl _,?_⟩
 have:(bstr l).extract k (bstr l).size=bstr (l.drop k):=by
  apply ByteArray.ext
  rw[bstr_size]
  simp[bstr,ByteArray.data_extract]
  rw[List.take_of_length_le (by rw[List.length_drop];omega)]
 rw[this];exact h
theorem Qp{P:Program}{w:World}{t:TypeId}{l:List UInt8}{j:Nat}{k:IntKind}{K:Value→Prop}(ht:P.underlying t=some .string)(hj:j<l.length)(h:K (.int .u8 (l[j]).toNat)):HRq P (Instr.index t (.string (bstr l)) (.int k (j:Int))) w K:=by
 have e:(bstr l)[j]'(by rw[bstr_size];exact hj)=l[j]:=by simp[bstr,ByteArray.getElem_eq_getElem_data]
 exact s_strAt ht (by rw[bstr_size];exact hj) (by rw[e];exact h)
theorem ZK(l p:List UInt8):SP 369 [.string (bstr l),.string (bstr p)] [] (Gives (.bool (decide (l.take p.length=p))) []):=by
 intro W F w hS;apply vc369;unfold Vc369;(try simp only[app]at hS)
 refine Gp ?_
 rw[bstr_size,bstr_size]
 refine zc (λh=>?_) (λh=>?_)
 ·refine Gp ?_
  rw[bstr_size]
  refine s_slTh (by omega) ?_
  refine Gp ?_
  rw[show decide (bstr (l.take p.length)=bstr p)=decide (l.take p.length=p) by rw[decide_eq_decide];exact bstr_inj]
  (exact⟨_,⟨rfl,rfl⟩,SL.into hS Xi⟩)
 ·rw[decide_eq_false λe=>by
   have:=congrArg List.length e
   rw[List.length_take]at this
   omega]
  (exact⟨_,⟨rfl,rfl⟩,SL.into hS Xi⟩)
theorem ZD(l p:List UInt8):SP 354 [.string (bstr l),.string (bstr p)] [] (Gives (.tuple #[.string (bstr (if l.take p.length=p then l.drop p.length else l)),.bool (decide (l.take p.length=p))]) []):=by
 intro W F w hS;apply vc354;unfold Vc354;(try simp only[app]at hS)
 refine Cg (ZK l p) λw hS=>?_
 refine zA (λh=>?_) (λh=>?_)
 ·have h:=of_decide_eq_false h
  rw[if_neg h,decide_eq_false h]
  (exact⟨_,⟨rfl,rfl⟩,SL.into hS Xi⟩)
 ·have h:=of_decide_eq_true h
  rw[if_pos h,decide_eq_true h]
  refine Gp ?_
  rw[bstr_size]
  refine s_slTl ?_ ?_
  ·have:=congrArg List.length h
   rw[List.length_take]at this
   omega
  ·(exact⟨_,⟨rfl,rfl⟩,SL.into hS Xi⟩)
theorem ZI(l p:List UInt8):SP 307 [.string (bstr l),.string (bstr p)] [] (Gives (.tuple #[.string (bstr (if l.take p.length=p then l.drop p.length else l)),.bool (decide (l.take p.length=p))]) []):=by
 intro W F w hS;apply vc307;unfold Vc307;(try simp only[app]at hS)
 refine Cg (ZD l p) λw hS=>?_
 (exact⟨_,⟨rfl,rfl⟩,SL.into hS Xi⟩)
theorem firstIdx_list(l:List UInt8)(c:UInt8):firstIdx (bstr l) c=idxI (l.findIdx? λx=>decide (x=c)):=by
 have hat:∀i,i<l.length→(bstr l)[i]! = l[i]!:=λi hi=>by
  have h2:i<(bstr l).size:=by rw[bstr_size];exact hi
  rw[getElem!_pos (bstr l) i h2,getElem!_pos l i hi]
  simp[bstr,ByteArray.getElem_eq_getElem_data]
 unfold firstIdx
 rw[bstr_size]
 cases hf:l.findIdx? (λx=>decide (x=c)) with
 | none=>
  have h1:=List.findIdx?_eq_none_iff.1 hf
  have:(List.range l.length).find? (λi=>(bstr l)[i]! == c)=none:=by
   rw[List.find?_range_eq_none]
   intro i hi
   rw[hat i hi,getElem!_pos l i hi]
   have:=of_decide_eq_false (h1 _ (List.getElem_mem hi))
   simpa using this
  rw[this];rfl
 | some j=>
  obtain⟨hj,hk,hlow⟩:=List.findIdx?_eq_some_iff_getElem.1 hf
  have:(List.range l.length).find? (λi=>(bstr l)[i]! == c)=some j:=by
   rw[List.find?_range_eq_some]
   refine⟨?_,List.mem_range.2 hj,λi hi=>?_⟩
   ·rw[hat j hj,getElem!_pos l j hj];simpa using hk
   ·rw[hat i (by omega),getElem!_pos l i (by omega)]
    have:=hlow i hi
    simpa using this
  rw[this];rfl
theorem ZL(l:List UInt8)(c:UInt8):SP 375 [.string (bstr l),.int .u8 c.toNat] [] (Gives (.int .i64 (idxI (l.findIdx? λx=>decide (x=c)))) []):=by
 intro W F w hS;apply vc375;unfold Vc375;(try simp only[app]at hS)
 refine⟨.int .i64 (idxI (l.findIdx? λx=>decide (x=c))),w,?_,?_⟩
 ·have:=run_callFunc_extern Tryz.func379 (by kernel_rfl) (by kernel_rfl) (by kernel_rfl) (e:=Extern.BytealgIndexByte.indexByte) (by kernel_rfl) #[.string (bstr l),.int .u8 c.toNat] w
  rw[this,run_indexByte_string,firstIdx_list,show ((c.toNat:Int).toNat.toUInt8)=c by simp]
  rfl
 ·(exact⟨_,⟨rfl,rfl⟩,SL.into hS Xi⟩)
theorem YT(l:List UInt8)(c:UInt8):SP 370 [.string (bstr l),.string (bstr [c])] [] (Gives (.int .i64 (idxI (l.findIdx? λx=>decide (x=c)))) []):=by
 intro W F w hS;apply vc370;unfold Vc370;(try simp only[app]at hS)
 refine Gp ?_
 refine⟨λ_ _=>False,?_,λw h=>h.elim⟩
 rw[bstr_size]
 refine Gp ?_
 refine zc (λh=>absurd h (by simp)) (λ_=>?_)
 refine Gp ?_
 refine zc (λh=>?_) (λ_=>?_)
 ·have h:=bstr_inj.1 h
  rw[← h]
  exact⟨_,⟨by simp[idxI],rfl⟩,hS⟩
 ·refine Gp ?_
  refine zc (λ_=>?_) (λh=>absurd (by simp) h)
  refine Qp (j:=0) Tryz.underlying9 (by simp) ?_
  refine Cg (ZL l c) λw hS=>?_
  (exact⟨_,⟨rfl,rfl⟩,SL.into hS Xi⟩)
def cutA(l:List UInt8)(c:UInt8):List UInt8 × List UInt8 × Bool:=match l.findIdx? (λx=>decide (x=c)) with
 | none=>(l,[],false)
 | some i=>(l.take i,l.drop (i+1),true)
theorem Qy(l:List UInt8)(c:UInt8)(hl:l.length≤4611686018427387904):SP 355 [.string (bstr l),.string (bstr [c])] [] (Gives (.tuple #[.string (bstr (cutA l c).1),.string (bstr (cutA l c).2.1),.bool (cutA l c).2.2]) []):=by
 intro W F w hS;apply vc355;unfold Vc355;(try simp only[app]at hS)
 refine Cg (YT l c) λw hS=>?_
 unfold cutA
 cases hf:l.findIdx? (λx=>decide (x=c)) with
 | none=>
  simp only[idxI]
  refine zc (λh=>absurd h (by decide)) (λ_=>?_)
  exact⟨_,⟨rfl,rfl⟩,hS⟩
 | some i=>
  have hi:=(List.findIdx?_eq_some_iff_getElem.1 hf).1
  simp only[idxI]
  refine zc (λ_=>?_) (λh=>by omega)
  refine Gn λw hS=>?_
  refine s_slTh (by omega) ?_
  refine Gp ?_
  rw[bstr_size]
  have e:([c]:List UInt8).length=1:=rfl
  rw[e]
  refine Gp ?_
  refine s_slTl (by omega) ?_
  exact⟨_,⟨rfl,rfl⟩,hS⟩
theorem Qx(l:List UInt8)(c:UInt8)(hl:l.length≤4611686018427387904):SP 308 [.string (bstr l),.string (bstr [c])] [] (Gives (.tuple #[.string (bstr (cutA l c).1),.string (bstr (cutA l c).2.1),.bool (cutA l c).2.2]) []):=by
 intro W F w hS;apply vc308;unfold Vc308;(try simp only[app]at hS)
 refine Cg (Qy l c hl) λw hS=>?_
 (exact⟨_,⟨rfl,rfl⟩,SL.into hS Xi⟩)
def digitI(l:List UInt8)(a b:Nat):Int:=match l with
 | [d]=>if a≤d.toNat∧d.toNat≤b then (d.toNat:Int)-48 else -1
 | _=>-1
theorem sub48:∀n:Fin 256,48≤n.1→IntKind.i64.wrap (IntKind.u8.wrap ((n.1:Int)-48))=(n.1:Int)-48:=by decide
theorem s_sub48{d:UInt8}{K:Value→Prop}(hd:48≤d.toNat)(h:K (.int .i64 ((d.toNat:Int)-48))):za .sub (.int .u8 d.toNat) (.int .u8 48) λv=>zK .i64 v K:=by
 refine⟨_,rfl,_,_,rfl,?_⟩
 rw[sub48 ⟨d.toNat,d.toNat_lt⟩ hd];exact h
theorem ZJ(l:List UInt8)(a b:Nat)(ha:48≤a):SP 309 [.string (bstr l),.int .u8 a,.int .u8 b] [] (Gives (.int .i64 (digitI l a b)) []):=by
 intro W F w hS;apply vc309;unfold Vc309;(try simp only[app]at hS)
 refine Gp ?_
 rw[bstr_size]
 refine zc (λh=>?_) (λh=>?_)
 ·have e:digitI l a b = -1:=by
   unfold digitI
   split
   ·simp at h
   ·rfl
  rw[e];(exact⟨_,⟨rfl,rfl⟩,SL.into hS Xi⟩)
 ·obtain⟨d,rfl⟩:∃d,l=[d]:=List.length_eq_one_iff.1 (by omega)
  refine Qp (j:=0) Tryz.underlying9 (by simp) ?_
  show za .lss (.int .u8 d.toNat) (.int .u8 a) _
  refine Gp ?_
  refine zc (λh1=>?_) (λh1=>?_)
  ·rw[show digitI [d] a b = -1 from if_neg (by omega)]
   (exact⟨_,⟨rfl,rfl⟩,SL.into hS Xi⟩)
  refine Qp (j:=0) Tryz.underlying9 (by simp) ?_
  show za .gtr (.int .u8 d.toNat) (.int .u8 b) _
  refine Gp ?_
  refine zc (λh2=>?_) (λh2=>?_)
  ·rw[show digitI [d] a b = -1 from if_neg (by omega)]
   (exact⟨_,⟨rfl,rfl⟩,SL.into hS Xi⟩)
  refine Qp (j:=0) Tryz.underlying9 (by simp) ?_
  refine s_sub48 (d:=d) (by omega) ?_
  rw[show digitI [d] a b=(d.toNat:Int)-48 from if_pos (by omega)]
  (exact⟨_,⟨rfl,rfl⟩,SL.into hS Xi⟩)
theorem digitI_len{l:List UInt8}{a b:Nat}(h:l.length≠1):digitI l a b = -1:=by
 unfold digitI
 split
 ·simp at h
 ·rfl
theorem digitI_neg{d:UInt8}{a b:Nat}(h:48≤a):digitI [d] a b<0↔¬(a≤d.toNat∧d.toNat≤b):=by
 show (if a≤d.toNat∧d.toNat≤b then (d.toNat:Int)-48 else -1)<0↔_
 split<;>omega
def parseC(r:List UInt8):Option (Int × Int):=
 let c:=cutA r 32
 if digitI c.1 48 55<0∨(if c.2.2=true then digitI c.2.1 49 56 else 1)<0 then none else some (digitI c.1 48 55,if c.2.2=true then digitI c.2.1 49 56 else 1)
theorem digitI_is{d:UInt8}{a b:Nat}(h:a≤d.toNat∧d.toNat≤b):digitI [d] a b=(d.toNat:Int)-48:=if_pos h
theorem u8_32{d:UInt8}:d.toNat=32↔d=32:=⟨λh=>UInt8.toNat_inj.1 h,λh=>by rw[h];rfl⟩
theorem parseC_bad{r:List UInt8}(h:(cutA r 32).1.length≠1∨((cutA r 32).2.2=true∧(cutA r 32).2.1.length≠1)):parseC r=none:=by
 unfold parseC
 simp only
 rw[if_pos]
 rcases h with h|⟨h,h2⟩
 ·left;rw[digitI_len h];decide
 ·right;rw[if_pos h,digitI_len h2];decide
theorem cutA_cons(d:UInt8)(r:List UInt8):cutA (d::r) 32=if d=32 then ([],r,true) else (d::(cutA r 32).1,(cutA r 32).2.1,(cutA r 32).2.2):=by
 unfold cutA
 rw[List.findIdx?_cons]
 by_cases hd:d=32
 ·simp[hd]
 ·rw[if_neg (by simpa using hd),if_neg hd]
  cases r.findIdx? (λx=>decide (x=32))<;>simp
theorem parse3_cut(r:List UInt8):parse3 r=parseC r:=by
 match r with
 | []=>rw[parseC_bad (.inl (by decide))];rfl
 | [d]=>
  by_cases hd:d=32
  ·subst hd;decide
  ·have hc:cutA [d] 32=([d],[],false):=by rw[cutA_cons,if_neg hd];rfl
   unfold parseC parse3
   rw[hc]
   simp only
   have:=digitI_neg (d:=d) (a:=48) (b:=55) (by decide)
   by_cases h:48≤d.toNat∧d.toNat≤55
   ·rw[if_pos h,if_neg (λx=>x.elim (λh2=>by rw[digitI_is h]at h2;omega) (λh2=>absurd h2 (by decide))),digitI_is h];rfl
   ·rw[if_neg h,if_pos (.inl (this.2 h))]
 | [d,s]=>
  have e:parse3 [d,s]=none:=rfl
  rw[e,parseC_bad]
  rw[cutA_cons]
  by_cases hd:d=32
  ·rw[if_pos hd];left;simp
  ·rw[if_neg hd,cutA_cons]
   by_cases hs:s=32
   ·rw[if_pos hs];right;exact⟨rfl,by simp⟩
   ·rw[if_neg hs];left;simp
 | [d,s,e]=>
  by_cases hd:d=32
  ·have e1:parse3 [d,s,e]=none:=if_neg (by rw[hd];simp)
   rw[e1,parseC_bad]
   rw[cutA_cons,if_pos hd];left;simp
  ·by_cases hs:s=32
   ·have hc:cutA [d,s,e] 32=([d],[e],true):=by rw[cutA_cons,if_neg hd,cutA_cons,if_pos hs]
    unfold parseC parse3
    rw[hc]
    simp only[if_true]
    have h1:=digitI_neg (d:=d) (a:=48) (b:=55) (by decide)
    have h2:=digitI_neg (d:=e) (a:=49) (b:=56) (by decide)
    by_cases h:(48≤d.toNat∧d.toNat≤55)∧49≤e.toNat∧e.toNat≤56
    ·rw[if_pos ⟨h.1,u8_32.2 hs,h.2⟩,if_neg (by omega),digitI_is h.1,digitI_is h.2]
    ·rw[if_neg (λx=>h ⟨x.1,x.2.2⟩),if_pos (by omega)]
   ·have e1:parse3 [d,s,e]=none:=if_neg (λx=>hs (u8_32.1 x.2.1))
    rw[e1,parseC_bad]
    rw[cutA_cons,if_neg hd,cutA_cons,if_neg hs];left;simp
 | d::s::e::f::t=>
  have e1:parse3 (d::s::e::f::t)=none:=rfl
  rw[e1,parseC_bad]
  rw[cutA_cons]
  by_cases hd:d=32
  ·rw[if_pos hd];left;simp
  ·rw[if_neg hd,cutA_cons]
   by_cases hs:s=32
   ·rw[if_pos hs];right;exact⟨rfl,by simp⟩
   ·rw[if_neg hs];left;simp
def sigV(o:Option (Int × Int)):Value:=.tuple #[agg [.int .i64 (o.getD (0,0)).1,.int .i64 (o.getD (0,0)).2],.bool o.isSome]
theorem qD(s:ByteArray)(hs:s.size≤4611686018427387904):SP 257 [.string s] [] (Gives (sigV (parseS s)) []):=by
 intro W F w hS;apply vc257;unfold Vc257;(try simp only[app]at hS)
 rw[bstr_of s]at hs ⊢
 generalize hl:s.data.toList=l at *
 rw[bstr_size]at hs
 unfold parseS
 rw[bstr_list]
 refine Gb λrb w hS=>?_
 refine Cg (ZI l word9) λw hS=>?_
 by_cases hp:l.take word9.length=word9
 ·rw[if_pos hp,decide_eq_true hp,show l.take 9=word9 from hp,if_pos rfl]
  refine zt ?_
  refine Cg (Qx (l.drop word9.length) 32 (by rw[List.length_drop];omega)) λw hS=>?_
  rw[parse3_cut,show l.drop 9=l.drop word9.length from rfl]
  generalize l.drop word9.length=r at *
  unfold parseC
  generalize cutA r 32=c at *
  obtain⟨A,B,q⟩:=c
  simp only at hS ⊢
  (refine Cc (ZJ A 48 55 (by decide)) ?_;clear hS)
  rintro _ post ⟨rfl,rfl⟩ w hS
  (try simp only[app]at hS)
  refine Gm λnb w hS=>?_
  refine⟨λus w=>us=[]∧SL W (.pt nb [.int .i64 (digitI A 48 55),.int .i64 (if q=true then digitI B 49 56 else 1)] 351::.pt rb [.int .i64 0,.int .i64 0] 351::F) w,?_,?_⟩
  ·refine yZ (λhq=>?_) (λhq=>?_)
   ·rw[if_pos hq]
    refine Cg (ZJ B 49 56 (by decide)) λw hS=>?_
    (first|exact SL.into hS Xi|exact⟨rfl,SL.into hS Xi⟩)
   ·rw[if_neg (by simp[hq])]
    exact⟨rfl,SL.into hS Xi⟩
  clear hS
  rintro w ⟨-,hS⟩
  refine Gp ?_
  refine zc (λh=>?_) (λh=>?_)
  ·rw[if_pos (.inl h)]
   refine Gn λw hS=>?_
   exact⟨_,⟨rfl,rfl⟩,SL.into hS Xi⟩
  refine Gp ?_
  refine zc (λh2=>?_) (λh2=>?_)
  ·rw[if_pos (.inr h2)]
   refine Gn λw hS=>?_
   exact⟨_,⟨rfl,rfl⟩,SL.into hS Xi⟩
  rw[if_neg (by omega)]
  refine Gn λw hS=>?_
  exact⟨_,⟨rfl,rfl⟩,SL.into hS Xi⟩
 ·rw[decide_eq_false hp,if_neg (show ¬l.take 9=word9 from hp)]
  refine zy ?_
  refine Gn λw hS=>?_
  exact⟨_,⟨rfl,rfl⟩,SL.into hS Xi⟩
theorem Yu(H:Heap)(v:Value)(L:List Rq)(hv:RdRq H v L)(hn:L.length≤140737488351232):
  SP 195 [v] [.mem H] (λu post=>∃q:Bool,u= .bool q∧(q=true↔MayP L)∧post=[.mem H]):=by
 intro W F w hS;apply vc195;unfold Vc195;(try simp only[app]at hS)
 have hno:∀{w:World} {l:List Chunk},¬MayP L→SL W (.mem H::F) w→∃post,(∃q:Bool,(.bool false:Value)= .bool q∧(q=true↔MayP L)∧post=[.mem H])∧SL W (app post F) w:=λh hS=>
  ⟨_,⟨false,rfl,⟨λe=>(by cases e),λe=>absurd e h⟩,rfl⟩,hS⟩
 refine zn hv ?_
 refine Gp ?_
 refine zc (λh=>hno (l:=[]) (λhp=>by have:=hp.1;omega) hS) (λh64=>?_)
 refine⟨λus w=>∃i:Nat,us=[.int .i64 i]∧i≤L.length∧(∀j,j<i→OneP L j)∧SL W (.mem H::F) w,
  λus _=>match us with|[.int _ i]=>(L.length-i).toNat|_=>0,⟨0,rfl,by omega,λj h=>by omega,SL.into hS Xi⟩,?_⟩
 clear hS
 rintro v3 w ⟨i,hus,hi,hall,hS⟩
 cases hus
 refine zn hv ?_
 refine Gp ?_
 refine zc (λh=>?_) (λh=>?_)
 ·have hil:i<L.length:=by omega
  have hbad:∀{w:World},¬OneP L i→SL W (.mem H::F) w→∃post,(∃q:Bool,(.bool false:Value)= .bool q∧(q=true↔MayP L)∧post=[.mem H])∧SL W (app post F) w:=λh hS=>hno (l:=[]) (λhp=>h (hp.2 i)) hS
  have hone:okRq i L[i]→(∀h0:0<i,L[i-1].at_≤L[i].at_)→(∀k (hk:k<i),¬(L[k].table=L[i].table∧L[k].done=false))→OneP L i:=λh1 h2 h3 _=>⟨h1,h2,h3⟩
  have hun:OneP L i→okRq i L[i]∧(∀h0:0<i,L[i-1].at_≤L[i].at_)∧∀k (hk:k<i),¬(L[k].table=L[i].table∧L[k].done=false):=λh=>h hil
  refine zU hS Xh encRq_len hv (x:=L[i]) (by simp[hil]) hil ?_
  refine zN hS ?_
  clear hS;intro b w hS
  refine zL (vs:=encRq L[i]) hS .hd rfl rfl (encRq_one _) ?_
  clear hS;intro w hS
  have hLi:L[i]?=some L[i]:=List.getElem?_eq_getElem hil
  generalize hr:L[i]=r at *
  obtain⟨rid,rt,rw_,rat,rcur,rch,rd⟩:=r
  unfold encRq at hS
  simp only at hS
  unfold okRq at hone hun
  simp only at hone hun
  refine⟨λus w=>us=[]∧rid=(i:Int)+1∧0≤rt∧rt<8∧1≤rw_∧rw_≤8∧1≤rat∧rat≤1099511627776∧(∀h0:0<i,L[i-1].at_≤rat)∧SL W (.pt b [.int .i64 rid,.int .i64 rt,.int .i64 rw_,.int .i64 rat,.int .i64 rcur,.int .i64 rch,.bool rd] 125::.mem H::F) w,?_,?_⟩
  ·refine Gn λw hS=>?_
   refine zc (λc1=>hbad (λhp=>by have:=(hun hp).1.1;omega) (SL.into hS Xi)) (λc1=>?_)
   refine Gp ?_
   refine zc (λc2=>hbad (λhp=>by have:=(hun hp).1.2.1;omega) (SL.into hS Xi)) (λc2=>?_)
   refine Gp ?_
   refine zc (λc3=>hbad (λhp=>by have:=(hun hp).1.2.2.1;omega) (SL.into hS Xi)) (λc3=>?_)
   refine Gp ?_
   refine zc (λc4=>hbad (λhp=>by have:=(hun hp).1.2.2.2.1;omega) (SL.into hS Xi)) (λc4=>?_)
   refine Gp ?_
   refine zc (λc5=>hbad (λhp=>by have:=(hun hp).1.2.2.2.2.1;omega) (SL.into hS Xi)) (λc5=>?_)
   refine Gp ?_
   refine zc (λc6=>hbad (λhp=>by have:=(hun hp).1.2.2.2.2.2.1;omega) (SL.into hS Xi)) (λc6=>?_)
   refine Gp ?_
   refine zc (λc7=>hbad (λhp=>by have:=(hun hp).1.2.2.2.2.2.2.1;omega) (SL.into hS Xi)) (λc7=>?_)
   refine Gp ?_
   refine zc (λc8=>?_) (λc8=>?_)
   ·have hi1:i-1<L.length:=by omega
    have e1:(i:Int)-1=((i-1:Nat):Int):=by omega
    refine Gp ?_
    rw[e1]
    refine zI hS Xh encRq_len hv (x:=L[i-1]) (by simp[hi1]) hi1 (i:=3) rfl ?_
    refine Gp ?_
    refine zc (λc9=>hbad (λhp=>by have:=(hun hp).2.1 (by omega);omega) (SL.into hS Xi)) (λc9=>?_)
    exact⟨rfl,by omega,by omega,by omega,by omega,by omega,by omega,by omega,λ_=>by omega,SL.into hS Xi⟩
   ·exact⟨rfl,by omega,by omega,by omega,by omega,by omega,by omega,by omega,λh=>by omega,SL.into hS Xi⟩
  ·clear hS
   rintro w ⟨-,c1,c2,c3,c4,c5,c6,c7,c8,hS⟩
   refine Gp ?_
   refine zc (λd=>hbad (λhp=>by have:=(hun hp).1;omega) (SL.into hS Xi)) (λd1=>?_)
   refine Gp ?_
   refine zc (λd=>hbad (λhp=>by have:=(hun hp).1;omega) (SL.into hS Xi)) (λd2=>?_)
   refine Gp ?_
   refine zc (λd=>hbad (λhp=>by have:=(hun hp).1;omega) (SL.into hS Xi)) (λd3=>?_)
   refine Gp ?_
   refine zc (λd=>hbad (λhp=>by have:=(hun hp).1;omega) (SL.into hS Xi)) (λd4=>?_)
   refine⟨λus w=>∃k:Nat,us=[.int .i64 k]∧k≤i∧(∀j (hj:j<k) (hl:j<L.length),¬(L[j].table=rt∧L[j].done=false))∧SL W (.pt b [.int .i64 rid,.int .i64 rt,.int .i64 rw_,.int .i64 rat,.int .i64 rcur,.int .i64 rch,.bool rd] 125::.mem H::F) w,
    λus _=>match us with|[.int _ k]=>(i-k).toNat|_=>0,⟨0,rfl,by omega,λj h=>by omega,hS⟩,?_⟩
   clear hS
   rintro v5 w ⟨k,hus,hk,hkk,hS⟩
   cases hus
   refine Gp ?_
   refine zc (λhki=>?_) (λhki=>?_)
   ·have hk1:k<i:=by omega
    have hkl:k<L.length:=by omega
    refine Gn λw hS=>?_
    refine zI hS Xh encRq_len hv (x:=L[k]) (by simp[hkl]) hkl (i:=1) rfl ?_
    refine Gp ?_
    refine zc (λht=>?_) (λht=>?_)
    ·refine zI hS Xh encRq_len hv (x:=L[k]) (by simp[hkl]) hkl (i:=6) rfl ?_
     refine Gp ?_
     refine zA (λhd=>?_) (λhd=>?_)
     ·exact hbad (λhp=>(hun hp).2.2 k hk1 ⟨ht,hd⟩) (SL.into hS Xi)
     ·refine Gp ?_
      refine⟨⟨k+1,by simp,by omega,λj h1 h2=>?_,hS⟩,by dsimp only;omega⟩
      by_cases e:j=k
      ·subst e;rintro ⟨_,h3⟩;rw[hd]at h3;cases h3
      ·exact hkk j (by omega) h2
    ·refine Gp ?_
     refine⟨⟨k+1,by simp,by omega,λj h1 h2=>?_,hS⟩,by dsimp only;omega⟩
     by_cases e:j=k
     ·subst e;rintro ⟨h3,_⟩;exact ht h3
     ·exact hkk j (by omega) h2
   ·have hki:k=i:=by omega
    subst hki
    refine Gp ?_
    refine⟨⟨k+1,by simp,by omega,λj h1=>?_,SL.into hS Xi⟩,by dsimp only;omega⟩
    by_cases e:j=k
    ·subst e;exact hone ⟨c1,c2,c3,c4,c5,c6,c7,by omega,by omega,by omega,by omega⟩ c8 λk' hk'=>hkk k' hk' (by omega)
    ·exact hall j (by omega)
 ·have hie:i=L.length:=by omega
  subst hie
  refine⟨_,⟨true,rfl,⟨λ_=>⟨by omega,λj hj=>?_⟩,λ_=>rfl⟩,rfl⟩,SL.into hS Xi⟩
  exact hall j hj hj
def RqAnsO(H:Heap)(u:Value)(post:List Chunk)(o:Option (List Rq)):Prop:=∃H',H.le H'∧post=[.mem H']∧match o with
 | none=>u= .tuple #[.slice none 0 0,.bool false]
 | some L'=>∃x,u= .tuple #[x,.bool true]∧RdRq H' x L'
def OneQ(r:Rq)(a:Int):Prop:=0≤r.table∧r.table<8∧1≤r.weight∧r.weight≤8∧max a 1≤r.at_∧r.at_≤1099511627776∧0≤r.cursor∧r.cursor≤1099511627776∧0≤r.chunks∧r.chunks≤1099511627776
theorem one_spec(r:Rq)(a:Int):SP 353 [agg (encRq r),.int .i64 a] [] (λv post=>∃q:Bool,v= .bool q∧(q=true↔OneQ r a)∧post=[]):=by
 intro W F w hS;apply vc353;unfold Vc353;(try simp only[app]at hS)
 obtain⟨rid,rt,rw_,rat,rcur,rch,rd⟩:=r
 unfold encRq OneQ
 simp only
 refine⟨_,rfl,zN hS ?_⟩
 clear hS;intro b w hS
 have hno:∀{w:World},¬(0≤rt∧rt<8∧1≤rw_∧rw_≤8∧max a 1≤rat∧rat≤1099511627776∧0≤rcur∧rcur≤1099511627776∧0≤rch∧rch≤1099511627776)→SL W F w→∃post,(∃q:Bool,(.bool false:Value)= .bool q∧(q=true↔0≤rt∧rt<8∧1≤rw_∧rw_≤8∧max a 1≤rat∧rat≤1099511627776∧0≤rcur∧rcur≤1099511627776∧0≤rch∧rch≤1099511627776)∧post=[])∧SL W (app post F) w:=λh hS=>⟨_,⟨false,rfl,⟨λe=>(by cases e),λe=>absurd e h⟩,rfl⟩,hS⟩
 refine Gp ?_
 refine zc (λc1=>?_) (λc=>hno (by omega) (SL.into hS Xi))
 refine Gp ?_
 refine zc (λc2=>?_) (λc=>hno (by omega) (SL.into hS Xi))
 refine Gp ?_
 refine zc (λc3=>?_) (λc=>hno (by omega) (SL.into hS Xi))
 refine Gp ?_
 refine zc (λc4=>?_) (λc=>hno (by omega) (SL.into hS Xi))
 refine Gp ?_
 refine zc (λc5=>?_) (λc=>hno (by omega) (SL.into hS Xi))
 refine Gp ?_
 refine zc (λc6=>?_) (λc=>hno (by omega) (SL.into hS Xi))
 refine Gp ?_
 refine zc (λc7=>?_) (λc=>hno (by omega) (SL.into hS Xi))
 refine Gp ?_
 refine zc (λc8=>?_) (λc=>hno (by omega) (SL.into hS Xi))
 refine Gp ?_
 refine zc (λc9=>?_) (λc=>hno (by omega) (SL.into hS Xi))
 refine Gp ?_
 refine⟨_,⟨_,rfl,?_,rfl⟩,SL.into hS Xi⟩
 rw[decide_eq_true_eq]
 exact⟨λc=>⟨c1,c2,c3,c4,c5,c6,c7,c8,c9,c⟩,λc=>c.2.2.2.2.2.2.2.2.2⟩
def openB(L:List Rq)(i t:Nat):Bool:=(L.take i).any λr=>decide (r.table=(t:Int)) && !r.done
theorem openB_iff{L:List Rq}{i t:Nat}:openB L i t=true↔∃k,∃h:k<L.length,k<i∧L[k].table=(t:Int)∧L[k].done=false:=by
 unfold openB
 rw[List.any_eq_true]
 constructor
 ·rintro ⟨r,hr,hx⟩
  obtain⟨k,hk,rfl⟩:=List.mem_iff_getElem.1 hr
  rw[List.length_take]at hk
  refine⟨k,by omega,by omega,?_⟩
  simpa using hx
 ·rintro ⟨k,h,hk,h1,h2⟩
  refine⟨L[k],List.mem_iff_getElem.2 ⟨k,by rw[List.length_take];omega,by simp⟩,by simp[h1,h2]⟩
def openC(L:List Rq)(i:Nat):List Value:=(List.range 8).map λt=>.bool (openB L i t)
theorem openC_at(L:List Rq)(i:Nat){t:Nat}(h:t<8){o:Nat}(ho:o=t):(openC L i)[o]?=some (.bool (openB L i t)):=by
 subst ho;unfold openC;simp[h]
theorem openC_set{L:List Rq}{i t:Nat}(hi:i<L.length)(ht:L[i].table=(t:Int))(h:openB L i t=false){o:Nat}(ho:o=t):(openC L i).set o (.bool !L[i].done)=openC L (i+1):=by
 subst ho
 unfold openC
 refine List.ext_getElem (by simp) λj h1 h2=>?_
 have hj:j<8:=by simpa using h2
 rw[List.getElem_set]
 have hs:∀t:Nat,openB L (i+1) t=(openB L i t || (decide (L[i].table=(t:Int)) && !L[i].done)):=λt=>by
  unfold openB
  rw[List.take_succ_eq_append_getElem hi,List.any_append];simp
 split
 ·rename_i e;subst e
  simp only[List.getElem_map,List.getElem_range]
  rw[hs,h,ht];simp
 ·rename_i e
  simp only[List.getElem_map,List.getElem_range]
  rw[hs,ht]
  have:¬((o:Int)=(j:Int)):=by omega
  simp[this]
theorem openC_zero(L:List Rq):openC L 0=[.bool false,.bool false,.bool false,.bool false,.bool false,.bool false,.bool false,.bool false]:=by
 simp[openC,openB,List.range,List.range.loop]
def aheadR(L:List Rq)(i:Nat):Int:=if i=0 then 0 else (L[i-1]?.map (·.at_)).getD 0
theorem QL(H:Heap)(v:Value)(L:List Rq)(hv:RdRq H v L)(hn:L.length≤140737488351232):
  SP 306 [v] [.mem H] (λu post=>∃q:Bool,u= .bool q∧(q=true↔MayP L)∧post=[.mem H]):=by
 intro W F w hS;apply vc306;unfold Vc306;(try simp only[app]at hS)
 have hno:∀{w:World},¬MayP L→SL W (.mem H::F) w→∃post,(∃q:Bool,(.bool false:Value)= .bool q∧(q=true↔MayP L)∧post=[.mem H])∧SL W (app post F) w:=λh hS=>
  ⟨_,⟨false,rfl,⟨λe=>(by cases e),λe=>absurd e h⟩,rfl⟩,hS⟩
 refine zN hS ?_
 clear hS;intro ob w hS
 refine zn hv ?_
 rw[← openC_zero L]at hS
 refine⟨λus w=>∃i:Nat,us=[.int .i64 (aheadR L i),.int .i64 i]∧i≤L.length∧(∀j,j<i→OneP L j)∧SL W (.pt ob (openC L i) 428::.mem H::F) w,
  λus _=>match us with|[_,.int _ i]=>(L.length-i).toNat|_=>0,⟨0,rfl,by omega,λj h=>by omega,SL.into hS Xi⟩,?_⟩
 clear hS
 rintro v4 v9 w ⟨i,hus,hi,hall,hS⟩
 cases hus
 refine Gp ?_
 refine zc (λh=>?_) (λh=>?_)
 ·have hil:i<L.length:=by omega
  have hbad:∀{w:World},¬OneP L i→SL W (.mem H::F) w→∃post,(∃q:Bool,(.bool false:Value)= .bool q∧(q=true↔MayP L)∧post=[.mem H])∧SL W (app post F) w:=λh hS=>hno (λhp=>h (hp.2 i)) hS
  refine zU hS Xh encRq_len hv (x:=L[i]) (by simp[hil]) hil ?_
  refine zN hS ?_
  clear hS;intro b w hS
  refine zL (vs:=encRq L[i]) hS .hd rfl rfl (encRq_one _) ?_
  clear hS;intro w hS
  have hun:OneP L i→okRq i L[i]∧(∀h0:0<i,L[i-1].at_≤L[i].at_)∧∀k (hk:k<i),¬(L[k].table=L[i].table∧L[k].done=false):=λh=>h hil
  have hah:max (aheadR L i) 1≤L[i].at_↔1≤L[i].at_∧∀h0:0<i,L[i-1].at_≤L[i].at_:=by
   unfold aheadR
   by_cases h0:i=0
   ·rw[if_pos h0];exact⟨λe=>⟨by omega,λh=>by omega⟩,λe=>by have:=e.1;omega⟩
   ·rw[if_neg h0,List.getElem?_eq_getElem (by omega)]
    simp only[Option.map_some,Option.getD_some]
    exact⟨λe=>⟨by omega,λ_=>by omega⟩,λe=>by have:=e.1;have:=e.2 (by omega);omega⟩
  unfold encRq at hS
  refine Gp ?_
  refine zc (λc=>hbad (λhp=>by have:=(hun hp).1.1;omega) (SL.into hS Xi)) (λc1=>?_)
  refine yt hS Xh rfl ?_
  (refine Cc (one_spec L[i] (aheadR L i)) ?_;clear hS)
  rintro _ post ⟨q1,rfl,hq1,rfl⟩ w hS
  (try simp only[app]at hS);refine Gp ?_
  refine zA (λhe=>hbad (λhp=>?_) (SL.into hS Xi)) (λhe=>?_)
  ·have hp:=hun hp
   have h1:OneQ L[i] (aheadR L i):=⟨hp.1.2.1,hp.1.2.2.1,hp.1.2.2.2.1,hp.1.2.2.2.2.1,hah.2 ⟨hp.1.2.2.2.2.2.1,hp.2.1⟩,hp.1.2.2.2.2.2.2.1,hp.1.2.2.2.2.2.2.2.1,hp.1.2.2.2.2.2.2.2.2.1,hp.1.2.2.2.2.2.2.2.2.2.1,hp.1.2.2.2.2.2.2.2.2.2.2⟩
   rw[hq1.2 h1]at he;cases he
  ·have hQ:=hq1.1 he
   have hat:=hah.1 hQ.2.2.2.2.1
   obtain⟨t,ht⟩:∃t:Nat,L[i].table=(t:Int):=⟨L[i].table.toNat,by have:=hQ.1;omega⟩
   have ht8:t<8:=by have:=hQ.2.1;omega
   have htv:Value.int .i64 L[i].table= .int .i64 (t:Int):=by rw[ht]
   refine Gp ?_
   rw[htv]at hS ⊢
   refine s_idxA ht8 (ye hS Xh (openC_at L i ht8 (by omega)) ?_)
   refine yZ (λho=>hbad (λhp=>?_) (SL.into hS Xi)) (λho=>?_)
   ·obtain⟨k,hk,hki,h1,h2⟩:=openB_iff.1 ho
    exact (hun hp).2.2 k hki ⟨by rw[h1,ht],h2⟩
   ·refine Gn λw hS=>?_
    refine s_idxA ht8 ?_
    refine Zc hS Xu (openC_at L i ht8 (by omega)) rfl ?_
    clear hS;intro w hS
    rw[openC_set hil ht ho (by omega)]at hS
    refine Gp ?_
    have ea:aheadR L (i+1)=L[i].at_:=by
     unfold aheadR;rw[if_neg (by omega),Nat.add_sub_cancel,List.getElem?_eq_getElem hil];rfl
    refine⟨⟨i+1,by rw[ea],by omega,λj hj=>?_,SL.into hS Xi⟩,by dsimp only;omega⟩
    by_cases e:j=i
    ·subst e
     refine λ_=>⟨⟨by omega,hQ.1,hQ.2.1,hQ.2.2.1,hQ.2.2.2.1,hat.1,hQ.2.2.2.2.2.1,hQ.2.2.2.2.2.2.1,hQ.2.2.2.2.2.2.2.1,hQ.2.2.2.2.2.2.2.2.1,hQ.2.2.2.2.2.2.2.2.2⟩,hat.2,λk hk hx=>?_⟩
     have:=openB_iff.2 ⟨k,by omega,hk,by rw[hx.1,ht],hx.2⟩
     rw[ho]at this;cases this
    ·exact hall j (by omega)
 ·have hie:i=L.length:=by omega
  subst hie
  refine zn hv ?_
  refine Gp ?_
  refine⟨_,⟨_,rfl,?_,rfl⟩,SL.into hS Xi⟩
  rw[decide_eq_true_eq]
  exact⟨λh=>⟨by omega,λj hj=>hall j hj hj⟩,λhp=>by have:=hp.1;omega⟩
theorem Zf(H:Heap)(v:Value)(L:List Rq)(hv:RdRq H v L)(hn:L.length≤140737488351232):
  SP 256 [v] [.mem H] (λu post=>∃q:Bool,u= .bool q∧(q=true↔MayP L)∧post=[.mem H]):=by
 intro W F w hS;apply vc256;unfold Vc256;(try simp only[app]at hS)
 (refine Cc (QL H v L hv hn) ?_;clear hS)
 rintro _ post ⟨q,rfl,hq,rfl⟩ w hS
 (try simp only[app]at hS)
 exact⟨_,⟨q,rfl,hq,rfl⟩,SL.into hS Xi⟩
def placeB(L:List Rq)(id:Int):Bool:=decide (1≤id∧id≤L.length) && (match L[(id-1).toNat]? with|some r=>!r.done|none=>false)
theorem s_subw{a b:Int}{K:Value→Prop}(h:K (.int .i64 (IntKind.i64.wrap (a-b)))):za .sub (.int .i64 a) (.int .i64 b) K:=⟨_,rfl,h⟩
theorem wrap_in{n:Int}(h : -9223372036854775808≤n∧n≤9223372036854775807):IntKind.i64.wrap n=n:=IntWalk.i64_in _ h
theorem qE(H:Heap)(v:Value)(L:List Rq)(id:Int)(hv:RdRq H v L)(hn:L.length≤1000)(hid : -9223372036854775808≤id∧id≤9223372036854775807):
  SP 263 [v,.int .i64 id] [.mem H] (Gives (.tuple #[.int .i64 (IntKind.i64.wrap (id-1)),.bool (placeB L id)]) [.mem H]):=by
 intro W F w hS;apply vc263;unfold Vc263;(try simp only[app]at hS)
 refine Gn λw hS=>?_
 refine s_subw ?_
 refine Gp ?_
 refine zc (λh1=>?_) (λh1=>?_)
 ·refine zn hv ?_
  refine Gp ?_
  refine zc (λh2=>?_) (λh2=>?_)
  ·obtain⟨j,rfl⟩:∃j:Nat,id=((j+1:Nat):Int):=⟨(id-1).toNat,by omega⟩
   have hj:j<L.length:=by omega
   have ej:((j+1:Nat):Int)-1=(j:Int):=by omega
   have hp:placeB L ((j+1:Nat):Int) = !L[j].done:=by
    unfold placeB
    rw[decide_eq_true (by omega),show (((j+1:Nat):Int)-1).toNat=j by omega,List.getElem?_eq_getElem hj];rfl
   rw[hp,wrap_in (by omega),ej]
   refine Gp ?_
   rw[ej]
   have hd:=flat_at encRq_len L j 6 L[j] (.bool L[j].done) (by simp[hj]) rfl
   refine Zs hv hj λb o hb=>zS (Zz hS Xh (hb 6 _ (by decide) hd) ?_)
   refine Gp ?_
   refine Zz hS Xh (hb 6 _ (by decide) hd) ?_
   exact⟨rfl,_,⟨rfl,rfl⟩,SL.into hS Xi⟩
  ·have hp:placeB L id=false:=by unfold placeB;rw[decide_eq_false (by omega)];rfl
   rw[hp]
   exact⟨_,⟨rfl,rfl⟩,SL.into hS Xi⟩
 ·have hp:placeB L id=false:=by unfold placeB;rw[decide_eq_false (by omega)];rfl
  rw[hp]
  exact⟨_,⟨rfl,rfl⟩,SL.into hS Xi⟩
theorem yu(H:Heap)(v:Value)(L:List Rq)(hv:RdRq H v L)(hn:L.length≤1000):
  SP 126 [v] [.mem H] (λu post=>post=[.ob (OwnSl u 125 7 L.length (L.map encRq).flatten),.mem H]):=by
 exact clone_rd vc126 rfl (by decide) hv (rqs_one L) (by omega) (by omega)
theorem Yx(H:Heap)(v:Value)(L:List Rq)(table weight at_:Int)(hv:RdRq H v L)(hn:L.length≤1000):
  SP 258 [v,.int .i64 table,.int .i64 weight,.int .i64 at_] [.mem H] (λu post=>RqAnsO H u post (acceptR L table weight at_)):=by
 intro W F w hS;apply vc258;unfold Vc258;(try simp only[app]at hS)
 (refine Cc (yu H v L hv hn) ?_;clear hS)
 rintro v1 post rfl w hS;(try simp only[app]at hS)
 refine zn hv ?_
 refine Gm λb w hS=>?_
 refine zz (n:=L.length) (m:=1) (cells:=(L.map encRq).flatten) hS Xr (src_pt0 (cs:=encRq ⟨((L.length+1:Nat):Int),table,weight,at_,0,0,false⟩) hS .hd rfl) rfl rfl (encRq_one _) (by omega) (by omega) ?_
 clear hS;intro v2 w hS
 rw[← flat_snoc]at hS
 obtain⟨H1,h01,hR1,hS⟩:=zG (H:=H) (v:=v2) (n:=L.length+1) (sz:=7) (t:=125) (cells:=((L++[(⟨((L.length+1:Nat):Int),table,weight,at_,0,0,false⟩:Rq)]).map encRq).flatten) hS Xp
 have hlen:(L++[(⟨((L.length+1:Nat):Int),table,weight,at_,0,0,false⟩:Rq)]).length=L.length+1:=by simp
 have hR1:RdRq H1 v2 (L++[(⟨((L.length+1:Nat):Int),table,weight,at_,0,0,false⟩:Rq)]):=by unfold RdRq;rw[hlen];exact hR1
 have hN:newRq L table weight at_=⟨((L.length+1:Nat):Int),table,weight,at_,0,0,false⟩:=rfl
 unfold acceptR
 rw[hN]
 generalize hL2:L++[(⟨((L.length+1:Nat):Int),table,weight,at_,0,0,false⟩:Rq)]=L2 at hR1 hlen ⊢
 (refine Cc (Zf H1 v L (hv.mono h01) (by omega)) ?_;clear hS)
 rintro _ post ⟨q1,rfl,hq1,rfl⟩ w hS
 (try simp only[app]at hS);refine Gp ?_
 refine zA (λhe=>?_) (λhe=>?_)
 ·rw[if_neg λh=>by rw[hq1.2 h.1]at he;cases he]
  exact⟨_,⟨H1,h01,rfl,rfl⟩,SL.into hS Xi⟩
 ·skip
  (refine Cc (Zf H1 v2 L2 hR1 (by omega)) ?_;clear hS)
  rintro _ post ⟨q2,rfl,hq2,rfl⟩ w hS
  (try simp only[app]at hS);refine Gp ?_
  refine zA (λhe2=>?_) (λhe2=>?_)
  ·rw[if_neg λh=>by rw[hq2.2 h.2]at he2;cases he2]
   exact⟨_,⟨H1,h01,rfl,rfl⟩,SL.into hS Xi⟩
  ·rw[if_pos ⟨hq1.1 he,hq2.1 he2⟩]
   exact⟨_,⟨H1,h01,rfl,v2,rfl,hR1⟩,SL.into hS Xi⟩
theorem placeB_at{L:List Rq}{id:Int}(h:placeB L id=true):∃j:Nat,∃hj:j<L.length,id=((j+1:Nat):Int)∧L[j].done=false:=by
 unfold placeB at h
 rw[Bool.and_eq_true,decide_eq_true_eq]at h
 obtain⟨⟨h1,h2⟩,h3⟩:=h
 have hj:(id-1).toNat<L.length:=by omega
 rw[List.getElem?_eq_getElem hj]at h3
 exact⟨(id-1).toNat,hj,by omega,by simpa using h3⟩
theorem chunkR_place{L:List Rq}{id c:Int}{dn:Bool}(h:placeB L id=false):chunkR L id c dn=none:=by
 unfold chunkR
 split
 ·rename_i hc
  have hj:(id-1).toNat<L.length:=by omega
  unfold placeB at h
  rw[decide_eq_true hc.2,List.getElem?_eq_getElem hj]at h
  rw[List.getElem?_eq_getElem hj]
  simp only[Bool.true_and,Bool.not_eq_false']at h
  simp only[h,true_or,if_true]
 ·rfl
theorem rq_set{L:List Rq}{rest:List Value}{j i:Nat}(hj:j<L.length)(hi:i<7){v:Value}{y:Rq}(hy:(encRq L[j]).set i v=encRq y):((L.map encRq).flatten++rest).set (0+j*7+i) v=((L.set j y).map encRq).flatten++rest:=by
 rw[Nat.zero_add,List.set_append_left _ _ (by rw[flat_len encRq_len];omega),flat_setN encRq_len L j i hj y v hi hy]
theorem rq_at{L:List Rq}{rest:List Value}{j i:Nat}(hj:j<L.length){u:Value}(hu:(encRq L[j])[i]?=some u):((L.map encRq).flatten++rest)[0+j*7+i]?=some u:=by
 have h:=flat_at encRq_len L j i L[j] u (List.getElem?_eq_getElem hj) hu
 rw[Nat.zero_add,List.getElem?_append_left (List.getElem?_eq_some_iff.1 h).1];exact h
theorem YZ(H:Heap)(v:Value)(L:List Rq)(id cursor:Int)(dn:Bool)(hv:RdRq H v L)(hn:L.length≤1000)(hid : -9223372036854775808≤id∧id≤9223372036854775807):
  SP 201 [v,.int .i64 id,.int .i64 cursor,.bool dn] [.mem H] (λu post=>RqAnsO H u post (chunkR L id cursor dn)):=by
 intro W F w hS;apply vc201;unfold Vc201;(try simp only[app]at hS)
 have hno:∀{w:World},chunkR L id cursor dn=none→SL W (.mem H::F) w→∃post,RqAnsO H (.tuple #[.slice none 0 0,.bool false]) post (chunkR L id cursor dn)∧SL W (app post F) w:=λe hS=>⟨_,⟨H,Heap.le_refl H,rfl,by rw[e]⟩,hS⟩
 refine Cg (qE H v L id hv hn hid) λw hS=>?_
 (refine Cc (Zf H v L hv (by omega)) ?_;clear hS)
 rintro _ post ⟨q1,rfl,hq1,rfl⟩ w hS
 (try simp only[app]at hS);refine Gp ?_
 refine zA (λhe=>hno (chunkR_no λh=>by rw[hq1.2 h.1]at he;cases he) (SL.into hS Xi)) (λhe=>?_)
 have hM:=hq1.1 he
 refine Gp ?_
 refine zA (λh=>hno (chunkR_place h) (SL.into hS Xi)) (λh1=>?_)
 obtain⟨j,hj,rfl,hd⟩:=placeB_at h1
 have ew:IntKind.i64.wrap (((j+1:Nat):Int)-1)=(j:Int):=by rw[wrap_in (by omega)];omega
 rw[ew]
 have hcr:=chunkR_at hM hj cursor dn
 have hok:=(hM.2 j hj).1
 unfold okRq at hok
 have hx:L[j]?=some L[j]:=List.getElem?_eq_getElem hj
 refine zI hS Xh encRq_len hv hx hj (i:=4) rfl ?_
 refine Gp ?_
 refine zc (λh=>hno (by rw[hcr,if_pos (.inr (.inl h))]) (SL.into hS Xi)) (λh4=>?_)
 refine Gp ?_
 refine zc (λh=>hno (by rw[hcr,if_pos (.inr (.inr (.inl h)))]) (SL.into hS Xi)) (λh5=>?_)
 refine zI hS Xh encRq_len hv hx hj (i:=5) rfl ?_
 refine Gp ?_
 refine zc (λh=>hno (by rw[hcr,if_pos (.inr (.inr (.inr h)))]) (SL.into hS Xi)) (λh6=>?_)
 rw[hcr,if_neg (by rw[hd];rintro (h|h|h|h);exact Bool.false_ne_true h;exact h4 h;exact h5 h;exact h6 h)]
 (refine Cc (yu H v L hv hn) ?_;clear hS)
 rintro v1 post rfl w hS;(try simp only[app]at hS)
 rcases OwnSl.open hS with ⟨_,h0,_⟩|⟨ob,cap,rest,rfl,hc,hl,hrest,hS⟩
 ·omega
 refine zE hj (zS (Zc hS Xu (rq_at hj (i:=4) rfl) rfl ?_))
 clear hS;intro w hS
 rw[rq_set hj (by decide) (y:={L[j] with cursor:=cursor}) rfl]at hS
 have hj1:j<(L.set j {L[j] with cursor:=cursor}).length:=by rw[List.length_set];exact hj
 have e1:(L.set j {L[j] with cursor:=cursor})[j]={L[j] with cursor:=cursor}:=by simp
 refine zE hj (zS (Zc hS Xu (rq_at hj1 (i:=6) (u:=.bool L[j].done) (by rw[e1];rfl)) rfl ?_))
 clear hS;intro w hS
 rw[rq_set hj1 (by decide) (y:={L[j] with cursor:=cursor,done:=dn}) (by rw[e1];rfl),List.set_set]at hS
 have hj2:j<(L.set j {L[j] with cursor:=cursor,done:=dn}).length:=by rw[List.length_set];exact hj
 have e2:(L.set j {L[j] with cursor:=cursor,done:=dn})[j]={L[j] with cursor:=cursor,done:=dn}:=by simp
 refine zE hj (zS (ye hS .hd (rq_at hj2 (i:=5) (u:=.int .i64 L[j].chunks) (by rw[e2];rfl)) ?_))
 refine Gp ?_
 refine zE hj (zS (Zc hS Xu (rq_at hj2 (i:=5) (u:=.int .i64 L[j].chunks) (by rw[e2];rfl)) rfl ?_))
 clear hS;intro w hS
 rw[rq_set hj2 (by decide) (y:={L[j] with cursor:=cursor,chunks:=L[j].chunks+1,done:=dn}) (by rw[e2];rfl),List.set_set]at hS
 generalize hL2:L.set j {L[j] with cursor:=cursor,chunks:=L[j].chunks+1,done:=dn}=L2 at *
 have hlen:L2.length=L.length:=by rw[← hL2,List.length_set]
 have hS:=OwnSl.mk (n:=L2.length) (cap:=cap) (sz:=7) (rest:=rest) (by omega) (flat_len encRq_len L2) (by rw[hlen];exact hrest) hS
 obtain⟨H1,h01,hR1,hS⟩:=zG (H:=H) (v:=.slice (some ⟨ob,0,none⟩) L2.length cap) (n:=L2.length) (sz:=7) (t:=125) (cells:=(L2.map encRq).flatten) hS Xp
 exact⟨_,⟨H1,h01,rfl,_,rfl,by rw[← hlen];exact hR1⟩,SL.into hS Xi⟩
structure PCfg where
 tables:Int
 late:Int
 size:Int
 queue:Int
 chunk:Int
 batch:Int
 base:Int
 most:Int
 jitter:Int
 every:Int
def encCfg(c:PCfg):List Value:=[.int .i64 c.tables,.int .i64 c.late,.int .i64 c.size,.int .i64 c.queue,.int .i64 c.chunk,.int .i64 c.batch,.int .i64 c.base,.int .i64 c.most,.int .i64 c.jitter,.int .i64 c.every]
theorem s_shlK{a:Int}{k:IntKind}{n:Nat}{K:Value→Prop}(hn:n≤60)(hr : -9223372036854775808≤a*2 ^ n∧a*2 ^ n≤9223372036854775807)(h:K (.int .i64 (a*2 ^ n))):za .shl (.int .i64 a) (.int k (n:Int)) K:=by
 refine⟨.int .i64 (a*2 ^ n),?_,h⟩
 have hmin:min n 64=n:=Nat.min_eq_left (by omega)
 show (if ((n:Nat):Int)<0 then none else some (Value.int .i64 (IntKind.i64.wrap (a*2 ^ (min ((n:Nat):Int).toNat 64)))))=_
 rw[if_neg (by omega),Int.toNat_natCast,hmin,IntWalk.i64_in _ hr]
theorem s_cvU{j:IntKind}{n:Nat}{K:Value→Prop}(hr:n≤9223372036854775807)(h:K (.int .u64 (n:Int))):zK .u64 (.int j (n:Int)) K:=zR (by rw[show IntKind.u64.wrap (n:Int)=n by rw[IntKind.wrap_u64];omega];exact h)
theorem idxf_rd{P:Program}{T:List Bool}{f g:FuncId}{sz:Nat}{α:Type}{enc:α→List Value}(hn:∀x,(enc x).length=sz)(hT:T.getD g false=true){cap:Array Value}{c:Chunk}{q:α→Bool}{H:Heap}
  (vc:∀v0 v1 w R,VcIdxF P T sz v0 v1 w R→z6 P f [v0,v1] w R) (one:∀x,Spec P g ([agg (enc x)]++cap.toList) [c] (Gives (.bool (q x)) [c]))
  (v:Value) (xs:List α) (hv:RdSl H sz v xs.length (xs.map enc).flatten) (hl:xs.length≤9223372036854775806) :
  Spec P f [v,.func (.func g) #[] cap] [c,.mem H] (Gives (.int .i64 (idxI (xs.findIdx? q))) [c,.mem H]):=by
 intro W F w hS;apply vc;unfold VcIdxF
 have hS:SL W (c::.mem H::F) w:=hS
 refine zn hv ?_
 refine⟨λvs w=>∃k:Nat,vs=[.int .i64 k]∧k≤xs.length∧(∀j (h:j<xs.length),j<k→q xs[j]=false)∧SL W (c::.mem H::F) w,λvs _=>match vs with|[.int _ k]=>(xs.length-k).toNat|_=>0,⟨0,rfl,by omega,λj h hj=>by omega,hS⟩,?_⟩
 clear hS
 rintro v8 w ⟨k,hv,hk,hq,hS⟩
 cases hv
 refine Gp ?_
 refine zc (λh=>?_) (λh=>?_)
 ·have hkl:k<xs.length:=by omega
  refine zU hS Xh hn ‹_› (x:=xs[k]) (by simp[hkl]) hkl ?_
  refine Qq (args':=[agg (enc xs[k])]++cap.toList) hT (one xs[k]) (by simp) hS Xp ?_
  clear hS
  rintro _ post ⟨rfl,rfl⟩ w hS
  (try simp only[app]at hS)
  cases hqx:q xs[k] with
  | true=>
   refine zy ?_
   have e:xs.findIdx? q=some k:=List.findIdx?_eq_some_iff_getElem.2 ⟨hkl,hqx,λj hj=>by rw[hq j (by omega) hj];decide⟩
   rw[e]
   exact⟨_,⟨rfl,rfl⟩,hS⟩
  | false=>
   refine zt ?_
   refine Gp ?_
   refine⟨⟨k+1,rfl,by omega,λj h hj=>?_,hS⟩,by dsimp only;omega⟩
   rcases Nat.lt_or_ge j k with hjk|hjk
   ·exact hq j h hjk
   ·obtain rfl:j=k:=by omega
    exact hqx
 ·have e:xs.findIdx? q=none:=List.findIdx?_eq_none_iff.2 λx hx=>by
   obtain⟨j,hj,rfl⟩:=List.mem_iff_getElem.1 hx
   exact hq j hj (by omega)
  rw[e]
  exact⟨_,⟨rfl,rfl⟩,hS⟩
structure PMux.Ok(m:PMux):Prop where
 reqs:MayP m.reqs
 t1:1≤m.tables∧m.tables≤8
 rows:m.win.rows.length≤1000
 at0:0≤m.at_∧m.at_≤1099511627776
abbrev mxcells(m:PMux)(wp:Nat)(rv:Value):List Value:=[ptrA wp,.int .i64 m.tables,.int .i64 m.late,.int .i64 m.at_,rv]
def MuxO(mp wp:Nat)(H:Heap)(m:PMux):zC:=HEx λrv:Value=>zQ (RdRq H rv m.reqs) [.pt mp (mxcells m wp rv) 111,.ob (WinO wp m.win)]
section
variable {W w:World} {l F:List Chunk} {mp wp:Nat} {H H':Heap}
theorem MuxO.iff{m:PMux}:SL W (.ob (MuxO mp wp H m)::l) w↔∃rv,RdRq H rv m.reqs∧SL W (.pt mp (mxcells m wp rv) 111::.ob (WinO wp m.win)::l) w:=by
 unfold MuxO
 simp only[SL.ex,SL.fact,List.cons_append,List.nil_append]
theorem MuxO.put(m:PMux)(rv:Value)(hr:RdRq H rv m.reqs)(hS:SL W l w)(p:Pick [.pt mp (mxcells m wp rv) 111,.ob (WinO wp m.win)] l F):SL W (.ob (MuxO mp wp H m)::F) w:=MuxO.iff.2 ⟨rv,hr,hS.pick p⟩
theorem MuxO.monoP{m:PMux}(hh:H.le H')(hS:SL W l w)(r:Rem (.ob (MuxO mp wp H m)) l F):SL W (.ob (MuxO mp wp H' m)::F) w:=by
 obtain⟨rv,h1,h2⟩:=MuxO.iff.1 (hS.perm r.perm)
 exact MuxO.iff.2 ⟨rv,h1.mono hh,h2⟩
end
theorem Z3(H:Heap)(v:Value)(L:List Rq)(tables lsn:Int)(hv:RdRq H v L)(hn:L.length≤1000):
  SP 193 [v,.int .i64 tables,.int .i64 lsn] [.mem H] (λu post=>∃q:Bool,u= .bool q∧(q=true↔MayP L∧∀r∈L,r.table<tables∧r.at_≤lsn)∧post=[.mem H]):=by
 intro W F w hS;apply vc193;unfold Vc193;(try simp only[app]at hS)
 refine zn hv ?_
 refine⟨λus w=>∃i:Nat,us=[.int .i64 i]∧i≤L.length∧(∀j (h:j<L.length),j<i→L[j].table<tables∧L[j].at_≤lsn)∧SL W (.mem H::F) w,λus _=>match us with|[.int _ i]=>(L.length-i).toNat|_=>0,⟨0,rfl,by omega,λj h hj=>by omega,hS⟩,?_⟩
 clear hS
 rintro v11 w ⟨i,hus,hi,hall,hS⟩
 cases hus
 refine Gp ?_
 refine zc (λh=>?_) (λh=>?_)
 ·have hil:i<L.length:=by omega
  have hx:L[i]?=some L[i]:=List.getElem?_eq_getElem hil
  have hm:=List.getElem_mem hil
  refine zU hS Xh encRq_len hv hx hil ?_
  have hnx:L[i].table<tables∧L[i].at_≤lsn→∀j (h:j<L.length),j<i+1→L[j].table<tables∧L[j].at_≤lsn:=λh j hj hji=>by
   rcases Nat.lt_or_ge j i with h2|h2
   ·exact hall j hj h2
   ·obtain rfl:j=i:=by omega
    exact h
  generalize L[i]=r at *
  refine Gb λxb w hS=>?_
  refine zc (λh2=>⟨_,⟨false,rfl,⟨(λe=>by cases e),λx=>by have:=(x.2 r hm).1;omega⟩,rfl⟩,SL.into hS Xi⟩) (λh2=>?_)
  refine Gp ?_
  refine zc (λh3=>⟨_,⟨false,rfl,⟨(λe=>by cases e),λx=>by have:=(x.2 r hm).2;omega⟩,rfl⟩,SL.into hS Xi⟩) (λh3=>?_)
  refine Gp ?_
  exact⟨⟨i+1,rfl,by omega,hnx ⟨by omega,by omega⟩,SL.into hS Xi⟩,by dsimp only;omega⟩
 ·(refine Cc (Zf H v L hv (by omega)) ?_;clear hS)
  rintro _ post ⟨q,rfl,hq,rfl⟩ w hS
  (try simp only[app]at hS)
  refine⟨_,⟨q,rfl,hq.trans ⟨λx=>⟨x,λr hr=>?_⟩,λx=>x.1⟩,rfl⟩,hS⟩
  obtain⟨j,hj,rfl⟩:=List.getElem_of_mem hr
  exact hall j hj (by omega)
def NewMQ(H:Heap)(tables late chunk lsn:Int)(L:List Rq)(v:Value)(post:List Chunk):Prop:=
 (muxBad tables late chunk lsn L∧(∃e:Int,e≠0∧v= .tuple #[.pointer none,.int .i64 e])∧post=[.mem H]) ∨
 (¬muxBad tables late chunk lsn L∧∃(mp wp:Nat) (H':Heap),H.le H'∧v= .tuple #[ptrA mp,.int .i64 0]∧post=[.ob (MuxO mp wp H' ⟨tables,late,lsn,L,win0 chunk⟩),.mem H'])
theorem QP(H:Heap)(tables late chunk lsn:Int)(v:Value)(L:List Rq)(hv:RdRq H v L)(hn:L.length≤1000):
  SP 113 [.int .i64 tables,.int .i64 late,.int .i64 chunk,.int .i64 lsn,v] [.mem H] (NewMQ H tables late chunk lsn L):=by
 intro W F w hS;apply vc113;unfold Vc113;(try simp only[app]at hS)
 have hbad:∀{e:Int} {w:World},e≠0→muxBad tables late chunk lsn L→SL W (.mem H::F) w→∃post,NewMQ H tables late chunk lsn L (.tuple #[.pointer none,.int .i64 e]) post∧SL W (app post F) w:=λhe h hS=>⟨_,.inl ⟨h,⟨_,he,rfl⟩,rfl⟩,hS⟩
 refine Gp ?_
 refine zc (λh=>hbad (by decide) (.inl h) hS) (λh1=>?_)
 refine Gp ?_
 refine zc (λh=>hbad (by decide) (.inr (.inl h)) hS) (λh2=>?_)
 refine Gp ?_
 refine zc (λh=>hbad (by decide) (.inr (.inr (.inl h))) hS) (λh3=>?_)
 obtain⟨n,rfl⟩:∃n:Nat,tables=n:=⟨tables.toNat,by omega⟩
 have hpow:(2:Int) ^ n≤256:=by
  have:n≤8:=by omega
  match n,this with
  | 0,_=>decide
  | 1,_=>decide
  | 2,_=>decide
  | 3,_=>decide
  | 4,_=>decide
  | 5,_=>decide
  | 6,_=>decide
  | 7,_=>decide
  | 8,_=>decide
 have hpos:(0:Int)<2 ^ n:=Int.pow_pos (by decide)
 refine s_shlK (by omega) (by omega) ?_
 rw[Int.one_mul]
 refine Gp ?_
 refine zc (λh=>hbad (by decide) (.inr (.inr (.inr (.inl (by rw[Int.toNat_natCast];exact h))))) hS) (λh4=>?_)
 refine Gp ?_
 refine zc (λh=>hbad (by decide) (.inr (.inr (.inr (.inr (.inl h))))) hS) (λh5=>?_)
 refine Gp ?_
 refine zc (λh=>hbad (by decide) (.inr (.inr (.inr (.inr (.inr (.inl h)))))) hS) (λh6=>?_)
 (refine Cc (Z3 H v L n lsn hv hn) ?_;clear hS)
 rintro _ post ⟨q,rfl,hq,rfl⟩ w hS
 (try simp only[app]at hS);refine Gp ?_
 refine zA (λhe=>?_) (λhe=>?_)
 ·refine hbad (by decide) (.inr (.inr (.inr (.inr (.inr (.inr (.inr (.inr ?_)))))))) hS
  by_cases hm:MayP L
  ·right
   refine Classical.byContradiction λhx=>?_
   have:q=true:=hq.2 ⟨hm,λr hr=>by
    refine⟨Int.not_le.1 λh=>hx ⟨r,hr,.inl h⟩,Int.not_lt.1 λh=>hx ⟨r,hr,.inr h⟩⟩⟩
   rw[he]at this;cases this
  ·exact .inl hm
 obtain⟨hm,hall⟩:=hq.1 he
 (refine Cc (Q6 chunk) ?_;clear hS)
 rintro r post hq2 w hS
 rcases hq2 with ⟨h7,rfl,rfl⟩|⟨h7,wp,rfl,rfl⟩
 ·(try simp only[app]at hS);refine Gp ?_
  refine zc (λ_=>?_) (λh=>absurd (by decide) h)
  exact hbad (by decide) (.inr (.inr (.inr (.inr (.inr (.inr (by omega))))))) hS
 ·(try simp only[app]at hS);refine Gp ?_
  refine zc (λh=>absurd rfl h) (λ_=>?_)
  refine yq (cells:=[ptrA wp]) (by simp[fillL,Value.cells,ptrA]) ?_
  (refine Cc (yu H v L hv hn) ?_;clear hS)
  rintro u post rfl w hS
  (try simp only[app]at hS)
  obtain⟨H1,h01,hR,hS⟩:=zG (H:=H) (v:=u) hS Xp
  have hu:u.oneCell'=true:=hR.one
  refine yq (cells:=[ptrA wp,.int .i64 n,.int .i64 late,.int .i64 lsn,u]) (by simp[fillL,show ∀n,(Value.int .i64 n).cells = #[.int .i64 n] from λ_=>rfl,show ∀v,(Value.agg #[v]).cells = #[v] from λ_=>rfl,one_cells hu]) ?_
  refine⟨_,rfl,zN hS λmp w hS=>?_⟩
  have hok:¬muxBad n late chunk lsn L:=by
   rintro (h|h|h|h|h|h|h|h|h|⟨r,hr,h⟩)
   ·exact h1 h
   ·exact h2 h
   ·exact h3 h
   ·rw[Int.toNat_natCast]at h;exact h4 h
   ·exact h5 h
   ·exact h6 h
   ·omega
   ·omega
   ·exact h hm
   ·have:=hall r hr;omega
  have hS:=MuxO.put (wp:=wp) ⟨n,late,lsn,L,win0 chunk⟩ u hR hS Xp
  exact⟨_,.inr ⟨hok,mp,wp,H1,h01,rfl,rfl⟩,SL.into hS Xi⟩
section
variable (mp wp:Nat) (H:Heap) (m:PMux)
theorem yL(hn:m.reqs.length≤1000):SP 49 [ptrA mp] [.ob (MuxO mp wp H m),.mem H] (λu post=>post=[.ob (OwnSl u 125 7 m.reqs.length (m.reqs.map encRq).flatten),.ob (MuxO mp wp H m),.mem H]):=by
 intro W F w hS;apply vc49;unfold Vc49;(try simp only[app]at hS)
 obtain⟨rv,hr,hS⟩:=MuxO.iff.1 hS
 refine Gp ?_
 (refine Cc (yu H rv m.reqs hr hn) ?_;clear hS)
 rintro u post rfl w hS
 (try simp only[app]at hS)
 exact⟨_,rfl,SL.into (MuxO.put m rv hr hS Xp) Xi⟩
theorem Yf:SP 47 [agg [ptrA wp]] [] (Gives (ptrA wp) []):=by
 intro W F w hS;apply vc47;unfold Vc47;(try simp only[app]at hS)
 refine zJ hS λxb w hS=>?_
 refine Gp ?_
 exact⟨_,⟨rfl,rfl⟩,SL.into hS Xi⟩
theorem YX(k:PWin)(x:TxV):SP 53 [agg [ptrA wp],agg (encTx x)] [.ob (WinO wp k)] (Gives (.bool (k.waits x.kind x.mark)) [.ob (WinO wp k)]):=by
 intro W F w hS;apply vc53;unfold Vc53;(try simp only[app]at hS)
 refine zJ hS λxb w hS=>?_
 refine zJ hS λyb w hS=>?_
 refine Gp ?_
 refine Cg (qp wp k x) λw hS=>?_
 exact⟨_,⟨rfl,rfl⟩,SL.into hS Xi⟩
theorem Qw(b:Nat)(t:Int)(r:Rq):SP 260 ([agg (encRq r)]++(#[ptrA b]:Array Value).toList) [.pt b [.int .i64 t] 3] (Gives (.bool (decide (r.table=t))) [.pt b [.int .i64 t] 3]):=by
 intro W F w hS;apply vc260;unfold Vc260;(try simp only[app]at hS)
 refine zJ hS λxb w hS=>?_
 unfold encRq at hS
 refine Gp ?_
 exact⟨_,⟨rfl,rfl⟩,SL.into hS Xi⟩
theorem any_idx{α:Type}{l:List α}{q:α→Bool}:decide (0≤idxI (l.findIdx? q))=l.any q:=by
 cases h:l.findIdx? q with
 | none=>
  have:=List.findIdx?_eq_none_iff.1 h
  rw[show l.any q=false by rw[List.any_eq_false];exact λx hx=>by rw[this x hx];decide];rfl
 | some i=>
  obtain⟨hi,hk,_⟩:=List.findIdx?_eq_some_iff_getElem.1 h
  rw[show l.any q=true from List.any_eq_true.2 ⟨_,List.getElem_mem hi,hk⟩]
  exact decide_eq_true (by simp only[idxI];omega)
theorem Z2(hn:m.reqs.length≤1000)(t:Int):SP 198 [ptrA mp,.int .i64 t] [.ob (MuxO mp wp H m),.mem H] (Gives (.bool (m.captured t)) [.ob (MuxO mp wp H m),.mem H]):=by
 intro W F w hS;apply vc198;unfold Vc198;(try simp only[app]at hS)
 obtain⟨rv,hr,hS⟩:=MuxO.iff.1 hS
 unfold PMux.captured
 refine⟨rfl,zN hS λb w hS=>?_⟩
 refine Gn λw hS=>?_
 refine zc (λh=>?_) (λh1=>?_)
 ·rw[decide_eq_false (by omega),Bool.false_and]
  exact⟨_,⟨rfl,rfl⟩,SL.into (MuxO.put m rv hr hS Xp) Xi⟩
 refine Gp ?_
 refine zc (λh=>?_) (λh2=>?_)
 ·rw[decide_eq_false (by omega),Bool.false_and]
  exact⟨_,⟨rfl,rfl⟩,SL.into (MuxO.put m rv hr hS Xp) Xi⟩
 rw[decide_eq_true (show 0≤t∧t<m.tables by omega),Bool.true_and]
 refine Gn λw hS=>?_
 refine s_bit (by omega) ?_
 refine Gp ?_
 refine zc (λh=>?_) (λh3=>?_)
 ·rw[decide_eq_true h,Bool.true_or]
  exact⟨_,⟨rfl,rfl⟩,SL.into (MuxO.put m rv hr hS Xp) Xi⟩
 rw[decide_eq_false h3,Bool.false_or]
 refine Gp ?_
 have hC:SP 259 [rv,.func (.func 260) #[] #[ptrA b]] [.pt b [.int .i64 t] 3,.mem H] (Gives (.bool (m.reqs.any λr=>decide (r.table=t))) [.pt b [.int .i64 t] 3,.mem H]):=by
  intro W F w hS;apply vc259;unfold Vc259;(try simp only[app]at hS)
  refine Cg (idxf_rd encRq_len rfl (λv0 v1 w R h=>vc310 v0 v1 w R h) (λr=>Qw b t r) rv m.reqs hr (by omega)) λw hS=>?_
  rw[any_idx]
  exact⟨_,⟨rfl,rfl⟩,hS⟩
 refine Cg (hC) λw hS=>?_
 exact⟨_,⟨rfl,rfl⟩,SL.into (MuxO.put m rv hr hS Xp) Xi⟩
end
abbrev NtW(v:Value)(l:List PNote):Chunk:=.ob (OwnSl v 295 7 l.length (l.map encNote).flatten)
abbrev OpW(v:Value)(l:List AOp):Chunk:=.ob (OwnSl v 123 5 l.length (l.map encOp).flatten)
theorem Yt(mp wp:Nat)(H:Heap)(m:PMux)(hm:m.Ok)(s:ByteArray)(hs:s.size≤1000)(lsn:Int):
  SP 197 [ptrA mp,.string s,.int .i64 lsn] [.ob (MuxO mp wp H m),.mem H] (λv post=>∃H',H.le H'∧post=[NtW v (m.accept s lsn).2,.ob (MuxO mp wp H' {m with reqs:=(m.accept s lsn).1}),.mem H']):=by
 intro W F w hS;apply vc197;unfold Vc197;(try simp only[app]at hS)
 have hr64:=hm.reqs.1
 have hno:∀{w:World},m.accept s lsn=(m.reqs,[])→SL W (.ob (MuxO mp wp H m)::.mem H::F) w→∃post,(∃H',H.le H'∧post=[NtW (.slice none 0 0) (m.accept s lsn).2,.ob (MuxO mp wp H' {m with reqs:=(m.accept s lsn).1}),.mem H'])∧SL W (app post F) w:=λe hS=>by
  rw[e]
  have hS:SL W (NtW (.slice none 0 0) []::.ob (MuxO mp wp H m)::.mem H::F) _:=OwnSl.nil hS
  exact⟨_,⟨H,Heap.le_refl H,rfl⟩,hS⟩
 (refine Cc (qD s (by omega)) ?_;clear hS)
 rintro _ post ⟨rfl,rfl⟩ w hS
 (try simp only[app]at hS)
 unfold sigV
 cases hp:parseS s with
 | none=>
  simp only[Option.getD_none,Option.isSome_none]
  refine Gm λb w hS=>?_
  refine zy ?_
  exact hno (by unfold PMux.accept;rw[hp]) (SL.into hS Xi)
 | some g=>
  obtain⟨t,wt⟩:=g
  simp only[Option.getD_some,Option.isSome_some]
  refine Gm λb w hS=>?_
  refine zt ?_
  obtain⟨rv,hr,hS⟩:=MuxO.iff.1 (SL.into hS (t:=.ob (MuxO mp wp H m)::.pt b [.int .i64 t,.int .i64 wt] 351::.mem H::F) Xi)
  refine Gp ?_
  refine zc (λh=>?_) (λh1=>?_)
  ·exact hno (by unfold PMux.accept;rw[hp];simp only;rw[if_pos h]) (SL.into (MuxO.put m rv hr hS Xp) Xi)
  refine Gn λw hS=>?_
  have hac:m.accept s lsn=match acceptR m.reqs t wt lsn with
   | none=>(m.reqs,[])
   | some L=>(L,[⟨1,L.length,t,wt,lsn,0,false⟩]):=by
   unfold PMux.accept;rw[hp];simp only;rw[if_neg h1];rfl
  (refine Cc (Yx H rv m.reqs t wt lsn hr (by omega)) ?_;clear hS)
  rintro u post ⟨H1,h01,rfl,hq⟩ w hS
  (try simp only[app]at hS)
  cases ha:acceptR m.reqs t wt lsn with
  | none=>
   rw[ha]at hq hac
   subst hq
   refine Gp ?_
   refine zy ?_
   have hS:=MuxO.put m rv (hr.mono h01) hS Xp
   rw[hac]
   have hS:SL W (NtW (.slice none 0 0) []::.ob (MuxO mp wp H1 m)::_) _:=OwnSl.nil hS
   exact⟨_,⟨H1,h01,rfl⟩,SL.into hS Xi⟩
  | some L=>
   rw[ha]at hq hac
   obtain⟨x,rfl,hx⟩:=hq
   have ox:x.oneCell'=true:=hx.one
   refine Gp ?_
   refine zt ?_
   refine Gn λw hS=>?_
   refine zn hx ?_
   refine Gm λnb w hS=>?_
   rw[hac]
   have hS:=MuxO.put (mp:=mp) (wp:=wp) {m with reqs:=L} x hx hS Xp
   have hS:SL W (NtW (.slice (some ⟨nb,0,none⟩) 1 1) [⟨1,L.length,t,wt,lsn,0,false⟩]::.ob (MuxO mp wp H1 {m with reqs:=L})::.mem H1::F) w:=OwnSl.full (sz:=7) rfl (SL.into hS (t:=.pt nb [.int .i64 1,.int .i64 L.length,.int .i64 t,.int .i64 wt,.int .i64 lsn,.int .i64 0,.bool false] 295::.ob (MuxO mp wp H1 {m with reqs:=L})::.mem H1::F) Xi)
   exact⟨_,⟨H1,h01,rfl⟩,SL.into hS Xi⟩
theorem accepts_snoc(lsn:Int):∀(l:List ByteArray) (m:PMux) (s:ByteArray),m.accepts lsn (l++[s])=({(m.accepts lsn l).1 with reqs:=((m.accepts lsn l).1.accept s lsn).1},(m.accepts lsn l).2++((m.accepts lsn l).1.accept s lsn).2)
 | [],m,s=>by simp[PMux.accepts]
 | x::l,m,s=>by
  show (let r:=m.accept x lsn;let y:=PMux.accepts {m with reqs:=r.1} lsn (l++[s]);(y.1,r.2++y.2))=_
  simp only
  rw[accepts_snoc lsn l]
  simp[PMux.accepts,List.append_assoc]
theorem accept_may{m:PMux}(h:MayP m.reqs)(s:ByteArray)(lsn:Int):MayP (m.accept s lsn).1∧(m.accept s lsn).2.length≤1:=by
 unfold PMux.accept
 split
 ·exact⟨h,by simp⟩
 ·split
  ·exact⟨h,by simp⟩
  ·split
   ·exact⟨h,by simp⟩
   ·rename_i L hL
    exact⟨acceptR_may hL,by simp⟩
theorem accepts_ok(lsn:Int):∀(l:List ByteArray) {m:PMux},m.Ok→(m.accepts lsn l).1.Ok∧(m.accepts lsn l).2.length≤l.length∧(m.accepts lsn l).1.win=m.win∧(m.accepts lsn l).1.tables=m.tables∧(m.accepts lsn l).1.late=m.late∧(m.accepts lsn l).1.at_=m.at_
 | [],m,h=>⟨h,by simp[PMux.accepts],rfl,rfl,rfl,rfl⟩
 | x::l,m,h=>by
  have h1:=accept_may h.reqs x lsn
  have h2:=accepts_ok lsn l (m:={m with reqs:=(m.accept x lsn).1}) ⟨h1.1,h.t1,h.rows,h.at0⟩
  unfold PMux.accepts
  simp only
  refine⟨h2.1,?_,h2.2.2⟩
  rw[List.length_append,List.length_cons]
  have:=h2.2.1
  omega
theorem own_app{α:Type}{enc:α→List Value}{v:Value}{t:TypeId}{sz:Nat}{A B:List α}:OwnSl v t sz (A.length+B.length) ((A.map enc).flatten++(B.map enc).flatten)=OwnSl v t sz (A++B).length ((A++B).map enc).flatten:=by
 rw[List.length_append,List.map_append,List.flatten_append]
def ItQ(mp wp:Nat)(H:Heap)(y:PMux × PItem)(u:Value)(post:List Chunk):Prop:=∃(x:ItV) (H':Heap),H.le H'∧u=agg (encIt x)∧ItIs H' x y.2∧post=[.ob (MuxO mp wp H' y.1),.mem H']
theorem Yv(mp wp:Nat)(H:Heap)(m:PMux)(hm:m.Ok)(x:TxV)(t:TxnD)(hx:TxIs H x t)(hs:t.signals.length≤2)(hs40:∀s∈t.signals,s.size≤40)(hc:t.changes.length≤16):
  SP 119 [ptrA mp,agg (encTx x)] [.ob (MuxO mp wp H m),.mem H] (ItQ mp wp H (m.client t)):=by
 intro W F w hS;apply vc119;unfold Vc119;(try simp only[app]at hS)
 refine zJ hS λxb w hS=>?_
 unfold encTx at hS
 rw[hx.lsn]at hS
 have hcv:=hx.cv
 have hsv:=hx.sv
 refine Gm λzb w hS=>?_
 refine Gm λyb w hS=>?_
 refine zn hsv ?_
 have hS:SL W (NtW (.slice none 0 0) []::_) w:=OwnSl.nil hS
 have hS:=SL.into hS (t:=NtW (.slice none 0 0) []::.ob (MuxO mp wp H m)::.pt yb [.int .i64 t.lsn,.slice none 0 0,.slice none 0 0] 100::.pt zb [.int .i64 0,.slice none 0 0,.slice none 0 0] 100::.pt xb [.int .i64 t.lsn,.int .i64 x.kind,x.cv,x.sv,.int .i64 x.mark] 39::.mem H::F) Xi
 refine⟨λus w=>∃(i:Nat) (nv:Value) (H1:Heap),us=[.int .i64 i]∧i≤t.signals.length∧H.le H1∧SL W (NtW nv (m.accepts t.lsn (t.signals.take i)).2::.ob (MuxO mp wp H1 (m.accepts t.lsn (t.signals.take i)).1)::.pt yb [.int .i64 t.lsn,.slice none 0 0,nv] 100::.pt zb [.int .i64 0,.slice none 0 0,.slice none 0 0] 100::.pt xb [.int .i64 t.lsn,.int .i64 x.kind,x.cv,x.sv,.int .i64 x.mark] 39::.mem H1::F) w,
  λus _=>match us with|[.int _ i]=>(t.signals.length-i).toNat|_=>0,⟨0,.slice none 0 0,H,rfl,by omega,Heap.le_refl H,hS⟩,?_⟩
 clear hS
 rintro v16 w ⟨i,nv,H1,hus,hi,h01,hS⟩
 cases hus
 refine Gp ?_
 refine zc (λh=>?_) (λh=>?_)
 ·have hil:i<t.signals.length:=by omega
  have hacc:=accepts_ok t.lsn (t.signals.take i) hm
  have hst:t.signals.take (i+1)=t.signals.take i++[t.signals[i]]:=List.take_succ_eq_append_getElem hil
  have hsn:=accepts_snoc t.lsn (t.signals.take i) m t.signals[i]
  rw[← hst]at hsn
  have h40:=hs40 _ (List.getElem_mem hil)
  have hlt:(t.signals.take i).length≤2:=by rw[List.length_take];omega
  refine yP hS Xh (hsv.mono h01) hil (u:=.string t.signals[i]) (by simp[hil]) ?_
  refine Gn λw hS=>?_
  (refine Cc (Yt mp wp H1 (m.accepts t.lsn (t.signals.take i)).1 hacc.1 t.signals[i] (by omega) t.lsn) ?_;clear hS)
  rintro v post ⟨H2,h12,rfl⟩ w hS
  (try simp only[app]at hS)
  have hl1:=(accept_may hacc.1.reqs t.signals[i] t.lsn).2
  have hl2:=hacc.2.1
  refine Gp ?_
  refine zz (n:=(m.accepts t.lsn (t.signals.take i)).2.length) (m:=((m.accepts t.lsn (t.signals.take i)).1.accept t.signals[i] t.lsn).2.length) (cells:=((m.accepts t.lsn (t.signals.take i)).2.map encNote).flatten) (cs:=(((m.accepts t.lsn (t.signals.take i)).1.accept t.signals[i] t.lsn).2.map encNote).flatten) hS Xr (src_own hS Xh) (flat_len encNote_len _) rfl (recs_one encNote_one _) (by omega) (by omega) λv2 w hS=>?_
  have o1:v2.oneCell'=true:=OwnSl.one hS
  rw[own_app,show (m.accepts t.lsn (t.signals.take i)).2++((m.accepts t.lsn (t.signals.take i)).1.accept t.signals[i] t.lsn).2=(m.accepts t.lsn (t.signals.take (i+1))).2 by rw[hsn]]at hS
  refine Gn λw hS=>?_
  rw[show (⟨(m.accepts t.lsn (t.signals.take i)).1.tables,(m.accepts t.lsn (t.signals.take i)).1.late,(m.accepts t.lsn (t.signals.take i)).1.at_,((m.accepts t.lsn (t.signals.take i)).1.accept t.signals[i] t.lsn).1,(m.accepts t.lsn (t.signals.take i)).1.win⟩:PMux)=(m.accepts t.lsn (t.signals.take (i+1))).1 by rw[hsn]]at hS
  exact⟨⟨i+1,v2,H2,rfl,by omega,Heap.le_trans h01 h12,SL.into hS Xi⟩,by dsimp only;omega⟩
 have hit:t.signals.take i=t.signals:=List.take_of_length_le (by omega)
 rw[hit]at hS
 obtain⟨hmo,hnl,hwin,htb,hlt,hat⟩:=accepts_ok t.lsn t.signals hm
 have hcl:m.client t=({(m.accepts t.lsn t.signals).1 with win:=(m.accepts t.lsn t.signals).1.win.see t.changes},⟨t.lsn,opsC (m.accepts t.lsn t.signals).1 t.lsn t.changes,(m.accepts t.lsn t.signals).2⟩):=rfl
 rw[hcl]
 generalize m.accepts t.lsn t.signals=y at *
 obtain⟨m1,N⟩:=y
 simp only at hS hmo hnl ⊢
 clear hwin htb hlt hat hcl
 refine Gp ?_
 refine zn (hcv.mono h01) ?_
 have hS:SL W (OpW (.slice none 0 0) (opsC m1 t.lsn (t.changes.take 0))::_) w:=OwnSl.nil hS
 refine⟨λus w=>∃(i:Nat) (ov:Value),us=[.int .i64 i]∧i≤t.changes.length∧SL W (OpW ov (opsC m1 t.lsn (t.changes.take i))::NtW nv N::.ob (MuxO mp wp H1 m1)::.pt yb [.int .i64 t.lsn,ov,nv] 100::.pt zb [.int .i64 0,.slice none 0 0,.slice none 0 0] 100::.pt xb [.int .i64 t.lsn,.int .i64 x.kind,x.cv,x.sv,.int .i64 x.mark] 39::.mem H1::F) w,
  λus _=>match us with|[.int _ i]=>(t.changes.length-i).toNat|_=>0,⟨0,.slice none 0 0,rfl,by omega,SL.into hS Xi⟩,?_⟩
 clear hS
 rintro v33 w ⟨i,ov,hus,hi,hS⟩
 cases hus
 refine Gp ?_
 refine zc (λh=>?_) (λh=>?_)
 ·have hil:i<t.changes.length:=by omega
  have hxc:t.changes[i]?=some t.changes[i]:=List.getElem?_eq_getElem hil
  have hst:t.changes.take (i+1)=t.changes.take i++[t.changes[i]]:=List.take_succ_eq_append_getElem hil
  have hop:opsC m1 t.lsn (t.changes.take (i+1))=opsC m1 t.lsn (t.changes.take i)++(if m1.captured t.changes[i].table=true then [⟨t.lsn,t.changes[i].table,t.changes[i].key,t.changes[i].gone,t.changes[i].val⟩] else []):=by
   unfold opsC
   rw[hst,List.filter_append,List.map_append]
   congr 1
   rw[List.filter_cons]
   split<;>simp
  have hol:(opsC m1 t.lsn (t.changes.take i)).length≤16:=by
   unfold opsC
   rw[List.length_map]
   have:=List.length_filter_le (λc:Chg=>m1.captured c.table) (t.changes.take i)
   rw[List.length_take]at this
   omega
  refine zU hS Xh encChg_len (hcv.mono h01) hxc hil ?_
  generalize t.changes[i]=c at *
  refine Gb λcb w hS=>?_
  refine Cg (Z2 mp wp H1 m1 (by have:=hmo.reqs.1;omega) c.table) λw hS=>?_
  refine yZ (λhq=>?_) (λhq=>?_)
  ·rw[if_pos hq]at hop
   refine Gm λob w hS=>?_
   refine yr (n:=(opsC m1 t.lsn (t.changes.take i)).length) (xs:=opsC m1 t.lsn (t.changes.take i)) (y:=⟨t.lsn,c.table,c.key,c.gone,c.val⟩) (enc:=encOp) hS Xr Xh encOp_len' (λx=>encOp_one x) rfl (by omega) (by omega) λv2 w hS=>?_
   have hS:=hS.snocL (x:=(⟨t.lsn,c.table,c.key,c.gone,c.val⟩:AOp))
   rw[← hop]at hS
   have o1:v2.oneCell'=true:=OwnSl.one hS
   refine Gn λw hS=>?_
   exact⟨⟨i+1,v2,rfl,by omega,SL.into hS Xi⟩,by dsimp only;omega⟩
  ·rw[if_neg (by simp[hq]),List.append_nil]at hop
   rw[← hop]at hS
   refine Gp ?_
   exact⟨⟨i+1,ov,rfl,by omega,SL.into hS Xi⟩,by dsimp only;omega⟩
 have hict:t.changes.take i=t.changes:=List.take_of_length_le (by omega)
 rw[hict]at hS
 obtain⟨rv,hr,hS⟩:=MuxO.iff.1 (SL.into hS (t:=.ob (MuxO mp wp H1 m1)::OpW ov (opsC m1 t.lsn t.changes)::NtW nv N::.pt yb [.int .i64 t.lsn,ov,nv] 100::.pt zb [.int .i64 0,.slice none 0 0,.slice none 0 0] 100::.pt xb [.int .i64 t.lsn,.int .i64 x.kind,x.cv,x.sv,.int .i64 x.mark] 39::.mem H1::F) Xi)
 refine Gn λw hS=>?_
 (refine Cc (Q7 wp m1.win H1 x.cv t.changes (hcv.mono h01) (by have:=hmo.rows;omega) (by omega)) ?_;clear hS)
 rintro _ post ⟨⟨q,rfl⟩,rfl⟩ w hS
 (try simp only[app]at hS)
 have hS:=MuxO.put (mp:=mp) {m1 with win:=m1.win.see t.changes} rv hr hS Xp
 obtain⟨H2,h12,hRn,hS⟩:=zG (H:=H1) (v:=nv) hS Xp
 obtain⟨H3,h23,hRo,hS⟩:=zG (H:=H2) (v:=ov) hS Xp
 have on:nv.oneCell'=true:=hRn.one
 have oo:ov.oneCell'=true:=hRo.one
 refine Gp ?_
 refine zL (vs:=[.int .i64 t.lsn,ov,nv]) hS Xu rfl rfl (one3 oo on) λw hS=>?_
 refine Gp ?_
 have h13:=Heap.le_trans h12 h23
 have hS:=MuxO.monoP (m:={m1 with win:=m1.win.see t.changes}) h13 hS Xr
 exact⟨_,⟨⟨t.lsn,ov,nv⟩,H3,Heap.le_trans h01 h13,rfl,⟨rfl,hRo,hRn.mono h23⟩,rfl⟩,SL.into hS Xi⟩
theorem HighQ.all{wp:Nat}{k:PWin}{H:Heap}{mark lsn:Int}{u:Value}{post:List Chunk}(h:HighQ wp k H mark lsn u post):∃(x:ItV) (H':Heap) (q:Bool) (k':PWin),H.le H'∧u= .tuple #[agg (encIt x),.bool q]∧post=[.ob (WinO wp k'),.mem H']∧(∀v∈encIt x,v.oneCell'=true) ∧
  ((q=false∧k.high mark lsn=(k',none))∨(q=true∧∃t,k.high mark lsn=(k',some t)∧ItIs H' x t)):=by
 unfold HighQ at h
 have e:k.high mark lsn=(if k.highBad mark lsn then (k,none) else (win0 k.n,some ⟨lsn,opsW k lsn,[noteW k]⟩)):=rfl
 by_cases hb:k.highBad mark lsn
 ·rw[if_pos hb]at e
  rw[e]at h ⊢
  obtain⟨rfl,rfl⟩:=h
  exact⟨it0,H,false,k,Heap.le_refl H,rfl,rfl,by simp[encIt,Value.oneCell'],.inl ⟨rfl,rfl⟩⟩
 ·rw[if_neg hb]at e
  rw[e]at h ⊢
  obtain⟨x,H',hh,rfl,hx,rfl⟩:=h
  exact⟨x,H',true,_,hh,rfl,rfl,encIt_one hx,.inr ⟨rfl,_,rfl,hx⟩⟩
theorem high_notes{k k':PWin}{mark lsn:Int}{t:PItem}(h:k.high mark lsn=(k',some t)):t=⟨lsn,opsW k lsn,[noteW k]⟩:=by
 unfold PWin.high at h
 split at h
 ·cases h
 ·cases h;rfl
theorem qB(mp wp:Nat)(H:Heap)(m:PMux)(hm:m.Ok)(x:TxV)(t:TxnD)(hx:TxIs H x t)(hid : -9223372036854775808≤m.win.id∧m.win.id≤9223372036854775807):
  SP 120 [ptrA mp,agg (encTx x)] [.ob (MuxO mp wp H m),.mem H] (ItQ mp wp H (m.high t)):=by
 intro W F w hS;apply vc120;unfold Vc120;(try simp only[app]at hS)
 have hn:=hm.rows
 have hr64:=hm.reqs.1
 refine zJ hS λxb w hS=>?_
 unfold encTx at hS
 rw[hx.lsn,hx.mark]at hS
 obtain⟨rv,hr,hS⟩:=MuxO.iff.1 (SL.into hS (t:=.ob (MuxO mp wp H m)::.pt xb [.int .i64 t.lsn,.int .i64 x.kind,x.cv,x.sv,.int .i64 t.mark] 39::.mem H::F) Xi)
 refine Gm λzb w hS=>?_
 refine⟨λus w=>∃(yb:Nat) (y:ItV) (H1:Heap) (q:Bool) (k':PWin),us=[ptrA yb,.bool q]∧H.le H1∧(∀v∈encIt y,v.oneCell'=true)∧((q=false∧m.win.high t.mark t.lsn=(k',none))∨(q=true∧∃z,m.win.high t.mark t.lsn=(k',some z)∧ItIs H1 y z)) ∧
   SL W (.pt yb (encIt y) 100::.pt zb [.int .i64 0,.slice none 0 0,.slice none 0 0] 100::.pt xb [.int .i64 t.lsn,.int .i64 x.kind,x.cv,x.sv,.int .i64 t.mark] 39::.pt mp (mxcells m wp rv) 111::.ob (WinO wp k')::.mem H1::F) w,?_,?_⟩
 ·refine Gn λw hS=>?_
  refine⟨?_,?_⟩
  ·(refine Cc (Z1 wp m.win H t.mark t.lsn (by omega)) ?_;clear hS)
   rintro _ post hq w hS
   obtain⟨y,H1,q,k',h01,rfl,rfl,hy1,hc⟩:=hq.all
   (try simp only[app]at hS)
   refine Gm λyb w hS=>?_
   refine zL hS Xu rfl rfl hy1 λw hS=>?_
   exact⟨yb,y,H1,q,k',rfl,h01,hy1,hc,SL.into hS Xi⟩
  ·refine Gb λyb w hS=>?_
   (refine Cc (Z1 wp m.win H t.mark t.lsn (by omega)) ?_;clear hS)
   rintro _ post hq w hS
   obtain⟨y,H1,q,k',h01,rfl,rfl,hy1,hc⟩:=hq.all
   (try simp only[app]at hS);refine Gp ?_
   refine zL hS Xu rfl rfl hy1 λw hS=>?_
   exact⟨yb,y,H1,q,k',rfl,h01,hy1,hc,SL.into hS Xi⟩
 clear hS
 rintro v5 v6 w ⟨yb,y,H1,q,k',hus,h01,hy1,hc,hS⟩
 cases hus
 rcases hc with ⟨rfl,hh⟩|⟨rfl,z,hh,hz⟩
 ·refine zP (zy ?_)
  refine Gn λw hS=>?_
  have e:m.high t=(m,⟨t.lsn,[],[]⟩):=by unfold PMux.high;rw[hh]
  have hk:k'=m.win:=by
   unfold PWin.high at hh
   split at hh
   ·cases hh;rfl
   ·cases hh
  subst hk
  rw[e]
  have hS:=MuxO.put m rv (hr.mono h01) hS Xp
  exact⟨_,⟨⟨t.lsn,.slice none 0 0,.slice none 0 0⟩,H1,h01,rfl,⟨rfl,RdSl.nil _ _,RdSl.nil _ _⟩,rfl⟩,SL.into hS Xi⟩
 ·refine zP (zt ?_)
  have hzn:=high_notes hh
  subst hzn
  have hyl:=hz.lsn
  have hnv:=hz.nts
  have hov:=hz.ops
  have hS:SL W (.pt yb [.int .i64 y.lsn,y.ov,y.nv] 100::_) w:=hS
  refine Gp ?_
  refine zU (j:=0) hS Xh encNote_len hnv (x:=noteW m.win) rfl (by simp) ?_
  refine Gb λnb w hS=>?_
  (refine Cc (YZ H1 rv m.reqs m.win.id m.win.cursor m.win.last (hr.mono h01) (by omega) hid) ?_;clear hS)
  rintro u post ⟨H2,h12,rfl,hq⟩ w hS
  (try simp only[app]at hS)
  have h02:=Heap.le_trans h01 h12
  cases hch:chunkR m.reqs m.win.id m.win.cursor m.win.last with
  | none=>
   rw[hch]at hq
   subst hq
   have e:m.high t=({m with win:=k'},⟨t.lsn,opsW m.win t.lsn,[]⟩):=by unfold PMux.high;rw[hh];simp only;rw[hch]
   rw[e]
   refine Gp ?_
   refine zy ?_
   refine Gn λw hS=>?_
   have oo:y.ov.oneCell'=true:=hov.one
   refine zL (vs:=[.int .i64 y.lsn,y.ov,.slice none 0 0]) hS Xu rfl rfl (one3 oo rfl) λw hS=>?_
   refine Gp ?_
   have hS:=MuxO.put (mp:=mp) {m with win:=k'} rv (hr.mono h02) hS Xp
   exact⟨_,⟨⟨y.lsn,y.ov,.slice none 0 0⟩,H2,h02,rfl,⟨hyl,hov.mono h12,RdSl.nil _ _⟩,rfl⟩,SL.into hS Xi⟩
  | some L=>
   rw[hch]at hq
   obtain⟨rx,rfl,hrx⟩:=hq
   have e:m.high t=({m with win:=k',reqs:=L},⟨t.lsn,opsW m.win t.lsn,[noteW m.win]⟩):=by unfold PMux.high;rw[hh];simp only;rw[hch]
   rw[e]
   have ox:rx.oneCell'=true:=hrx.one
   refine Gp ?_
   refine zt ?_
   refine Gn λw hS=>?_
   refine zL (vs:=[.int .i64 y.lsn,y.ov,y.nv]) hS Xu rfl rfl hy1 λw hS=>?_
   refine Gp ?_
   have hS:=MuxO.put (mp:=mp) {m with win:=k',reqs:=L} rx hrx hS Xp
   exact⟨_,⟨y,H2,h02,rfl,hz.mono h12,rfl⟩,SL.into hS Xi⟩
def TakeMQ(mp wp:Nat)(H:Heap)(y:PMux × (PItem × Int))(u:Value)(post:List Chunk):Prop:=∃(x:ItV) (H':Heap),H.le H'∧u= .tuple #[agg (encIt x),.int .i64 y.2.2]∧ItIs H' x y.2.1∧post=[.ob (MuxO mp wp H' y.1),.mem H']
theorem ZM(mp wp:Nat)(H:Heap)(m:PMux)(hm:m.Ok)(x:TxV)(t:TxnD)(hx:TxIs H x t)(hid : -9223372036854775808≤m.win.id∧m.win.id≤9223372036854775807):
  SP 45 [ptrA mp,agg (encTx x)] [.ob (MuxO mp wp H m),.mem H] (TakeMQ mp wp H (m.take t)):=by
 intro W F w hS;apply vc45;unfold Vc45;(try simp only[app]at hS)
 have hat:=hm.at0
 refine zJ hS λxb w hS=>?_
 refine Gm λzb w hS=>?_
 refine Cg (yp H x t hx) λw hS=>?_
 unfold PMux.take
 refine zA (λh=>?_) (λh=>?_)
 ·rw[if_pos h]
  refine Gn λw hS=>?_
  exact⟨_,⟨it0,H,Heap.le_refl H,rfl,⟨rfl,RdSl.nil _ _,RdSl.nil _ _⟩,rfl⟩,SL.into hS Xi⟩
 rw[if_neg (by simp[h])]
 obtain⟨m1,m2,m3,m4,m5,m6,m7⟩:=mayTx_all h
 have hl:=hx.lsn
 have hk:=hx.kind
 have hmk:=hx.mark
 obtain⟨rv,hr,hS⟩:=MuxO.iff.1 (SL.into hS (t:=.ob (MuxO mp wp H m)::.pt zb [.int .i64 0,.slice none 0 0,.slice none 0 0] 100::.pt xb (encTx x) 39::.mem H::F) Xi)
 refine Gn λw hS=>?_
 rw[hl]
 have hord:∀{w:World},(t.lsn≠m.at_+1∨m.win.waits t.kind t.mark=true)→SL W (.pt mp (mxcells m wp rv) 111::.ob (WinO wp m.win)::.mem H::F) w→∃post,TakeMQ mp wp H (if t.lsn≠m.at_+1∨m.win.waits t.kind t.mark=true then (m,(⟨0,[],[]⟩,10))
   else if t.kind=1 then let r:=({m with at_:=t.lsn}:PMux).client t;(r.1,(r.2,0))
   else if t.kind=3 then let r:=({m with at_:=t.lsn}:PMux).high t;(r.1,(r.2,0))
   else ({m with at_:=t.lsn,win:=m.win.low t.mark},(⟨t.lsn,[],[]⟩,0))) (.tuple #[agg (encIt it0),.int .i64 10]) post∧SL W (app post F) w:=λh hS=>by
  rw[if_pos h]
  have hS:=MuxO.put m rv hr hS Xp
  exact⟨_,⟨it0,H,Heap.le_refl H,rfl,⟨rfl,RdSl.nil _ _,RdSl.nil _ _⟩,rfl⟩,SL.into hS Xi⟩
 refine zc (λh1=>?_) (λh1=>?_)
 ·refine Gn λw hS=>?_
  exact hord (.inl h1) (SL.into hS Xi)
 refine Gp ?_
 refine Yk (vs:=[ptrA wp]) hS Xh rfl (λj v e=>by
  match j,e with
  | 0,e=>exact e) ?_
 refine Gp ?_
 refine Cg (YX wp m.win x) λw hS=>?_
 rw[hk,hmk]
 refine yZ (λh2=>?_) (λh2=>?_)
 ·refine Gn λw hS=>?_
  exact hord (.inr h2) (SL.into hS Xi)
 clear hord
 rw[if_neg (show ¬(t.lsn≠m.at_+1∨m.win.waits t.kind t.mark=true) by rw[h2];simp;omega)]
 refine Gn λw hS=>?_
 rw[hl]at hS
 have hS:SL W (.pt mp (mxcells {m with at_:=t.lsn} wp rv) 111::.ob (WinO wp m.win)::.pt zb [.int .i64 0,.slice none 0 0,.slice none 0 0] 100::.pt xb (encTx x) 39::.mem H::F) w:=SL.into hS Xi
 have hok:({m with at_:=t.lsn}:PMux).Ok:=⟨hm.reqs,hm.t1,hm.rows,by show 0≤t.lsn∧t.lsn≤1099511627776;omega⟩
 rw[hk]
 refine zc (λh3=>?_) (λh3=>?_)
 ·rw[if_pos h3]
  have hS:=MuxO.put (mp:=mp) {m with at_:=t.lsn} rv hr hS Xp
  refine Gp ?_
  (refine Cc (Yv mp wp H {m with at_:=t.lsn} hok x t hx m5 m7 m4) ?_;clear hS)
  rintro _ post ⟨y,H1,h01,rfl,hy,rfl⟩ w hS
  (try simp only[app]at hS)
  refine zL hS Xu rfl rfl (encIt_one hy) λw hS=>?_
  refine Gp ?_
  exact⟨_,⟨y,H1,h01,rfl,hy,rfl⟩,SL.into hS Xi⟩
 rw[if_neg h3]
 refine Gp ?_
 refine zc (λh4=>?_) (λh4=>?_)
 ·rw[if_pos h4]
  have hS:=MuxO.put (mp:=mp) {m with at_:=t.lsn} rv hr hS Xp
  refine Gp ?_
  (refine Cc (qB mp wp H {m with at_:=t.lsn} hok x t hx hid) ?_;clear hS)
  rintro _ post ⟨y,H1,h01,rfl,hy,rfl⟩ w hS
  (try simp only[app]at hS)
  refine zL hS Xu rfl rfl (encIt_one hy) λw hS=>?_
  refine Gp ?_
  exact⟨_,⟨y,H1,h01,rfl,hy,rfl⟩,SL.into hS Xi⟩
 ·rw[if_neg h4]
  refine Gn λw hS=>?_
  rw[hmk]
  (refine Cc (Q5 wp m.win t.mark) ?_;clear hS)
  rintro _ post ⟨⟨q,rfl⟩,rfl⟩ w hS
  refine Gn λw hS=>?_
  rw[hl]
  have hS:=MuxO.put (mp:=mp) (wp:=wp) {m with at_:=t.lsn,win:=m.win.low t.mark} rv hr hS Xp
  exact⟨_,⟨⟨t.lsn,.slice none 0 0,.slice none 0 0⟩,H,Heap.le_refl H,rfl,⟨rfl,RdSl.nil _ _,RdSl.nil _ _⟩,rfl⟩,SL.into hS Xi⟩
def encMb(m:Int × Int):List Value:=[.int .i64 m.2,.int .i64 m.1]
theorem encMb_len(m:Int × Int):(encMb m).length=2:=rfl
theorem encMb_one(m:Int × Int):∀v∈encMb m,v.oneCell'=true:=by simp[encMb,Value.oneCell']
structure RepD(d:PDrr)(a:Nat)(turn:Bool)(lf:Int):Prop where
 t:turn=true→d.at_=a∧d.left=lf∧a<d.l.length
 f:turn=false→d.at_=(a:Int)-1∧d.left=0∧a≤d.l.length
structure DrrX where
 v:Value
 a:Nat
 turn:Bool
 lf:Int
abbrev mcells(x:DrrX):List Value:=[x.v,.int .i64 x.a,.bool x.turn,.int .i64 x.lf]
abbrev MbO(v:Value)(l:List (Int × Int)):Chunk:=.ob (OwnSl v 363 2 l.length (l.map encMb).flatten)
def DrrO(p:Nat)(d:PDrr):zC:=HEx λx:DrrX=>zQ (RepD d x.a x.turn x.lf) [.pt p (mcells x) 289,MbO x.v d.l]
theorem DrrO.iff{W w:World}{l:List Chunk}{p:Nat}{d:PDrr}:SL W (.ob (DrrO p d)::l) w↔∃x:DrrX,RepD d x.a x.turn x.lf∧SL W (.pt p (mcells x) 289::MbO x.v d.l::l) w:=by
 unfold DrrO
 simp only[SL.ex,SL.fact,List.cons_append,List.nil_append]
theorem DrrO.putX{W w:World}{l F:List Chunk}{p:Nat}{d:PDrr}(v:Value)(a:Nat)(turn:Bool)(lf:Int)(h:RepD d a turn lf)(hS:SL W l w)(k:Pick [.pt p [v,.int .i64 a,.bool turn,.int .i64 lf] 289,MbO v d.l] l F):SL W (.ob (DrrO p d)::F) w:=DrrO.iff.2 ⟨⟨v,a,turn,lf⟩,h,hS.pick k⟩
theorem QD:SP 116 [] [] (λv post=>∃p:Nat,v= .pointer (some ⟨p,0,none⟩)∧post=[.ob (DrrO p drr0)]):=by
 intro W F w hS;apply vc116;unfold Vc116;(try simp only[app]at hS)
 refine yq rfl ?_
 refine⟨_,rfl,zN hS λp w hS=>?_⟩
 have hS:SL W (MbO (.slice none 0 0) []::.pt p (mcells ⟨.slice none 0 0,0,false,0⟩) 289::F) w:=OwnSl.nil hS
 exact⟨_,⟨p,rfl,rfl⟩,SL.into (DrrO.putX (d:=drr0) (.slice none 0 0) 0 false 0 ⟨(λh=>by cases h),λ_=>⟨rfl,rfl,Nat.le_refl _⟩⟩ hS Xp) Xi⟩
theorem Ys(b:Nat)(id:Int)(m:Int × Int):SP 357 [agg (encMb m),.pointer (some ⟨b,0,none⟩)] [.pt b [.int .i64 id] 3] (Gives (.bool (decide (m.1=id))) [.pt b [.int .i64 id] 3]):=by
 intro W F w hS;apply vc357;unfold Vc357;(try simp only[app]at hS)
 refine zJ hS λxb w hS=>?_
 unfold encMb at hS
 refine Gp ?_
 (exact⟨_,⟨rfl,rfl⟩,SL.into hS Xi⟩)
theorem Zv(p:Nat)(x:DrrX)(l:List (Int × Int))(id:Int)(hn:l.length≤1000):
  SP 312 [.pointer (some ⟨p,0,none⟩),.int .i64 id] [.pt p (mcells x) 289,MbO x.v l] (Gives (.int .i64 (idxI (l.findIdx? λm=>decide (m.1=id)))) [.pt p (mcells x) 289,MbO x.v l]):=by
 intro W F w hS;apply vc312;unfold Vc312;(try simp only[app]at hS)
 refine⟨rfl,zN hS λb w hS=>?_⟩
 unfold mcells at hS
 refine Gp ?_
 have hC:=idxf_gen (t:=363) encMb_len rfl (λv0 v1 w R h=>vc356 v0 v1 w R h) (λm=>Ys b id m) x.v l (by omega)
 simp only[List.cons_append,List.nil_append]at hC
 refine Cg (hC) λw hS=>?_
 (exact⟨_,⟨rfl,rfl⟩,SL.into hS Xi⟩)
theorem QA(p:Nat)(d:PDrr)(id weight:Int)(hn:d.l.length≤1000):SP 265 [.pointer (some ⟨p,0,none⟩),.int .i64 id,.int .i64 weight] [.ob (DrrO p d)] (λv post=>(∃e:Int,v= .int .i64 e)∧post=[.ob (DrrO p (d.add id weight))]):=by
 intro W F w hS;apply vc265;unfold Vc265;(try simp only[app]at hS)
 have hbad:∀{e:Int} {w:World},(id<1∨64<id∨weight<1∨8<weight)→SL W (.ob (DrrO p d)::F) w→∃post,((∃e':Int,Value.int .i64 e= .int .i64 e')∧post=[.ob (DrrO p (d.add id weight))])∧SL W (app post F) w:=λh hS=>by
  rw[show d.add id weight=d by unfold PDrr.add;rw[if_pos h]]
  exact⟨_,⟨⟨_,rfl⟩,rfl⟩,hS⟩
 refine Gp ?_
 refine zc (λh=>hbad (by omega) hS) (λh1=>?_)
 refine Gp ?_
 refine zc (λh=>hbad (by omega) hS) (λh2=>?_)
 refine Gp ?_
 refine zc (λh=>hbad (by omega) hS) (λh3=>?_)
 refine Gp ?_
 refine zc (λh=>hbad (by omega) hS) (λh4=>?_)
 clear hbad
 obtain⟨x,hr,hS⟩:=DrrO.iff.1 hS
 refine Cg (Zv p x d.l id hn) λw hS=>?_
 have ha:d.add id weight=match idxD d id with|some _=>d|none=>{d with l:=d.l++[(id,weight)]}:=by
  unfold PDrr.add;rw[if_neg (by omega)];rfl
 rw[ha]
 unfold idxD
 cases hf:d.l.findIdx? (λm=>decide (m.1=id)) with
 | some i=>
  refine zc (λ_=>?_) (λh=>by simp only[idxI]at h;omega)
  exact⟨_,⟨⟨_,rfl⟩,rfl⟩,DrrO.iff.2 ⟨x,hr,SL.into hS Xi⟩⟩
 | none=>
  refine zc (λh=>by simp only[idxI]at h;omega) (λ_=>?_)
  unfold mcells at hS
  refine Gm λb w hS=>?_
  refine yr (n:=d.l.length) (xs:=d.l) (y:=(id,weight)) (enc:=encMb) hS Xr Xh encMb_len encMb_one rfl (by omega) (by omega) λv2 w hS=>?_
  have hS:=hS.snocL (x:=(id,weight))
  have o1:v2.oneCell'=true:=OwnSl.one hS
  refine Gn λw hS=>?_
  refine⟨_,⟨⟨_,rfl⟩,rfl⟩,SL.into (DrrO.putX (d:={d with l:=d.l++[(id,weight)]}) v2 x.a x.turn x.lf ⟨λh=>?_,λh=>?_⟩ hS Xp) Xi⟩
  ·have:=hr.t h
   exact⟨this.1,this.2.1,by show x.a<(d.l++[_]).length;rw[List.length_append];omega⟩
  ·have:=hr.f h
   exact⟨this.1,this.2.1,by show x.a≤(d.l++[_]).length;rw[List.length_append];omega⟩
theorem QB(p:Nat)(d:PDrr)(id:Int)(hn:d.l.length≤1000):SP 264 [.pointer (some ⟨p,0,none⟩),.int .i64 id] [.ob (DrrO p d)] (λv post=>(∃e:Int,v= .int .i64 e)∧post=[.ob (DrrO p (d.del id))]):=by
 intro W F w hS;apply vc264;unfold Vc264;(try simp only[app]at hS)
 obtain⟨x,hr,hS⟩:=DrrO.iff.1 hS
 refine Cg (Zv p x d.l id hn) λw hS=>?_
 unfold PDrr.del idxD
 cases hf:d.l.findIdx? (λm=>decide (m.1=id)) with
 | none=>
  refine zc (λ_=>?_) (λh=>by simp only[idxI]at h;omega)
  exact⟨_,⟨⟨_,rfl⟩,rfl⟩,DrrO.iff.2 ⟨x,hr,SL.into hS Xi⟩⟩
 | some i=>
  have hi:i<d.l.length:=(List.findIdx?_eq_some_iff_getElem.1 hf).1
  have hxa:x.a≤d.l.length:=by
   cases ht:x.turn with
   | true=>have:=hr.t ht;omega
   | false=>exact (hr.f ht).2.2
  simp only[idxI]
  refine zc (λh=>by omega) (λ_=>?_)
  unfold mcells at hS
  refine Gp ?_
  (refine Cc (del_gen (sz:=2) (by_:=16) (z:=[.int .i64 0,.int .i64 0]) (zv:=.agg #[.int .i64 0,.int .i64 0]) (λv0 v1 v2 w R h=>vc313 v0 v1 v2 w R h) Tryz.underlying287 (λw=>by kernel_rfl) rfl rfl (by simp[Value.oneCell']) x.v d.l.length i (d.l.map encMb).flatten hi (recs_one encMb_one _) (by omega) (by omega)) ?_;clear hS)
  rintro v post rfl w hS
  (try simp only[app]at hS)
  have ef:List.take (i*2) (d.l.map encMb).flatten++List.drop ((i+1)*2) (d.l.map encMb).flatten=((d.l.eraseIdx i).map encMb).flatten:=by
   rw[flat_take_n encMb_len,flat_drop_n encMb_len,List.eraseIdx_eq_take_drop_succ];simp
  have el:d.l.length-1=(d.l.eraseIdx i).length:=by rw[List.length_eraseIdx,if_pos hi]
  rw[ef,el]at hS
  have o1:v.oneCell'=true:=OwnSl.one hS
  refine Gn λw hS=>?_
  refine zc (λh1=>?_) (λh1=>?_)
  ·refine Gn λw hS=>?_
   have hx:((x.a:Int)-1)=((x.a-1:Nat):Int):=by omega
   rw[hx]at hS
   refine⟨_,⟨⟨_,rfl⟩,rfl⟩,SL.into (DrrO.putX (d:=⟨d.l.eraseIdx i,if (i:Int)≤d.at_ then d.at_-1 else d.at_,if (i:Int)=d.at_ then 0 else d.left⟩) v (x.a-1) x.turn x.lf ⟨λh=>?_,λh=>?_⟩ hS Xp) Xi⟩
   ·obtain⟨h2,h3,h4⟩:=hr.t h
    refine⟨?_,?_,by show x.a-1<(d.l.eraseIdx i).length;omega⟩
    ·show (if (i:Int)≤d.at_ then d.at_-1 else d.at_)=_
     rw[if_pos (by omega)];omega
    ·show (if (i:Int)=d.at_ then 0 else d.left)=_
     rw[if_neg (by omega)];exact h3
   ·obtain⟨h2,h3,h4⟩:=hr.f h
    refine⟨?_,?_,by show x.a-1≤(d.l.eraseIdx i).length;omega⟩
    ·show (if (i:Int)≤d.at_ then d.at_-1 else d.at_)=_
     rw[if_pos (by omega)];omega
    ·show (if (i:Int)=d.at_ then 0 else d.left)=_
     rw[h3];simp
  ·refine Gp ?_
   refine zc (λh2=>?_) (λh2=>?_)
   ·refine Gn λw hS=>?_
    refine⟨_,⟨⟨_,rfl⟩,rfl⟩,SL.into (DrrO.putX (d:=⟨d.l.eraseIdx i,if (i:Int)≤d.at_ then d.at_-1 else d.at_,if (i:Int)=d.at_ then 0 else d.left⟩) v x.a false x.lf ⟨(λh=>by cases h),λ_=>?_⟩ hS Xp) Xi⟩
    cases ht:x.turn with
    | true=>
     obtain⟨h3,h4,h5⟩:=hr.t ht
     refine⟨?_,?_,by show x.a≤(d.l.eraseIdx i).length;omega⟩
     ·show (if (i:Int)≤d.at_ then d.at_-1 else d.at_)=_
      rw[if_pos (by omega)];omega
     ·show (if (i:Int)=d.at_ then 0 else d.left)=_
      rw[if_pos (by omega)]
    | false=>
     obtain⟨h3,h4,h5⟩:=hr.f ht
     refine⟨?_,?_,by show x.a≤(d.l.eraseIdx i).length;omega⟩
     ·show (if (i:Int)≤d.at_ then d.at_-1 else d.at_)=_
      rw[if_neg (by omega)];omega
     ·show (if (i:Int)=d.at_ then 0 else d.left)=_
      rw[h4];simp
   ·refine⟨_,⟨⟨_,rfl⟩,rfl⟩,SL.into (DrrO.putX (d:=⟨d.l.eraseIdx i,if (i:Int)≤d.at_ then d.at_-1 else d.at_,if (i:Int)=d.at_ then 0 else d.left⟩) v x.a x.turn x.lf ⟨λh=>?_,λh=>?_⟩ hS Xp) Xi⟩
    ·obtain⟨h3,h4,h5⟩:=hr.t h
     refine⟨?_,?_,by show x.a<(d.l.eraseIdx i).length;omega⟩
     ·show (if (i:Int)≤d.at_ then d.at_-1 else d.at_)=_
      rw[if_neg (by omega)];exact h3
     ·show (if (i:Int)=d.at_ then 0 else d.left)=_
      rw[if_neg (by omega)];exact h4
    ·obtain⟨h3,h4,h5⟩:=hr.f h
     refine⟨?_,?_,by show x.a≤(d.l.eraseIdx i).length;omega⟩
     ·show (if (i:Int)≤d.at_ then d.at_-1 else d.at_)=_
      rw[if_neg (by omega)];exact h3
     ·show (if (i:Int)=d.at_ then 0 else d.left)=_
      rw[h4];simp
theorem qu(p:Nat)(d:PDrr)(hd:d.Ok)(hn:d.l.length≤1000):SP 203 [.pointer (some ⟨p,0,none⟩)] [.ob (DrrO p d)] (λv post=>v= .tuple #[.int .i64 d.next.2,.bool (decide (d.l≠[]))]∧post=[.ob (DrrO p d.next.1)]):=by
 intro W F w hS;apply vc203;unfold Vc203;(try simp only[app]at hS)
 have hat:=hd.at1
 have hl8:=hd.left1
 have hl0:=hd.left0
 obtain⟨x,hr,hS⟩:=DrrO.iff.1 hS
 unfold mcells at hS
 refine Gp ?_
 refine zx hS (v:=x.v) (t:=363) (sz:=2) (n:=d.l.length) (cells:=(d.l.map encMb).flatten) Xh ?_
 refine Gp ?_
 refine zc (λh=>?_) (λh=>?_)
 ·have he:d.l=[]:=List.eq_nil_of_length_eq_zero (by omega)
  have e:d.next=(d,0):=by unfold PDrr.next;rw[if_pos he]
  rw[e,decide_eq_false (by simp[he])]
  exact⟨_,⟨rfl,rfl⟩,DrrO.iff.2 ⟨x,hr,SL.into hS Xi⟩⟩
 have hne:d.l≠[]:=λe=>h (by rw[e];rfl)
 have hpl:0≤d.place∧d.place<d.l.length:=by
  unfold PDrr.place
  have:=hd.neg
  have:=hd.at0
  split
  ·split<;>omega
  ·omega
 obtain⟨j,hj⟩:∃j:Nat,d.place=j:=⟨d.place.toNat,by omega⟩
 have hjl:j<d.l.length:=by omega
 have hmem:d.l[j]?=some d.memb:=by
  unfold PDrr.memb
  rw[hj,Int.toNat_natCast,List.getElem?_eq_getElem hjl];rfl
 have hw:=hd.w _ (List.mem_of_getElem? hmem)
 refine⟨λus w=>∃(a:Nat) (t:Bool) (lf:Int),us=[]∧((t=true∧lf=d.left∧d.left≠0∧(a:Int)=d.at_)∨(t=false∧(a:Int)=d.at_+1∧d.left=0))∧SL W (.pt p [x.v,.int .i64 a,.bool t,.int .i64 lf] 289::MbO x.v d.l::F) w,?_,?_⟩
 ·refine Gp ?_
  refine yZ (λht=>?_) (λht=>?_)
  ·obtain⟨h3,h4,h5⟩:=hr.t ht
   refine Gp ?_
   refine zc (λh0=>?_) (λh0=>?_)
   ·refine Gn λw hS=>?_
    exact⟨x.a+1,false,x.lf,rfl,.inr ⟨rfl,by omega,by omega⟩,SL.into hS Xi⟩
   ·exact⟨x.a,true,x.lf,rfl,.inl ⟨rfl,h4.symm,by omega,h3.symm⟩,by rw[← ht];exact SL.into hS Xi⟩
  ·obtain⟨h3,h4,h5⟩:=hr.f ht
   exact⟨x.a,false,x.lf,rfl,.inr ⟨rfl,by omega,h4⟩,by rw[← ht];exact SL.into hS Xi⟩
 clear hS
 rintro w ⟨a,t,lf,-,hc,hS⟩
 refine⟨λus w=>us=[]∧SL W (.pt p [x.v,.int .i64 j,.bool true,.int .i64 (if d.left=0 then d.memb.2 else d.left)] 289::MbO x.v d.l::F) w,?_,?_⟩
 ·refine Gp ?_
  rcases hc with ⟨rfl,rfl,hc1,hc2⟩|⟨rfl,hc1,hc2⟩
  ·refine zt ?_
   have e:d.place=d.at_:=by unfold PDrr.place;rw[if_neg hc1]
   have:a=j:=by omega
   subst this
   rw[if_neg hc1]
   exact⟨rfl,SL.into hS Xi⟩
  ·refine zy ?_
   refine⟨λus w=>us=[]∧SL W (.pt p [x.v,.int .i64 j,.bool false,.int .i64 lf] 289::MbO x.v d.l::F) w,?_,?_⟩
   ·refine Gn λw hS=>?_
    refine zx hS (v:=x.v) (t:=363) (sz:=2) (n:=d.l.length) (cells:=(d.l.map encMb).flatten) Xh ?_
    refine Gp ?_
    have e:d.place=if (d.l.length:Int)≤d.at_+1 then 0 else d.at_+1:=by unfold PDrr.place;rw[if_pos hc2]
    refine zc (λh0=>?_) (λh0=>?_)
    ·rw[if_pos (by omega)]at e
     have:j=0:=by omega
     subst this
     refine Gn λw hS=>?_
     have hS:SL W (.pt p [x.v,.int .i64 ((0:Nat):Int),.bool false,.int .i64 lf] 289::MbO x.v d.l::F) w:=hS
     exact SL.into hS Xi
    ·rw[if_neg (by omega)]at e
     have:a=j:=by omega
     subst this
     exact⟨rfl,SL.into hS Xi⟩
   clear hS
   rintro w ⟨-,hS⟩
   refine Gn λw hS=>?_
   obtain⟨fa,fc,hxv,_,hfx⟩:=OwnSl.at hS (v:=x.v) (t:=363) (sz:=2) (n:=d.l.length) (cells:=(d.l.map encMb).flatten) Xh
   obtain⟨fb,rfl,hfc⟩:=hfx j hjl
   rw[hxv]
   refine zE hjl (zS (zS ?_))
   have hcl:=hfc _ _ (flat_at encMb_len d.l j 0 d.memb (.int .i64 d.memb.2) hmem rfl)
   refine⟨_,_,rfl,by rw[Nat.zero_add];exact hcl,?_⟩
   refine Gn λw hS=>?_
   rw[if_pos hc2,← hxv]
   exact SL.into hS Xi
 clear hS hc
 rintro w ⟨-,hS⟩
 refine Gn λw hS=>?_
 refine zD (i:=1) hS (v:=x.v) (t:=363) Xh encMb_len hmem hjl (u:=.int .i64 d.memb.1) rfl ?_
 have e:d.next=(⟨d.l,d.place,(if d.left=0 then d.memb.2 else d.left)-1⟩,d.memb.1):=by unfold PDrr.next;rw[if_neg hne]
 rw[e,decide_eq_true hne]
 exact⟨_,⟨rfl,rfl⟩,SL.into (DrrO.putX (d:=⟨d.l,d.place,(if d.left=0 then d.memb.2 else d.left)-1⟩) x.v j true ((if d.left=0 then d.memb.2 else d.left)-1) ⟨λ_=>⟨hj,rfl,hjl⟩,(λh=>by cases h)⟩ hS Xp) Xi⟩
theorem markS_tx(kind mark:Int):fillL [.int .i64 0,.int .i64 0,.slice none 0 0,.slice none 0 0,.int .i64 0] [(0,1,.int .i64 1),(1,1,.int .i64 kind),(4,1,.int .i64 mark)]=some (encTx ⟨1,kind,.slice none 0 0,.slice none 0 0,mark⟩):=by simp[fillL,Value.cells,encTx]
theorem ZY(sp tp dp lp:Nat)(k:PSrc)(H:Heap)(kind mark:Int){N:Nat}(hk:SOk k N)(hN:N≤1000000000)(hops:k.d.ops≤90000):
  SP 204 [ptrA sp,.int .i64 kind,.int .i64 mark] [.ob (SrcO sp tp dp lp k),.ob (DskO dp k.d),.mem H] (AnsS sp tp dp lp H (k.markS kind mark)):=by
 intro W F w hS;apply vc204;unfold Vc204;(try simp only[app]at hS)
 have hx:TxIs H ⟨1,kind,.slice none 0 0,.slice none 0 0,mark⟩ ⟨1,kind,[],[],mark⟩:=⟨rfl,rfl,rfl,RdSl.nil _ _,RdSl.nil _ _⟩
 have hbad:∀{w:World},¬((kind=2∨kind=3)∧mayTx ⟨1,kind,[],[],mark⟩=true)→SL W (.ob (SrcO sp tp dp lp k)::.ob (DskO dp k.d)::.mem H::F) w→∃post,AnsS sp tp dp lp H (k.markS kind mark) (.tuple #[.int .i64 0,.int .i64 1]) post∧SL W (app post F) w:=λh hS=>by
  rw[show k.markS kind mark=(k,(0,1)) from if_neg h]
  exact⟨_,⟨rfl,rfl⟩,hS⟩
 refine yq (markS_tx kind mark) ?_
 refine Gb λxb w hS=>?_
 have hgo:∀{w:World},(kind=2∨kind=3)→SL W (.pt xb (encTx ⟨1,kind,.slice none 0 0,.slice none 0 0,mark⟩) 39::.ob (SrcO sp tp dp lp k)::.ob (DskO dp k.d)::.mem H::F) w→zk 5 (ptrA xb) w λv19=>HCl 61 [v19] w λv20 w_3=>zu v20 λv21=>HIf v21 (∃post,AnsS sp tp dp lp H (k.markS kind mark) (.tuple #[.int .i64 0,.int .i64 1]) post∧SL W (app post F) w_3)
   (zk 5 (ptrA xb) w_3 λv24=>HCl 63 [ptrA sp,v24] w_3 λv25 w_4=>zi 0 v25 λv26=>zi 1 v25 λv27=>∃post,AnsS sp tp dp lp H (k.markS kind mark) (.tuple #[v26,v27]) post∧SL W (app post F) w_4):=λh2 hS=>by
  refine yt hS Xh rfl ?_
  refine Cg (yp H ⟨1,kind,.slice none 0 0,.slice none 0 0,mark⟩ ⟨1,kind,[],[],mark⟩ hx) λw hS=>?_
  refine zA (λh=>hbad (λx=>by rw[x.2]at h;cases h) (SL.into hS Xi)) (λh=>?_)
  rw[show k.markS kind mark=k.addS ⟨1,kind,[],[],mark⟩ from if_pos ⟨h2,h⟩]
  refine yt hS Xh rfl ?_
  refine Cg (Yl sp tp dp lp k H ⟨1,kind,.slice none 0 0,.slice none 0 0,mark⟩ ⟨1,kind,[],[],mark⟩ hx h hk hN hops) λw hS=>?_
  exact⟨_,⟨rfl,rfl⟩,SL.into hS Xi⟩
 refine zc (λh=>?_) (λh=>hgo (.inl (by omega)) (SL.into hS Xi))
 refine Gp ?_
 exact zc (λh2=>hbad (λx=>by omega) (SL.into hS Xi)) (λh2=>hgo (.inr (by omega)) (SL.into hS Xi))
abbrev RqO(v:Value)(l:List Rq):Chunk:=.ob (OwnSl v 125 7 l.length (l.map encRq).flatten)
theorem openR_take{L:List Rq}{i:Nat}(h:i<L.length):openR (L.take (i+1))=openR (L.take i)++(if L[i].done=false then [L[i]] else []):=by
 unfold openR
 rw[List.take_succ_eq_append_getElem h,List.filter_append,List.filter_cons]
 cases L[i].done<;>simp
theorem openR_le(L:List Rq)(i:Nat):(openR (L.take i)).length≤L.length:=by
 have:=List.length_filter_le (λr:Rq=>!r.done) (L.take i)
 rw[List.length_take]at this
 unfold openR;omega
theorem Zy(v:Value)(L:List Rq)(hn:L.length≤1000):SP 118 [v] [RqO v L] (λu post=>post=[RqO u (openR L),RqO v L]):=by
 intro W F w hS;apply vc118;unfold Vc118;(try simp only[app]at hS)
 refine zx hS (v:=v) (t:=125) (sz:=7) (n:=L.length) (cells:=(L.map encRq).flatten) Xh ?_
 have hS:SL W (RqO (.slice none 0 0) []::_) w:=OwnSl.nil hS
 refine⟨λus w=>∃(i:Nat) (u:Value),us=[u,.int .i64 i]∧i≤L.length∧SL W (RqO u (openR (L.take i))::RqO v L::F) w,λus _=>match us with|[_,.int _ i]=>(L.length-i).toNat|_=>0,⟨0,.slice none 0 0,rfl,by omega,hS⟩,?_⟩
 clear hS
 rintro v3 v8 w ⟨i,u,hus,hi,hS⟩
 cases hus
 refine Gp ?_
 refine zc (λh=>?_) (λh=>?_)
 ·have hil:i<L.length:=by omega
  have hx:L[i]?=some L[i]:=List.getElem?_eq_getElem hil
  have hop:=openR_take hil
  have hle:=openR_le L i
  refine zZ hS (v:=v) (t:=125) Xh encRq_len hx hil ?_
  generalize L[i]=r at *
  refine Gb λxb w hS=>?_
  refine zA (λhd=>?_) (λhd=>?_)
  ·rw[if_pos hd]at hop
   refine yt hS Xh rfl ?_
   refine Gm λyb w hS=>?_
   refine yr (n:=(openR (L.take i)).length) (xs:=openR (L.take i)) (y:=r) (enc:=encRq) hS Xr Xh encRq_len encRq_one rfl (by omega) (by omega) λv2 w hS=>?_
   have hS:=hS.snocL (x:=r)
   rw[← hop]at hS
   refine Gp ?_
   exact⟨⟨i+1,v2,rfl,by omega,SL.into hS Xi⟩,by dsimp only;omega⟩
  ·rw[if_neg (by simp[hd]),List.append_nil]at hop
   rw[← hop]at hS
   refine Gp ?_
   exact⟨⟨i+1,v3,rfl,by omega,SL.into hS Xi⟩,by dsimp only;omega⟩
 ·rw[List.take_of_length_le (by omega)]at hS
  exact⟨_,rfl,SL.into hS Xi⟩
abbrev spcells(sp mp wp gp:Nat)(n:Int):List Value:=[ptrA sp,ptrA mp,ptrA wp,ptrA gp,.int .i64 n]
theorem ZZ(sp mp wp:Nat)(H:Heap)(m:PMux)(n:Int):SP 41 [ptrA sp,ptrA mp,.int .i64 n] [.ob (MuxO mp wp H m)] (λv post=>(¬(1≤n∧n≤64)∧v= .tuple #[.pointer none,.int .i64 1]∧post=[.ob (MuxO mp wp H m)]) ∨
  ((1≤n∧n≤64)∧∃pp gp:Nat,v= .tuple #[ptrA pp,.int .i64 0]∧post=[.pt pp (spcells sp mp wp gp n) 201,.ob (DrrO gp drr0),.ob (MuxO mp wp H m)])):=by
 intro W F w hS;apply vc41;unfold Vc41;(try simp only[app]at hS)
 refine Gp ?_
 refine zc (λh=>⟨_,.inl ⟨by omega,rfl,rfl⟩,hS⟩) (λh1=>?_)
 refine Gp ?_
 refine zc (λh=>⟨_,.inl ⟨by omega,rfl,rfl⟩,hS⟩) (λh2=>?_)
 obtain⟨rv,hr,hS⟩:=MuxO.iff.1 hS
 refine Gp ?_
 refine Yk (vs:=[ptrA wp]) hS Xh rfl (λj v e=>by
  match j,e with
  | 0,e=>exact e) ?_
 refine Cg (Yf wp) λw hS=>?_
 (refine Cc (QD) ?_;clear hS)
 rintro _ post ⟨gp,rfl,rfl⟩ w hS
 (try simp only[app]at hS);refine Gp ?_
 refine⟨_,rfl,zN hS λpp w hS=>?_⟩
 have hS:=MuxO.put m rv hr hS Xp
 exact⟨_,.inr ⟨by omega,pp,gp,rfl,rfl⟩,SL.into hS Xi⟩
theorem yA(sp mp wp pp gp:Nat)(n:Int)(H:Heap)(m:PMux)(hn:m.reqs.length≤1000):SP 43 [ptrA pp] [.pt pp (spcells sp mp wp gp n) 201,.ob (MuxO mp wp H m),.mem H] (Gives (.bool (readyS m)) [.pt pp (spcells sp mp wp gp n) 201,.ob (MuxO mp wp H m),.mem H]):=by
 intro W F w hS;apply vc43;unfold Vc43;(try simp only[app]at hS)
 unfold readyS
 refine Gp ?_
 obtain⟨rv,hr,hS⟩:=MuxO.iff.1 (SL.into hS (t:=.ob (MuxO mp wp H m)::.pt pp (spcells sp mp wp gp n) 201::.mem H::F) Xi)
 refine Cg (ZB wp m.win) λw hS=>?_
 have hS:=MuxO.put m rv hr hS Xp
 refine zc (λh=>?_) (λh1=>?_)
 ·rw[decide_eq_true (.inl h)]
  exact⟨_,⟨rfl,rfl⟩,SL.into hS Xi⟩
 refine Gp ?_
 refine zc (λh=>?_) (λh2=>?_)
 ·rw[decide_eq_true (.inr (.inl h))]
  exact⟨_,⟨rfl,rfl⟩,SL.into hS Xi⟩
 refine Gp ?_
 refine zc (λh3=>?_) (λh3=>?_)
 ·refine Gp ?_
  (refine Cc (yL mp wp H m hn) ?_;clear hS)
  rintro u post rfl w hS
  (try simp only[app]at hS)
  (refine Cc (Zy u m.reqs hn) ?_;clear hS)
  rintro u2 post rfl w hS
  (try simp only[app]at hS)
  refine zx hS (v:=u2) (t:=125) (sz:=7) (n:=(openR m.reqs).length) (cells:=((openR m.reqs).map encRq).flatten) Xh ?_
  refine Gp ?_
  have e:decide (m.win.state=1∨m.win.state=2∨m.win.state=0∧openR m.reqs≠[])=decide ((0:Int)<((openR m.reqs).length:Int)):=by
   rw[decide_eq_decide]
   constructor
   ·rintro (h|h|h)
    ·exact absurd h h1
    ·exact absurd h h2
    ·have:=List.length_pos_iff.2 h.2;omega
   ·intro h
    exact .inr (.inr ⟨h3,λe=>by rw[e]at h;simp at h⟩)
  rw[e]
  exact⟨_,⟨rfl,rfl⟩,SL.into hS Xi⟩
 ·rw[decide_eq_false (λh=>h.elim h1 (λh=>h.elim h2 (λh=>h3 h.1)))]
  exact⟨_,⟨rfl,rfl⟩,SL.into hS Xi⟩
theorem ddel_len(d:PDrr)(id:Int):(d.del id).l.length≤d.l.length:=by
 unfold PDrr.del
 split
 ·exact Nat.le_refl _
 ·exact List.length_eraseIdx_le ..
theorem dadd_len(d:PDrr)(id w:Int):(d.add id w).l.length≤d.l.length+1:=by
 unfold PDrr.add
 split
 ·omega
 ·split
  ·omega
  ·simp
theorem dels_len:∀(L:List Rq) (d:PDrr),(L.foldl (λd r=>d.del r.id) d).l.length≤d.l.length
 | [],d=>Nat.le_refl _
 | r::L,d=>Nat.le_trans (dels_len L (d.del r.id)) (ddel_len d r.id)
theorem adds_len:∀(L:List Rq) (d:PDrr),(L.foldl (λd r=>d.add r.id r.weight) d).l.length≤d.l.length+L.length
 | [],d=>Nat.le_refl _
 | r::L,d=>by
  have h1:=adds_len L (d.add r.id r.weight)
  have h2:=dadd_len d r.id r.weight
  rw[List.foldl_cons,List.length_cons];omega
theorem doneR_take{L:List Rq}{i:Nat}(h:i<L.length):(L.take (i+1)).filter (·.done)=(L.take i).filter (·.done)++(if L[i].done=true then [L[i]] else []):=by
 rw[List.take_succ_eq_append_getElem h,List.filter_append,List.filter_cons]
 cases L[i].done<;>simp
theorem q7(sp mp wp pp gp:Nat)(n:Int)(H:Heap)(m:PMux)(d:PDrr)(hn:m.reqs.length≤64)(hd:d.l.length≤500):SP 202 [ptrA pp] [.pt pp (spcells sp mp wp gp n) 201,.ob (DrrO gp d),.ob (MuxO mp wp H m),.mem H] (λv post=>post=[.pt pp (spcells sp mp wp gp n) 201,.ob (DrrO gp (rowD d m.reqs)),.ob (MuxO mp wp H m),.mem H]):=by
 intro W F w hS;apply vc202;unfold Vc202;(try simp only[app]at hS)
 refine Gp ?_
 (refine Cc (yL mp wp H m (by omega)) ?_;clear hS)
 rintro u post rfl w hS
 (try simp only[app]at hS)
 refine zx hS (v:=u) (t:=125) (sz:=7) (n:=m.reqs.length) (cells:=(m.reqs.map encRq).flatten) Xh ?_
 refine⟨λus w=>∃i:Nat,us=[.int .i64 i]∧i≤m.reqs.length∧SL W (.ob (DrrO gp (((m.reqs.take i).filter (·.done)).foldl (λd r=>d.del r.id) d))::RqO u m.reqs::.ob (MuxO mp wp H m)::.mem H::.pt pp (spcells sp mp wp gp n) 201::F) w,λus _=>match us with|[.int _ i]=>(m.reqs.length-i).toNat|_=>0,⟨0,rfl,by omega,SL.into hS (t:=.ob (DrrO gp d)::RqO u m.reqs::.ob (MuxO mp wp H m)::.mem H::.pt pp (spcells sp mp wp gp n) 201::F) Xi⟩,?_⟩
 clear hS
 rintro v12 w ⟨i,hus,hi,hS⟩
 cases hus
 refine Gp ?_
 refine zc (λh=>?_) (λh=>?_)
 ·have hil:i<m.reqs.length:=by omega
  have hx:m.reqs[i]?=some m.reqs[i]:=List.getElem?_eq_getElem hil
  have hop:=doneR_take hil
  have hle:=dels_len ((m.reqs.take i).filter (·.done)) d
  refine zZ hS (v:=u) (t:=125) Xh encRq_len hx hil ?_
  generalize m.reqs[i]=r at *
  refine Gb λxb w hS=>?_
  refine yZ (λhq=>?_) (λhq=>?_)
  ·rw[if_pos hq]at hop
   refine Gn λw hS=>?_
   (refine Cc (QB gp (((m.reqs.take i).filter (·.done)).foldl (λd r=>d.del r.id) d) r.id (by omega)) ?_;clear hS)
   rintro _ post ⟨⟨e,rfl⟩,rfl⟩ w hS
   (try simp only[app]at hS);refine Gp ?_
   refine⟨⟨i+1,rfl,by omega,?_⟩,by dsimp only;omega⟩
   rw[hop,List.foldl_append]
   exact SL.into hS (t:=.ob (DrrO gp ((((m.reqs.take i).filter (·.done)).foldl (λd r=>d.del r.id) d).del r.id))::RqO u m.reqs::.ob (MuxO mp wp H m)::.mem H::.pt pp (spcells sp mp wp gp n) 201::F) Xi
  ·rw[if_neg (by simp[hq]),List.append_nil]at hop
   rw[← hop]at hS
   refine Gp ?_
   exact⟨⟨i+1,rfl,by omega,SL.into hS Xi⟩,by dsimp only;omega⟩
 rw[List.take_of_length_le (by omega)]at hS
 have hrow:rowD d m.reqs=(openR m.reqs).foldl (λd r=>d.add r.id r.weight) ((m.reqs.filter (·.done)).foldl (λd r=>d.del r.id) d):=rfl
 have hdl:=dels_len (m.reqs.filter (·.done)) d
 rw[hrow]
 generalize (m.reqs.filter (·.done)).foldl (λd r=>d.del r.id) d=d1 at *
 refine Gp ?_
 (refine Cc (yL mp wp H m (by omega)) ?_;clear hS)
 rintro u1 post rfl w hS
 (try simp only[app]at hS)
 (refine Cc (Zy u1 m.reqs (by omega)) ?_;clear hS)
 rintro u2 post rfl w hS
 (try simp only[app]at hS)
 have hol:(openR m.reqs).length≤64:=by
  have:=openR_le m.reqs m.reqs.length
  rw[List.take_length]at this;omega
 generalize openR m.reqs=L at *
 refine zx hS (v:=u2) (t:=125) (sz:=7) (n:=L.length) (cells:=(L.map encRq).flatten) Xh ?_
 refine⟨λus w=>∃i:Nat,us=[.int .i64 i]∧i≤L.length∧SL W (.ob (DrrO gp ((L.take i).foldl (λd r=>d.add r.id r.weight) d1))::RqO u2 L::.ob (MuxO mp wp H m)::.mem H::.pt pp (spcells sp mp wp gp n) 201::F) w,λus _=>match us with|[.int _ i]=>(L.length-i).toNat|_=>0,⟨0,rfl,by omega,SL.into hS (t:=.ob (DrrO gp d1)::RqO u2 L::.ob (MuxO mp wp H m)::.mem H::.pt pp (spcells sp mp wp gp n) 201::F) Xi⟩,?_⟩
 clear hS
 rintro v33 w ⟨i,hus,hi,hS⟩
 cases hus
 refine Gp ?_
 refine zc (λh=>?_) (λh=>?_)
 ·have hil:i<L.length:=by omega
  have hx:L[i]?=some L[i]:=List.getElem?_eq_getElem hil
  have hst:L.take (i+1)=L.take i++[L[i]]:=List.take_succ_eq_append_getElem hil
  have hle:=adds_len (L.take i) d1
  rw[List.length_take]at hle
  refine zZ hS (v:=u2) (t:=125) Xh encRq_len hx hil ?_
  generalize L[i]=r at *
  refine Gb λxb w hS=>?_
  (refine Cc (QA gp ((L.take i).foldl (λd r=>d.add r.id r.weight) d1) r.id r.weight (by omega)) ?_;clear hS)
  rintro _ post ⟨⟨e,rfl⟩,rfl⟩ w hS
  (try simp only[app]at hS);refine Gp ?_
  refine⟨⟨i+1,rfl,by omega,?_⟩,by dsimp only;omega⟩
  rw[hst,List.foldl_append]
  exact SL.into hS (t:=.ob (DrrO gp (((L.take i).foldl (λd r=>d.add r.id r.weight) d1).add r.id r.weight))::RqO u2 L::.ob (MuxO mp wp H m)::.mem H::.pt pp (spcells sp mp wp gp n) 201::F) Xi
 ·rw[List.take_of_length_le (by omega)]at hS
  exact⟨_,rfl,SL.into hS Xi⟩
structure PSnap.Ok(p:PSnap):Prop where
 m:p.m.Ok
 d:p.d.Ok
 dl:p.d.l.length≤64
 src:∃N,SOk p.k N∧N≤900000000
 n:1≤p.n∧p.n≤64
 row:(rowD p.d p.m.reqs).Ok
 id : -9223372036854775808≤p.m.win.id∧p.m.win.id≤9223372036854775807
abbrev SnpL(sp tp dp lp mp wp pp gp:Nat)(H:Heap)(p:PSnap):List Chunk:=[.pt pp (spcells sp mp wp gp p.n) 201,.ob (DrrO gp p.d),.ob (MuxO mp wp H p.m),.ob (SrcO sp tp dp lp p.k),.ob (DskO dp p.k.d),.mem H]
def StepQ(sp tp dp lp mp wp pp gp:Nat)(H:Heap)(y:PSnap × (Int × Int))(v:Value)(post:List Chunk):Prop:=∃H',H.le H'∧v= .tuple #[.int .i64 y.2.1,.int .i64 y.2.2]∧post=SnpL sp tp dp lp mp wp pp gp H' y.1
theorem q6(sp tp dp lp mp wp pp gp:Nat)(H:Heap)(p:PSnap)(hp:p.Ok)(hops:p.k.d.ops≤90000):SP 122 [ptrA pp] (SnpL sp tp dp lp mp wp pp gp H p) (StepQ sp tp dp lp mp wp pp gp H p.lowP):=by
 intro W F w hS;apply vc122;unfold Vc122;(try simp only[app]at hS)
 obtain⟨N,hk,hN⟩:=hp.src
 have hr64:=hp.m.reqs.1
 have hdl:=hp.dl
 have hrow:=hp.row
 have hd0:=headG_ge hk.g.ok.segs
 have hh1:=hk.g.hd
 (refine Cc (q7 sp mp wp pp gp p.n H p.m p.d hr64 (by omega)) ?_;clear hS)
 rintro _ post rfl w hS
 (try simp only[app]at hS);refine Gp ?_
 have hrl:(rowD p.d p.m.reqs).l.length≤1000:=by
  have h1:=adds_len (openR p.m.reqs) ((p.m.reqs.filter (·.done)).foldl (λd r=>d.del r.id) p.d)
  have h2:=dels_len (p.m.reqs.filter (·.done)) p.d
  have h3:=openR_le p.m.reqs p.m.reqs.length
  rw[List.take_length]at h3
  unfold rowD;omega
 unfold PSnap.lowP
 generalize hx:rowD p.d p.m.reqs=d1 at *
 (refine Cc (qu gp d1 hrow hrl) ?_;clear hS)
 rintro _ post ⟨rfl,rfl⟩ w hS
 (try simp only[app]at hS);refine Gp ?_
 (refine Cc (yL mp wp H p.m (by omega)) ?_;clear hS)
 rintro u post rfl w hS
 (try simp only[app]at hS)
 have hno:∀{w:World},reqAt p.m.reqs d1.next.2=none→SL W (.pt pp (spcells sp mp wp gp p.n) 201::.ob (DrrO gp d1.next.1)::.ob (MuxO mp wp H p.m)::.ob (SrcO sp tp dp lp p.k)::.ob (DskO dp p.k.d)::.mem H::F) w→∃post,StepQ sp tp dp lp mp wp pp gp H (p.lowX d1.next) (.tuple #[.int .i64 0,.int .i64 0]) post∧SL W (app post F) w:=λe hS=>by
  rw[show p.lowX d1.next=({p with d:=d1.next.1},(0,0)) by unfold PSnap.lowX;rw[e]]
  exact⟨_,⟨H,Heap.le_refl H,rfl,rfl⟩,hS⟩
 refine Gp ?_
 refine zA (λhq=>?_) (λhq=>?_)
 ·refine hno ?_ (SL.into hS Xi)
  have he:d1.l=[]:=Decidable.of_not_not (of_decide_eq_false hq)
  unfold PDrr.next reqAt
  rw[if_pos he];rfl
 have hne:d1.l≠[]:=of_decide_eq_true hq
 refine zx hS (v:=u) (t:=125) (sz:=7) (n:=p.m.reqs.length) (cells:=(p.m.reqs.map encRq).flatten) Xh ?_
 refine Gp ?_
 have hid:1≤d1.next.2:=by
  unfold PDrr.next
  rw[if_neg hne]
  have hpl:0≤d1.place∧d1.place<d1.l.length:=by
   have:=hrow.neg
   have:=hrow.at0
   have:=hrow.at1
   have:0<d1.l.length:=List.length_pos_iff.2 hne
   unfold PDrr.place
   split
   ·split<;>omega
   ·omega
  have hm:d1.memb∈d1.l:=by
   unfold PDrr.memb
   rw[List.getElem?_eq_getElem (show d1.place.toNat<d1.l.length by omega)]
   exact List.getElem_mem _
  exact (hrow.w _ hm).1
 refine zc (λh=>hno (by unfold reqAt;rw[if_neg (by omega),List.getElem?_eq_none (by omega)]) (SL.into hS Xi)) (λh=>?_)
 clear hno
 obtain⟨j,hj⟩:∃j:Nat,d1.next.2=(j:Int)+1:=⟨(d1.next.2-1).toNat,by omega⟩
 have hjl:j<p.m.reqs.length:=by omega
 have hrq:reqAt p.m.reqs d1.next.2=some p.m.reqs[j]:=by
  unfold reqAt
  rw[if_neg (by omega),hj,show ((j:Int)+1-1).toNat=j by omega,List.getElem?_eq_getElem hjl]
 rw[show p.lowX d1.next=({p with d:=d1.next.1}:PSnap).markLow p.m.reqs[j] by unfold PSnap.lowX;rw[hrq]]
 unfold PSnap.markLow
 clear hrq
 rw[hj]
 generalize d1.next.1=d2 at hS ⊢
 refine Gp ?_
 refine Cg (yk sp tp dp lp p.k hk.g (by omega)) λw hS=>?_
 (refine Cc (ZY sp tp dp lp p.k H 2 (headG p.k.g.segs+1) hk (by omega) hops) ?_;clear hS)
 rintro _ post ⟨rfl,rfl⟩ w hS
 (try simp only[app]at hS);refine Gp ?_
 generalize p.k.markS 2 (headG p.k.g.segs+1)=y at hS ⊢
 obtain⟨k',a,e⟩:=y
 simp only at hS ⊢
 refine zc (λhe=>?_) (λhe=>?_)
 ·rw[if_pos he]
  exact⟨_,⟨H,Heap.le_refl H,rfl,rfl⟩,SL.into hS Xi⟩
 rw[if_neg he]
 refine Gp ?_
 rw[show ((j:Int)+1-1)=(j:Int) by omega]
 refine zZ hS (v:=u) (t:=125) Xh encRq_len (List.getElem?_eq_getElem hjl) hjl ?_
 generalize p.m.reqs[j]=r
 refine Gb λxb w hS=>?_
 obtain⟨rv,hr,hS⟩:=MuxO.iff.1 (SL.into hS (t:=.ob (MuxO mp wp H p.m)::.pt pp (spcells sp mp wp gp p.n) 201::.ob (DrrO gp d2)::.ob (SrcO sp tp dp lp k')::.ob (DskO dp k'.d)::.mem H::F) Xi)
 (refine Cc (Ql wp p.m.win (headG p.k.g.segs+1) r.id r.table r.cursor) ?_;clear hS)
 rintro _ post ⟨⟨q,rfl⟩,rfl⟩ w hS
 (try simp only[app]at hS)
 have hS:=MuxO.put (mp:=mp) {p.m with win:=p.m.win.openW (headG p.k.g.segs+1) r.id r.table r.cursor} rv hr hS Xp
 exact⟨_,⟨H,Heap.le_refl H,rfl,rfl⟩,SL.into hS Xi⟩
theorem ql(sp tp dp lp mp wp pp gp:Nat)(H:Heap)(p:PSnap)(hp:p.Ok)(hops:p.k.d.ops≤90000):SP 125 [ptrA pp] (SnpL sp tp dp lp mp wp pp gp H p) (StepQ sp tp dp lp mp wp pp gp H p.highP):=by
 intro W F w hS;apply vc125;unfold Vc125;(try simp only[app]at hS)
 obtain⟨N,hk,hN⟩:=hp.src
 refine Gn λw hS=>?_
 obtain⟨rv,hr,hS⟩:=MuxO.iff.1 (SL.into hS (t:=.ob (MuxO mp wp H p.m)::.pt pp (spcells sp mp wp gp p.n) 201::.ob (DrrO gp p.d)::.ob (SrcO sp tp dp lp p.k)::.ob (DskO dp p.k.d)::.mem H::F) Xi)
 refine Cg (Qk wp p.m.win) λw hS=>?_
 unfold PSnap.highP
 (refine Cc (ZY sp tp dp lp p.k H 3 p.m.win.mark hk (by omega) hops) ?_;clear hS)
 rintro _ post ⟨rfl,rfl⟩ w hS
 (try simp only[app]at hS);refine Gp ?_
 generalize p.k.markS 3 p.m.win.mark=y at hS ⊢
 obtain⟨k',a,e⟩:=y
 simp only at hS ⊢
 refine zc (λhe=>?_) (λhe=>?_)
 ·rw[if_pos he]
  have hS:=MuxO.put (mp:=mp) p.m rv hr hS Xp
  exact⟨_,⟨H,Heap.le_refl H,rfl,rfl⟩,SL.into hS Xi⟩
 rw[if_neg he]
 refine Gp ?_
 (refine Cc (Qm wp p.m.win) ?_;clear hS)
 rintro _ post ⟨⟨q,rfl⟩,rfl⟩ w hS
 (try simp only[app]at hS)
 have hS:=MuxO.put (mp:=mp) {p.m with win:=p.m.win.shut} rv hr hS Xp
 exact⟨_,⟨H,Heap.le_refl H,rfl,rfl⟩,SL.into hS Xi⟩
theorem yF(sp tp dp lp mp wp pp gp:Nat)(H:Heap)(p:PSnap)(hp:p.Ok)(hops:p.k.d.ops≤90000):SP 46 [ptrA pp] (SnpL sp tp dp lp mp wp pp gp H p) (StepQ sp tp dp lp mp wp pp gp H p.step):=by
 intro W F w hS;apply vc46;unfold Vc46;(try simp only[app]at hS)
 obtain⟨N,hk,hN⟩:=hp.src
 have hr64:=hp.m.reqs.1
 have hn64:=hp.n
 unfold PSnap.step
 refine Cg (yA sp mp wp pp gp p.n H p.m (by omega)) λw hS=>?_
 refine zA (λhq=>?_) (λhq=>?_)
 ·rw[if_pos hq]
  exact⟨_,⟨H,Heap.le_refl H,rfl,rfl⟩,SL.into hS Xi⟩
 rw[if_neg (by simp[hq])]
 obtain⟨rv,hr,hS⟩:=MuxO.iff.1 (SL.into hS (t:=.ob (MuxO mp wp H p.m)::.pt pp (spcells sp mp wp gp p.n) 201::.ob (DrrO gp p.d)::.ob (SrcO sp tp dp lp p.k)::.ob (DskO dp p.k.d)::.mem H::F) Xi)
 refine Gp ?_
 refine Cg (ZB wp p.m.win) λw hS=>?_
 refine zc (λh0=>?_) (λh0=>?_)
 ·rw[if_pos h0]
  have hS:=MuxO.put (mp:=mp) p.m rv hr hS Xp
  (refine Cc (q6 sp tp dp lp mp wp pp gp H p hp hops) ?_;clear hS)
  rintro _ post ⟨H1,h01,rfl,rfl⟩ w hS
  (try simp only[app]at hS);refine Gp ?_
  exact⟨_,⟨H1,h01,rfl,rfl⟩,SL.into hS Xi⟩
 rw[if_neg h0]
 refine Gp ?_
 refine zc (λh1=>?_) (λh1=>?_)
 ·rw[if_pos h1]
  refine Gn λw hS=>?_
  refine Cg (qo wp p.m.win) λw hS=>?_
  refine Cg (qn wp p.m.win) λw hS=>?_
  (refine Cc (qk sp tp dp lp p.k p.m.win.table p.m.win.after p.n (λC hC=>by have:=hk.len C hC;omega) (λC hC=>(hk.rows C hC).sorted) (by omega) (by omega)) ?_;clear hS)
  rintro u post rfl w hS
  (try simp only[app]at hS)
  obtain⟨H1,h01,hR,hS⟩:=zG (H:=H) (v:=u) hS Xp
  have hcl:(p.k.chunkS p.m.win.table p.m.win.after p.n).length≤64:=by
   unfold PSrc.chunkS afterR
   rw[List.length_take];omega
  generalize p.k.chunkS p.m.win.table p.m.win.after p.n=C at hR hcl ⊢
  refine Gp ?_
  (refine Cc (Qj wp p.m.win H1 u C hR (by omega)) ?_;clear hS)
  rintro _ post ⟨⟨q,rfl⟩,rfl⟩ w hS
  (try simp only[app]at hS)
  have hS:=MuxO.put (mp:=mp) {p.m with win:=p.m.win.fill C} rv (hr.mono h01) hS Xp
  exact⟨_,⟨H1,h01,rfl,rfl⟩,SL.into hS Xi⟩
 ·rw[if_neg h1]
  have hS:=MuxO.put (mp:=mp) p.m rv hr hS Xp
  (refine Cc (ql sp tp dp lp mp wp pp gp H p hp hops) ?_;clear hS)
  rintro _ post ⟨H1,h01,rfl,rfl⟩ w hS
  (try simp only[app]at hS);refine Gp ?_
  exact⟨_,⟨H1,h01,rfl,rfl⟩,SL.into hS Xi⟩
abbrev RdI(H:Heap)(v:Value)(l:List Int):Prop:=RdSl H 1 v l.length (l.map (Value.int .i64))
abbrev IntO(v:Value)(l:List Int):Chunk:=.ob (OwnSl v 3 1 l.length (l.map (Value.int .i64)))
def RDrrO(p:Nat)(H:Heap)(d:PDrr):zC:=HEx λx:Value × Value=>zQ (RdI H x.1 (d.l.map Prod.fst)∧RdI H x.2 (d.l.map Prod.snd)) [.pt p [x.1,x.2,.int .i64 d.at_,.int .i64 d.left] 349]
section
variable {W w:World} {l F:List Chunk} {p:Nat} {H H':Heap}
theorem RDrrO.iff{d:PDrr}:SL W (.ob (RDrrO p H d)::l) w↔∃x:Value × Value,(RdI H x.1 (d.l.map Prod.fst)∧RdI H x.2 (d.l.map Prod.snd))∧SL W (.pt p [x.1,x.2,.int .i64 d.at_,.int .i64 d.left] 349::l) w:=by
 unfold RDrrO
 simp only[SL.ex,SL.fact,List.cons_append,List.nil_append]
theorem RDrrO.put(d:PDrr)(u v:Value)(h1:RdI H u (d.l.map Prod.fst))(h2:RdI H v (d.l.map Prod.snd))(hS:SL W l w)(k:Rem (.pt p [u,v,.int .i64 d.at_,.int .i64 d.left] 349) l F):SL W (.ob (RDrrO p H d)::F) w:=RDrrO.iff.2 ⟨(u,v),⟨h1,h2⟩,hS.perm k.perm⟩
theorem RDrrO.monoP{d:PDrr}(hh:H.le H')(hS:SL W l w)(r:Rem (.ob (RDrrO p H d)) l F):SL W (.ob (RDrrO p H' d)::F) w:=by
 obtain⟨x,⟨h1,h2⟩,h3⟩:=RDrrO.iff.1 (hS.perm r.perm)
 exact RDrrO.iff.2 ⟨x,⟨h1.mono hh,h2.mono hh⟩,h3⟩
end
theorem qL(H:Heap):SP 196 [] [] (λv post=>∃p:Nat,v=ptrA p∧post=[.ob (RDrrO p H drr0)]):=by
 intro W F w hS;apply vc196;unfold Vc196;(try simp only[app]at hS)
 refine yq rfl ?_
 refine⟨_,rfl,zN hS λp w hS=>?_⟩
 exact⟨_,⟨p,rfl,rfl⟩,SL.into (RDrrO.put (H:=H) drr0 (.slice none 0 0) (.slice none 0 0) (RdSl.nil _ _) (RdSl.nil _ _) hS Xr) Xi⟩
section
variable {W w:World} {l F:List Chunk} {H:Heap}
theorem IntO.nil{b:Nat}(hS:SL W l w)(hr:Rem (.pt b [] 3) l F):SL W (IntO (.slice (some ⟨b,0,none⟩) 0 0) []::F) w:=OwnSl.full (n:=0) (sz:=1) (cells:=[]) rfl (hS.perm hr.perm)
end
abbrev rwcells(k:PWin)(rv:Value):List Value:=[.int .i64 k.n,.int .i64 k.state,.int .i64 k.id,.int .i64 k.table,.int .i64 k.mark,.int .i64 k.after,.int .i64 k.cursor,.bool k.last,rv]
abbrev RdW(H:Heap)(v:Value)(C:List Row):Prop:=RdSl H 2 v C.length (C.map encRow).flatten
def RWinO(wp:Nat)(H:Heap)(k:PWin):zC:=HEx λrv:Value=>zQ (RdW H rv k.rows) [.pt wp (rwcells k rv) 214]
section
variable {W w:World} {l F:List Chunk} {wp:Nat} {H H':Heap} {k:PWin}
theorem RWinO.iff:SL W (.ob (RWinO wp H k)::l) w↔∃rv,RdW H rv k.rows∧SL W (.pt wp (rwcells k rv) 214::l) w:=by
 unfold RWinO
 simp only[SL.ex,SL.fact,List.cons_append,List.nil_append]
theorem RWinO.put(k:PWin)(rv:Value)(h:RdW H rv k.rows)(hS:SL W l w)(p:Rem (.pt wp (rwcells k rv) 214) l F):SL W (.ob (RWinO wp H k)::F) w:=RWinO.iff.2 ⟨rv,h,hS.perm p.perm⟩
theorem RWinO.monoP(hh:H.le H')(hS:SL W l w)(r:Rem (.ob (RWinO wp H k)) l F):SL W (.ob (RWinO wp H' k)::F) w:=by
 obtain⟨rv,h1,h2⟩:=RWinO.iff.1 (hS.perm r.perm)
 exact RWinO.iff.2 ⟨rv,h1.mono hh,h2⟩
end
section
variable (wp:Nat) (k:PWin) (H:Heap)
end
abbrev rmcells(m:PMux)(wp:Nat)(rv:Value):List Value:=[.int .i64 m.tables,.int .i64 m.late,.int .i64 m.at_,rv,ptrA wp]
def RMuxO(mp wp:Nat)(H:Heap)(m:PMux):zC:=HEx λrv:Value=>zQ (RdRq H rv m.reqs) [.pt mp (rmcells m wp rv) 212,.ob (RWinO wp H m.win)]
section
variable {W w:World} {l F:List Chunk} {mp wp:Nat} {H H':Heap}
theorem RMuxO.iff{m:PMux}:SL W (.ob (RMuxO mp wp H m)::l) w↔∃rv,RdRq H rv m.reqs∧SL W (.pt mp (rmcells m wp rv) 212::.ob (RWinO wp H m.win)::l) w:=by
 unfold RMuxO
 simp only[SL.ex,SL.fact,List.cons_append,List.nil_append]
theorem RMuxO.put(m:PMux)(rv:Value)(hr:RdRq H rv m.reqs)(hS:SL W l w)(p:Pick [.pt mp (rmcells m wp rv) 212,.ob (RWinO wp H m.win)] l F):SL W (.ob (RMuxO mp wp H m)::F) w:=RMuxO.iff.2 ⟨rv,hr,hS.pick p⟩
theorem RMuxO.monoP{m:PMux}(hh:H.le H')(hS:SL W l w)(r:Rem (.ob (RMuxO mp wp H m)) l F):SL W (.ob (RMuxO mp wp H' m)::F) w:=by
 obtain⟨rv,h1,h2⟩:=RMuxO.iff.1 (hS.perm r.perm)
 have h3:=RWinO.monoP hh h2 (.tl .hd)
 exact RMuxO.iff.2 ⟨rv,h1.mono hh,h3.perm (.swap _ _ _)⟩
end
theorem qQ(H:Heap)(tables late chunk lsn:Int)(v:Value)(L:List Rq)(hv:RdRq H v L)(hn:L.length≤1000):
  SP 114 [.int .i64 tables,.int .i64 late,.int .i64 chunk,.int .i64 lsn,v] [.mem H] (λu post=>(muxBad tables late chunk lsn L∧u= .pointer none∧post=[.mem H])∨(¬muxBad tables late chunk lsn L∧∃(mp wp:Nat) (H':Heap),H.le H'∧u=ptrA mp∧post=[.ob (RMuxO mp wp H' ⟨tables,late,lsn,L,win0 chunk⟩),.mem H'])):=by
 intro W F w hS;apply vc114;unfold Vc114;(try simp only[app]at hS)
 have hbad:∀{w:World},muxBad tables late chunk lsn L→SL W (.mem H::F) w→∃post,((muxBad tables late chunk lsn L∧(Value.pointer none)= .pointer none∧post=[.mem H])∨(¬muxBad tables late chunk lsn L∧∃(mp wp:Nat) (H':Heap),H.le H'∧(Value.pointer none)=ptrA mp∧post=[.ob (RMuxO mp wp H' ⟨tables,late,lsn,L,win0 chunk⟩),.mem H']))∧SL W (app post F) w:=λh hS=>⟨_,.inl ⟨h,rfl,rfl⟩,hS⟩
 refine Gp ?_
 refine zc (λh=>hbad (.inl h) hS) (λh1=>?_)
 refine Gp ?_
 refine zc (λh=>hbad (.inr (.inl h)) hS) (λh2=>?_)
 refine Gp ?_
 refine zc (λh=>hbad (.inr (.inr (.inl h))) hS) (λh3=>?_)
 obtain⟨n,rfl⟩:∃n:Nat,tables=n:=⟨tables.toNat,by omega⟩
 have hpow:(2:Int) ^ n≤256:=by
  have:n≤8:=by omega
  match n,this with
  | 0,_=>decide
  | 1,_=>decide
  | 2,_=>decide
  | 3,_=>decide
  | 4,_=>decide
  | 5,_=>decide
  | 6,_=>decide
  | 7,_=>decide
  | 8,_=>decide
 have hpos:(0:Int)<2 ^ n:=Int.pow_pos (by decide)
 refine s_cvU (by omega) ?_
 refine s_shlK (by omega) (by omega) ?_
 rw[Int.one_mul]
 refine Gp ?_
 refine zc (λh=>hbad (.inr (.inr (.inr (.inl (by rw[Int.toNat_natCast];exact h))))) hS) (λh4=>?_)
 refine Gp ?_
 refine zc (λh=>hbad (.inr (.inr (.inr (.inr (.inr (.inr (.inl h))))))) hS) (λh5=>?_)
 refine Gp ?_
 refine zc (λh=>hbad (.inr (.inr (.inr (.inr (.inr (.inr (.inr (.inl h)))))))) hS) (λh6=>?_)
 refine Gp ?_
 refine zc (λh=>hbad (.inr (.inr (.inr (.inr (.inl h))))) hS) (λh7=>?_)
 refine Gp ?_
 refine zc (λh=>hbad (.inr (.inr (.inr (.inr (.inr (.inl h)))))) hS) (λh8=>?_)
 (refine Cc (Yu H v L hv (by omega)) ?_;clear hS)
 rintro _ post ⟨q,rfl,hq,rfl⟩ w hS
 (try simp only[app]at hS);refine Gp ?_
 refine zA (λhe=>hbad (.inr (.inr (.inr (.inr (.inr (.inr (.inr (.inr (.inl λh=>by rw[hq.2 h]at he;cases he))))))))) hS) (λhe=>?_)
 have hm:=hq.1 he
 refine⟨λus w=>∃i:Nat,us=[.int .i64 i]∧i≤L.length∧(∀j (h:j<L.length),j<i→L[j].table<(n:Int)∧L[j].at_≤lsn)∧SL W (.mem H::F) w,λus _=>match us with|[.int _ i]=>(L.length-i).toNat|_=>0,⟨0,rfl,by omega,λj h hj=>by omega,hS⟩,?_⟩
 clear hS
 rintro v11 w ⟨i,hus,hi,hall,hS⟩
 cases hus
 refine zn hv ?_
 refine Gp ?_
 refine zc (λh=>?_) (λh=>?_)
 ·have hil:i<L.length:=by omega
  have hx:L[i]?=some L[i]:=List.getElem?_eq_getElem hil
  have hmr:=List.getElem_mem hil
  refine zI hS Xh encRq_len hv hx hil (i:=1) rfl ?_
  refine Gp ?_
  refine zc (λh=>hbad (.inr (.inr (.inr (.inr (.inr (.inr (.inr (.inr (.inr ⟨_,hmr,.inl h⟩))))))))) hS) (λh9=>?_)
  refine zI hS Xh encRq_len hv hx hil (i:=3) rfl ?_
  refine Gp ?_
  refine zc (λh=>hbad (.inr (.inr (.inr (.inr (.inr (.inr (.inr (.inr (.inr ⟨_,hmr,.inr h⟩))))))))) hS) (λh10=>?_)
  refine Gp ?_
  refine⟨⟨i+1,rfl,by omega,λj hj hji=>?_,hS⟩,by dsimp only;omega⟩
  rcases Nat.lt_or_ge j i with h11|h11
  ·exact hall j hj h11
  ·obtain rfl:j=i:=by omega
   exact⟨by omega,by omega⟩
 ·clear hbad
  refine Gb λb w hS=>?_
  have hS:SL W (.ob (OwnSl (.slice (some ⟨b,0,none⟩) 0 0) 125 7 0 [])::_) w:=OwnSl.full (n:=0) (sz:=7) (cells:=[]) rfl hS
  refine zz (n:=0) (m:=L.length) hS Xr (src_rd hS Xh hv) (flat_len encRq_len L) rfl (recs_one encRq_one L) (by omega) (by omega) λu w hS=>?_
  rw[List.nil_append,Nat.zero_add]at hS
  obtain⟨H1,h01,hR,hS⟩:=zG (H:=H) (v:=u) hS Xp
  have hu:u.oneCell'=true:=hR.one
  refine Gp ?_
  refine⟨_,rfl,zN hS λwp w hS=>?_⟩
  refine yq (cells:=[.int .i64 n,.int .i64 late,.int .i64 lsn,u,ptrA wp]) (by simp[fillL,show ∀n,(Value.int .i64 n).cells = #[.int .i64 n] from λ_=>rfl,show (Value.pointer (some ⟨wp,0,none⟩)).cells = #[ptrA wp] from rfl,one_cells hu]) ?_
  refine⟨_,rfl,zN hS λmp w hS=>?_⟩
  have hok:¬muxBad n late chunk lsn L:=by
   rintro (h|h|h|h|h|h|h|h|h|⟨r,hr,h⟩)
   ·exact h1 h
   ·exact h2 h
   ·exact h3 h
   ·rw[Int.toNat_natCast]at h;exact h4 h
   ·exact h7 h
   ·exact h8 h
   ·exact h5 h
   ·exact h6 h
   ·exact h hm
   ·obtain⟨j,hj,rfl⟩:=List.getElem_of_mem hr
    have:=hall j hj (by omega);omega
  have hS:=RWinO.put (wp:=wp) (H:=H1) (win0 chunk) (.slice none 0 0) (RdSl.nil _ _) hS Xr
  have hS:=RMuxO.put (wp:=wp) ⟨n,late,lsn,L,win0 chunk⟩ u hR hS Xp
  exact⟨_,.inr ⟨hok,mp,wp,H1,h01,rfl,rfl⟩,SL.into hS Xi⟩
theorem decTxnR_no{b:List UInt8}{l:List PFd}(h:decF b= .ok l)(h2:¬((txR ⟨l,false⟩).2.bad=false∧(txR ⟨l,false⟩).2.l=[]∧mayTx (txR ⟨l,false⟩).1=true)):decTxn b= .error 3:=by
 unfold decTxn;rw[h];simp only;rw[← decTR_eq];unfold decTR;simp only;rw[if_neg h2]
theorem decTxnR_is{b:List UInt8}{l:List PFd}(h:decF b= .ok l)(h2:(txR ⟨l,false⟩).2.bad=false∧(txR ⟨l,false⟩).2.l=[]∧mayTx (txR ⟨l,false⟩).1=true):decTxn b= .ok (txR ⟨l,false⟩).1:=by
 unfold decTxn;rw[h];simp only;rw[← decTR_eq];unfold decTR;simp only;rw[if_pos h2]
structure TxRR(l:List PFd)(lsn kind mark:Int)(r3:PRd):Prop where
 lsn:(txR ⟨l,false⟩).1.lsn=lsn
 kind:(txR ⟨l,false⟩).1.kind=kind
 mark:(txR ⟨l,false⟩).1.mark=mark
 ch:(txR ⟨l,false⟩).1.changes=(manyP chR (intR 16 r3).1.toNat (intR 16 r3).2).1
 sg:∀r4,(manyP chR (intR 16 r3).1.toNat (intR 16 r3).2).2=r4→(txR ⟨l,false⟩).1.signals=(manyP textP (intR 2 r4).1.toNat (intR 2 r4).2).1∧(txR ⟨l,false⟩).2=(manyP textP (intR 2 r4).1.toNat (intR 2 r4).2).2
theorem TxRR.is(l:List PFd):TxRR l (intR 1099511627776 ⟨l,false⟩).1 (intR 3 (intR 1099511627776 ⟨l,false⟩).2).1 (intR 1099511627776 (intR 3 (intR 1099511627776 ⟨l,false⟩).2).2).1 (intR 1099511627776 (intR 3 (intR 1099511627776 ⟨l,false⟩).2).2).2:=⟨rfl,rfl,rfl,rfl,λr4 h=>by subst h;exact⟨rfl,rfl⟩⟩
theorem qW(X:Chunk)(H:Heap)(v:Value)(bs:List UInt8)(hv:Rdb X v bs)(hN:bs.length≤140737488355328):SP 180 [v] [X,.mem H] (DecTQ X H bs):=by
 intro W F w hS;apply vc180;unfold Vc180;(try simp only[app]at hS)
 refine Gb λzb w hS=>?_
 (refine Cc (yM X v bs hv hN) ?_;clear hS)
 rintro r post hq w hS
 unfold DecQ at hq
 cases hd:decF bs with
 | error e=>
  rw[hd]at hq
  obtain⟨rfl,rfl⟩:=hq
  have he:=decF_er hd
  (try simp only[app]at hS);refine Gp ?_
  refine zc (λ_=>?_) (λh=>absurd he h)
  refine Gn λw hS=>?_
  exact⟨[X,.mem H],by unfold DecTQ;rw[decTxn_er hd];exact⟨he,H,Heap.le_refl H,rfl,rfl⟩,SL.into hS Xi⟩
 | ok l=>
  rw[hd]at hq
  obtain⟨lv,rfl,rfl⟩:=hq
  (try simp only[app]at hS)
  refine Gp ?_
  refine zc (λh=>absurd rfl h) (λ_=>?_)
  obtain⟨la,lc,rfl,_⟩:=OwnSl.at hS (v:=lv) .hd
  refine Gp ?_
  refine zJ hS λrp w hS=>?_
  have hS:=(RRdO.iff (r:=⟨l,false⟩)).2 ⟨_,l,0,⟨Nat.zero_le _,decF_len hd,rfl⟩,hS⟩
  (refine Cc (zO rp ⟨l,false⟩ 1099511627776) ?_;clear hS)
  rintro v1 post ⟨rfl,rfl⟩ w hS
  (try simp only[app]at hS)
  refine Gp ?_
  refine Gb λxb w hS=>?_
  (refine Cc (zO rp _ 3) ?_;clear hS)
  rintro v1 post ⟨rfl,rfl⟩ w hS
  refine Gn λw hS=>?_
  (refine Cc (zO rp _ 1099511627776) ?_;clear hS)
  rintro v1 post ⟨rfl,rfl⟩ w hS
  refine Gn λw hS=>?_
  have hI:=TxRR.is l
  generalize (intR 1099511627776 (intR 3 (intR 1099511627776 ⟨l,false⟩).2).2).1=mark at *
  generalize (intR 1099511627776 (intR 3 (intR 1099511627776 ⟨l,false⟩).2).2).2=r3 at *
  generalize (intR 3 (intR 1099511627776 ⟨l,false⟩).2).1=kind at *
  generalize (intR 1099511627776 ⟨l,false⟩).1=lsn at *
  have hn1:=intR_in (m:=16) (by decide) r3
  have hS:SL W (ChO (.slice none 0 0) []::_) _:=OwnSl.nil hS
  have hS:SL W (SgO (.slice none 0 0) []::_) _:=OwnSl.nil hS
  (refine Cc (zO rp r3 16) ?_;clear hS)
  rintro v1 post ⟨rfl,rfl⟩ w hS
  (try simp only[app]at hS)
  refine⟨λus w=>us=[]∧∃cv,SL W (ChO cv (manyP chR (intR 16 r3).1.toNat (intR 16 r3).2).1::.ob (RRdO rp (manyP chR (intR 16 r3).1.toNat (intR 16 r3).2).2)::SgO (.slice none 0 0) []::.pt xb [.int .i64 lsn,.int .i64 kind,cv,.slice none 0 0,.int .i64 mark] 39::ZTx zb::X::.mem H::F) w,?_,?_⟩
  ·generalize (intR 16 r3).1=n1 at *
   generalize (intR 16 r3).2=r2 at *
   refine⟨λus w=>∃(i k:Nat) (chs:List Chg) (r:PRd) (cv:Value),us=[.int .i64 i]∧n1=((i+k:Nat):Int)∧ManyAt chR n1.toNat r2 chs k r∧SL W (ChO cv chs::.ob (RRdO rp r)::SgO (.slice none 0 0) []::.pt xb [.int .i64 lsn,.int .i64 kind,cv,.slice none 0 0,.int .i64 mark] 39::ZTx zb::X::.mem H::F) w,
    λus _=>match us with|[.int _ i]=>(n1-i).toNat|_=>0,⟨0,n1.toNat,[],r2,.slice none 0 0,rfl,by omega,ManyAt.start _ _ _,SL.into hS Xi⟩,?_⟩
   clear hS
   rintro v8 w ⟨i,k,chs,r,cv,hus,hn,hM,hS⟩
   cases hus
   have hle:=hM.le
   refine Gp ?_
   refine zc (λh=>?_) (λh=>?_)
   ·refine Gp ?_
    refine RRdO.badAt (r:=r) (Has.front hS Xr) ?_
    refine Gp ?_
    refine zA (λhb=>?_) (λhb=>?_)
    ·obtain⟨k,rfl⟩:∃j,k=j+1:=⟨k-1,by omega⟩
     have hM:=hM.step hb
     refine Gn λw hS=>?_
     refine Cg (QX rp r) λw hS=>?_;refine Gm λb w hS=>?_
     refine yr (n:=chs.length) (xs:=chs) (y:=(chR r).1) (enc:=encChg) hS Xr Xh encChg_len (λx=>encChg_one x) rfl (by omega) (by omega) λu w hS=>?_
     have h1:=OwnSl.one hS
     refine Gn λw hS=>?_
     refine⟨⟨i+1,k,_,_,u,rfl,by omega,hM,?_⟩,by dsimp only;omega⟩
     have hS:=hS.snocL (x:=(chR r).1)
     exact SL.into hS Xi
    ·refine⟨rfl,cv,?_⟩
     rw[hM.stop (.inr hb)];exact SL.into hS Xi
   ·refine⟨rfl,cv,?_⟩
    rw[hM.stop (.inl (by omega))];exact SL.into hS Xi
  ·clear hS
   rintro w ⟨_,cv,hS⟩
   have hch:=hI.ch
   obtain⟨hsgn,hrd⟩:=hI.sg _ rfl
   generalize (manyP chR (intR 16 r3).1.toNat (intR 16 r3).2).1=chs at *
   generalize (manyP chR (intR 16 r3).1.toNat (intR 16 r3).2).2=r4 at *
   have hn2:=intR_in (m:=2) (by decide) r4
   (refine Cc (zO rp r4 2) ?_;clear hS)
   rintro v1 post ⟨rfl,rfl⟩ w hS
   (try simp only[app]at hS)
   refine⟨λus w=>us=[]∧∃sv,SL W (SgO sv (manyP textP (intR 2 r4).1.toNat (intR 2 r4).2).1::.ob (RRdO rp (manyP textP (intR 2 r4).1.toNat (intR 2 r4).2).2)::ChO cv chs::.pt xb [.int .i64 lsn,.int .i64 kind,cv,sv,.int .i64 mark] 39::ZTx zb::X::.mem H::F) w,?_,?_⟩
   ·generalize (intR 2 r4).1=n1 at *
    generalize (intR 2 r4).2=r2 at *
    refine⟨λus w=>∃(i k:Nat) (sgs:List ByteArray) (r:PRd) (sv:Value),us=[.int .i64 i]∧n1=((i+k:Nat):Int)∧ManyAt textP n1.toNat r2 sgs k r∧SL W (SgO sv sgs::.ob (RRdO rp r)::ChO cv chs::.pt xb [.int .i64 lsn,.int .i64 kind,cv,sv,.int .i64 mark] 39::ZTx zb::X::.mem H::F) w,
     λus _=>match us with|[.int _ i]=>(n1-i).toNat|_=>0,⟨0,n1.toNat,[],r2,.slice none 0 0,rfl,by omega,ManyAt.start _ _ _,SL.into hS Xi⟩,?_⟩
    clear hS
    rintro v8 w ⟨i,k,sgs,r,sv,hus,hn,hM,hS⟩
    cases hus
    have hle:=hM.le
    refine Gp ?_
    refine zc (λh=>?_) (λh=>?_)
    ·refine Gp ?_
     refine RRdO.badAt (r:=r) (Has.front hS Xr) ?_
     refine Gp ?_
     refine zA (λhb=>?_) (λhb=>?_)
     ·obtain⟨k,rfl⟩:∃j,k=j+1:=⟨k-1,by omega⟩
      have hM:=hM.step hb
      refine Gn λw hS=>?_
      refine Cg (yX rp r) λw hS=>?_;refine Gm λb w hS=>?_
      refine yr (n:=sgs.length) (xs:=sgs) (y:=(textP r).1) (enc:=λs=>[Value.string s]) hS Xr Xh (λ_=>rfl) (by simp[Value.oneCell']) rfl (by omega) (by omega) λu w hS=>?_
      have h1:=OwnSl.one hS
      refine Gn λw hS=>?_
      refine⟨⟨i+1,k,_,_,u,rfl,by omega,hM,?_⟩,by dsimp only;omega⟩
      have hS:=hS.snocL (x:=(textP r).1)
      exact SL.into hS Xi
     ·refine⟨rfl,sv,?_⟩
      rw[hM.stop (.inr hb)];exact SL.into hS Xi
    ·refine⟨rfl,sv,?_⟩
     rw[hM.stop (.inl (by omega))];exact SL.into hS Xi
   ·clear hS
    rintro w ⟨_,sv,hS⟩
    generalize (manyP textP (intR 2 r4).1.toNat (intR 2 r4).2).1=sgs at *
    generalize (manyP textP (intR 2 r4).1.toNat (intR 2 r4).2).2=r at *
    have hlsn:=hI.lsn
    have hkind:=hI.kind
    have hmark:=hI.mark
    clear hI
    generalize ht:(txR ⟨l,false⟩).1=t at *
    generalize hr:(txR ⟨l,false⟩).2=r' at *
    subst hrd hch hsgn
    obtain⟨H1,h01,hO,hS⟩:=OwnSl.freeze (SL.into hS (t:=.mem H::ChO cv t.changes::SgO sv t.signals::.ob (RRdO rp r')::.pt xb [.int .i64 lsn,.int .i64 kind,cv,sv,.int .i64 mark] 39::ZTx zb::X::F) Xi)
    obtain⟨H2,h12,hN2,hS⟩:=OwnSl.freeze hS
    rw[strs_flat]at hN2
    have hx:TxIs H2 ⟨lsn,kind,cv,sv,mark⟩ t:=⟨hlsn.symm,hkind.symm,hmark.symm,hO.mono h12,hN2⟩
    have h02:=Heap.le_trans h01 h12
    have hc1:=hO.one
    have hc2:=hN2.one
    refine Cg (Yi rp r') λw hS=>?_
    have hno:¬(r'.bad=false∧r'.l=[]∧mayTx t=true)→∀{w:World},SL W (X::.mem H2::F) w→∃post,DecTQ X H bs (.tuple #[agg (encTx zTx),.int .i64 3]) post∧SL W (app post F) w:=λh w hS=>⟨[X,.mem H2],by unfold DecTQ;rw[decTxnR_no hd (by rw[ht,hr];exact h)];exact⟨by decide,H2,h02,rfl,rfl⟩,hS⟩
    refine zA (λhb=>?_) (λhb=>?_)
    ·have hb:=of_decide_eq_false hb
     refine Gn λw hS=>?_
     exact hno (λh=>hb ⟨h.1,h.2.1⟩) (SL.into hS Xi)
    ·have hb:=of_decide_eq_true hb
     refine Gp ?_
     refine Cg (yW H2 ⟨lsn,kind,cv,sv,mark⟩ t hx) λw hS=>?_
     refine zA (λhm=>?_) (λhm=>?_)
     ·refine Gn λw hS=>?_
      exact hno (λh=>by rw[h.2.2]at hm;cases hm) (SL.into hS Xi)
     ·refine Gp ?_
      refine zL (vs:=encTx ⟨lsn,kind,cv,sv,mark⟩) hS Xu rfl rfl (encTx_one1 hc1 hc2) λw hS=>?_
      refine Gp ?_
      exact⟨[X,.mem H2],by unfold DecTQ;rw[decTxnR_is hd (by rw[ht,hr];exact⟨hb.1,hb.2,hm⟩),ht];exact⟨⟨lsn,kind,cv,sv,mark⟩,H2,h02,rfl,hx,rfl⟩,SL.into hS Xi⟩
theorem SL.lend{W w:World}{l:List Chunk}{H:Heap}{b:Nat}{cs:List Value}{t:TypeId}(h:SL W (.mem H::.pt b cs t::l) w):∃H',H.le H'∧(∀o v,cs[o]?=some v→H'.cell b o=some v)∧SL W (.mem H'::l) w∧∀{W':World} {l':List Chunk} {w':World},SL W' (.mem H'::l') w'→SL W' (.mem H::.pt b cs t::l') w':=by
 obtain⟨a1,a2,a3,k,⟨h1,h2,s,e1,h3,h4,s',⟨f,hf,e3⟩,r⟩,m⟩:=h
 have e1:h1=H:=e1
 subst e1 e3
 obtain⟨k',x,y⟩:=s.join s'
 refine⟨k',λb o e=>y.left b o e,λo v e=>?_,⟨a1,a2,a3,k,⟨k',h4,x,rfl,r⟩,m⟩,?_⟩
 ·have:k' b=some (.cells cs.toArray t f):=y.right b _ (by simp[Heap.one])
  simp[Heap.cell,this,e]
 ·rintro W' l' w' ⟨c1,c2,c3,kk,⟨q1,q2,sq,e4,rq⟩,mq⟩
  have e4:q1=k':=e4
  subst e4
  obtain⟨j,u,v⟩:=sq.assoc y
  exact⟨c1,c2,c3,kk,⟨_,j,u,rfl,_,q2,v,⟨f,hf,rfl⟩,rq⟩,mq⟩
theorem s_lend{W w:World}{l F:List Chunk}{H:Heap}{v:Value}{t:TypeId}{sz n:Nat}{cells:List Value}(hS:SL W l w)(hp:Pick [.mem H,.ob (OwnSl v t sz n cells)] l F):
  ∃H',H.le H'∧RdSl H' sz v n cells∧SL W (.mem H'::F) w∧∀{W':World} {l':List Chunk} {w':World},SL W' (.mem H'::l') w'→SL W' (.mem H::.ob (OwnSl v t sz n cells)::l') w':=by
 have h:=hS.pick hp
 rcases OwnSl.open (h.perm (.swap _ _ _)) with ⟨⟨a,rfl⟩,rfl,rfl,hS⟩|⟨b,cap,rest,rfl,hc,hlen,hrest,hS⟩
 ·exact⟨H,Heap.le_refl H,⟨by simp,a,0,rfl,Nat.le_refl _,.inl rfl⟩,hS,λh2=>(OwnSl.nil0 h2).perm (.swap _ _ _)⟩
 ·obtain⟨H',h1,h2,h3,h4⟩:=SL.lend (hS.perm (.swap _ _ _))
  refine⟨H',h1,⟨hlen,_,cap,rfl,hc,.inr ⟨b,0,rfl,λj u hu=>?_⟩⟩,h3,λh5=>?_⟩
  ·rw[Nat.zero_add]
   refine h2 j u ?_
   rw[List.getElem?_append_left (List.getElem?_eq_some_iff.1 hu).1];exact hu
  ·exact (OwnSl.mk hc hlen hrest ((h4 h5).perm (.swap _ _ _))).perm (.swap _ _ _)
theorem Zh(H:Heap)(v:Value)(lsn:Int)(ts:List (List Row))(hv:RdTs H v ts)(hn:ts.length≤140737488351232)(hc:∀C∈ts,C.length≤140737488351232):SP 91 [.int .i64 lsn,v] [.mem H] (Gives (.bool (mayImg lsn ts)) [.mem H]):=by
 intro W F w hS;apply vc91;unfold Vc91;(try simp only[app]at hS)
 have hF:∀{w:World},¬(0≤lsn∧lsn≤1099511627776∧1≤ts.length∧ts.length≤8)→SL W (.mem H::F) w→∃post,Gives (.bool (mayImg lsn ts)) [.mem H] (.bool false) post∧SL W (app post F) w:=λhno hS=>⟨_,⟨by unfold mayImg;rw[decide_eq_false hno];rfl,rfl⟩,hS⟩
 refine Gp ?_
 refine zc (λh=>hF (by omega) hS) (λh1=>?_)
 refine Gp ?_
 refine zc (λh=>hF (by omega) hS) (λh2=>?_)
 refine yn hv ?_
 refine Gp ?_
 refine zc (λh=>hF (by omega) hS) (λh3=>?_)
 refine yn hv ?_
 refine Gp ?_
 refine zc (λh=>hF (by omega) hS) (λh4=>?_)
 have hM:mayImg lsn ts=ts.all mayRw:=by unfold mayImg;rw[decide_eq_true (show 0≤lsn∧lsn≤1099511627776∧1≤ts.length∧ts.length≤8 by omega)];rfl
 refine⟨λus w=>∃i:Nat,us=[.int .i64 i]∧i≤ts.length∧(∀j (h:j<ts.length),j<i→mayRw ts[j]=true)∧SL W (.mem H::F) w,λus _=>match us with|[.int _ i]=>(ts.length-i).toNat|_=>0,⟨0,rfl,by omega,λj h hj=>by omega,hS⟩,?_⟩
 clear hS
 rintro v5 w ⟨i,hus,hi,hall,hS⟩
 cases hus
 refine yn hv ?_
 refine Gp ?_
 refine zc (λh=>?_) (λh=>?_)
 ·have hil:i<ts.length:=by omega
  refine YE hS Xh hv hil λcv hcv=>?_
  have hCl:=hc _ (List.getElem_mem hil)
  have hno:∀{w:World},mayRw ts[i]=false→SL W (.mem H::F) w→∃post,Gives (.bool (mayImg lsn ts)) [.mem H] (.bool false) post∧SL W (app post F) w:=λhb hS=>
   ⟨_,⟨by rw[hM,show ts.all mayRw=false from List.all_eq_false.2 ⟨_,List.getElem_mem hil,by rw[hb];decide⟩],rfl⟩,hS⟩
  have hyes:mayRw ts[i]=true→∀j (h:j<ts.length),j<i+1→mayRw ts[j]=true:=λhb j hj hji=>by
   by_cases e:j=i
   ·subst e;exact hb
   ·exact hall j hj (by omega)
  generalize ts[i]=C at *
  refine zn hcv ?_
  refine Gp ?_
  refine zc (λh5=>hno (by unfold mayRw;rw[decide_eq_false (show ¬C.length≤1000 by omega),Bool.and_false]) hS) (λh5=>?_)
  refine⟨λus w=>∃(j:Nat) (k:Int),us=[.int .i64 j]∧j≤C.length∧0≤k∧(∀(h:0<j) (h2:j≤C.length),k=(C[j-1]'(by omega)).key)∧(j=0→k=0)∧riseR 0 C=riseR k (C.drop j)∧SL W (.mem H::F) w,
   λus _=>match us with|[.int _ i]=>(C.length-i).toNat|_=>0,⟨0,0,rfl,by omega,Int.le_refl _,λh=>absurd h (by decide),λ_=>rfl,rfl,hS⟩,?_⟩
  clear hS
  rintro v7 w ⟨j,k,hus,hj,hk0,hkj,hk00,hr,hS⟩
  cases hus
  refine zn hcv ?_
  refine Gp ?_
  refine zc (λh=>?_) (λh=>?_)
  ·have hjl:j<C.length:=by omega
   rw[List.drop_eq_getElem_cons hjl,riseR]at hr
   have hx:C[j]?=some C[j]:=List.getElem?_eq_getElem hjl
   have hFr:∀{w:World},¬(k<C[j].key∧C[j].key≤1099511627776∧C[j].val.size≤32)→SL W (.mem H::F) w→∃post,Gives (.bool (mayImg lsn ts)) [.mem H] (.bool false) post∧SL W (app post F) w:=λhn hS=>
    hno (by unfold mayRw;rw[hr,decide_eq_false hn];rfl) hS
   have hnext:∀{w:World},(k<C[j].key∧C[j].key≤1099511627776∧C[j].val.size≤32)→SL W (.mem H::F) w→∃(j':Nat) (k':Int),[Value.int .i64 ((j+1:Nat):Int)]=[.int .i64 j']∧j'≤C.length∧0≤k'∧(∀(h:0<j') (h2:j'≤C.length),k'=(C[j'-1]'(by omega)).key)∧(j'=0→k'=0)∧riseR 0 C=riseR k' (C.drop j')∧SL W (.mem H::F) w:=λhn hS=>
    ⟨j+1,C[j].key,rfl,by omega,by omega,λ_ _=>rfl,λh=>by omega,by rw[hr,decide_eq_true hn];rfl,hS⟩
   refine Gn λw hS=>?_
   refine zI hS Xh encRow_len hcv hx hjl (i:=0) rfl ?_
   refine Gp ?_
   refine zc (λh=>hFr (by omega) hS) (λh6=>?_)
   refine zI hS Xh encRow_len hcv hx hjl (i:=0) rfl ?_
   refine Gp ?_
   refine zc (λh=>hFr (by omega) hS) (λh7=>?_)
   refine zI hS Xh encRow_len hcv hx hjl (i:=1) rfl ?_
   refine Gp ?_
   refine zc (λh=>hFr (by omega) hS) (λh8=>?_)
   refine Gp ?_
   refine zc (λh9=>?_) (λh9=>?_)
   ·have hjp:j-1<C.length:=by omega
    have hp:=hkj (by omega) hj
    refine zI hS Xh encRow_len hcv hx hjl (i:=0) rfl ?_
    refine Gp ?_
    rw[show ((j:Nat):Int)-1=((j-1:Nat):Int) by omega]
    refine zI hS Xh encRow_len hcv (x:=C[j-1]) (List.getElem?_eq_getElem hjp) hjp (i:=0) rfl ?_
    refine Gp ?_
    refine zc (λh=>hFr (by omega) hS) (λh10=>?_)
    refine Gp ?_
    exact⟨hnext (by omega) (SL.into hS Xi),by dsimp only;omega⟩
   ·have hp:=hk00 (by omega)
    refine Gp ?_
    exact⟨hnext (by omega) (SL.into hS Xi),by dsimp only;omega⟩
  ·have hje:j=C.length:=by omega
   subst hje
   rw[List.drop_length]at hr
   refine Gp ?_
   exact⟨⟨i+1,rfl,by omega,hyes (by unfold mayRw;rw[hr,decide_eq_true (show C.length≤1000 by omega)];rfl),SL.into hS Xi⟩,by dsimp only;omega⟩
 ·refine⟨_,⟨?_,rfl⟩,hS⟩
  rw[hM,show ts.all mayRw=true from List.all_eq_true.2 λC hC=>by
   obtain⟨j,hj,rfl⟩:=List.getElem_of_mem hC
   exact hall j hj (by omega)]
theorem fIB_t{lsn:Int}{ts:List (List Row)}{i:Nat}{C:List Row}{j:Nat}(h:j<C.length):fIB lsn ts i C (j+1)=fIB lsn ts i C j++[iF C[j].key,tF C[j].val]:=by
 rw[fIB_s h,List.append_assoc];rfl
theorem rimenc_spec(H:Heap)(v:Value)(lsn:Int)(ts:List (List Row))(hv:RdTs H v ts)(hn:ts.length≤140737488351232)(hc:∀C∈ts,C.length≤140737488351232):SP 32 [.int .i64 lsn,v] [.mem H] (EncImQ H lsn ts):=by
 intro W F w hS;apply vc32;unfold Vc32;(try simp only[app]at hS)
 refine Cg (Zh H v lsn ts hv hn hc) λw hS=>?_
 refine zA (λh=>?_) (λhm=>?_)
 ·exact⟨[.mem H],by unfold EncImQ encImg;rw[if_neg (by rw[h];decide)];exact⟨rfl,rfl⟩,SL.into hS Xi⟩
 obtain⟨hb,hT⟩:=mayImg_iff.1 hm
 have hT1:∀C∈ts,C.length≤1000:=λC hC=>(hT C hC).len
 have h8:ts.length*2001≤8*2001:=Nat.mul_le_mul_right _ (by omega)
 obtain⟨vs,hv1,hv2⟩:=id hv
 refine Cg (zM lsn) λw hS=>?_
 refine yn hv ?_
 refine Cg (zM ts.length) λw hS=>?_
 refine zB hS (fill2F (iF lsn) (iF ts.length)) λb w hS=>?_
 have hS:=OwnSl.full (n:=2) (sz:=3) rfl hS
 have hS:SL W (FdO _ (fIA lsn ts 0)::_) _:=hS
 refine⟨λus w=>∃(i:Nat) (u:Value),us=[u,.int .i64 i]∧i≤ts.length∧SL W (FdO u (fIA lsn ts i)::.mem H::F) w,λus _=>match us with|[_,.int _ i]=>(ts.length-i).toNat|_=>0,⟨0,_,rfl,by omega,SL.into hS Xi⟩,?_⟩
 clear hS
 rintro u v7 w ⟨i,_,hus,hi,hS⟩
 cases hus
 have hAl:=fIA_len (lsn:=lsn) hT1 i
 refine yn hv ?_
 refine Gp ?_
 refine zc (λh=>?_) (λh=>?_)
 ·have hil:i<ts.length:=by omega
  have hs:=fIA_s (lsn:=lsn) hil
  have hCl:=hT1 _ (List.getElem_mem hil)
  have hil2:i<vs.length:=by rw[hv2.1];exact hil
  have hu:vs[i]?=some vs[i]:=List.getElem?_eq_getElem hil2
  have hcv:=hv2.2 i _ _ hu (List.getElem?_eq_getElem hil)
  generalize vs[i]=cv at *
  generalize ts[i]=C at *
  refine yP hS Xh hv1 hil hu ?_
  refine zn hcv ?_
  refine Cg (zM C.length) λw hS=>?_;refine Gm λb w hS=>?_
  refine yy (L:=fIA lsn ts i) (M:=[iF C.length]) hS Xr (src_fd1 hS Xh) (by simp;omega) λu3 w hS=>?_
  have hS:SL W (FdO u3 (fIB lsn ts i C 0)::_) _:=hS
  refine⟨λus w=>∃(j:Nat) (u:Value),us=[u,.int .i64 j]∧j≤C.length∧SL W (FdO u (fIB lsn ts i C j)::.mem H::F) w,λus _=>match us with|[_,.int _ i]=>(C.length-i).toNat|_=>0,⟨0,_,rfl,by omega,SL.into hS Xi⟩,?_⟩
  clear hS
  rintro u v8 w ⟨j,_,hus,hj,hS⟩
  cases hus
  have hBl:=fIB_len (lsn:=lsn) hT1 i hCl j
  refine yP hS Xh hv1 hil hu ?_
  refine zn hcv ?_
  refine Gp ?_
  refine zc (λh=>?_) (λh=>?_)
  ·have hjl:j<C.length:=by omega
   have hs2:=fIB_t (lsn:=lsn) (ts:=ts) (i:=i) hjl
   have hx:C[j]?=some C[j]:=List.getElem?_eq_getElem hjl
   generalize C[j]=r at *
   obtain⟨rk,rv⟩:=r
   refine Gn λw hS=>?_
   refine yP hS Xh hv1 hil hu ?_
   refine zI hS Xh encRow_len hcv hx hjl (i:=0) rfl ?_
   refine Zs hv1 hil λb1 o1 hb1=>?_
   have hc1:=hb1 0 cv (by omega) (by simpa using hu)
   refine Zz hS Xh hc1 ?_
   refine Zs hcv hjl λb2 o2 hb2=>zS ?_
   have hc2:=hb2 1 (.string rv) (by omega) (flat_at encRow_len C j 1 _ _ hx rfl)
   refine Zz hS Xh hc2 ?_
   refine Cg (zM rk) λw hS=>?_
   refine Zz hS Xh hc1 (YG ?_)
   refine Zz hS Xh hc2 (YG ?_)
   refine Cg (y5 rv) λw hS=>?_
   refine zB hS (fill2F (iF rk) (tF rv)) λb w hS=>?_
   refine yy (L:=fIB lsn ts i C j) (M:=[iF rk,tF rv]) hS Xr (src_pt0 (m:=2) (sz:=3) (cap:=2) hS Xh rfl) (by simp;omega) λu5 w hS=>?_
   refine Gp ?_
   refine⟨⟨j+1,_,rfl,by omega,?_⟩,by dsimp only;omega⟩
   rw[hs2]
   exact SL.into hS Xi
  ·obtain rfl:j=C.length:=by omega
   refine Gp ?_
   refine⟨⟨i+1,_,rfl,by omega,?_⟩,by dsimp only;omega⟩
   rw[hs]
   exact SL.into hS Xi
 ·obtain rfl:i=ts.length:=by omega
  rw[fIA_e]at hS hAl
  (refine Cc (yN (FdO u (fdsImg lsn ts)) u (fdsImg lsn ts) Rdn.own (by omega)) ?_;clear hS)
  rintro r post hq w hS
  (try simp only[app]at hS)
  have he:=(imgB_ok hm).1
  have hl:=imgB_len hm
  unfold EncQ at hq
  rw[he]at hq
  obtain⟨bv,rfl,rfl⟩:=hq
  (try simp only[app]at hS);refine Gp ?_
  (refine Cc (Zr _ bv (imgB lsn ts) Rdb.own (by omega)) ?_;clear hS)
  rintro r post hq w hS
  (try simp only[app]at hS)
  unfold PutQ at hq
  rw[if_neg (by omega)]at hq
  obtain⟨ov,rfl,rfl⟩:=hq
  (try simp only[app]at hS);refine Gp ?_
  exact⟨_,by unfold EncImQ encImg;rw[if_pos hm];exact⟨ov,rfl,rfl⟩,SL.into hS Xi⟩
def RDecImQ(X:Chunk)(H:Heap)(b:List UInt8)(u:Value)(post:List Chunk):Prop:=match decImg b with
 | none=>u= .tuple #[.int .i64 0,.slice none 0 0,.int .i64 3]∧∃H',H.le H'∧post=[X,.mem H']
 | some x=>∃v vs H',H.le H'∧Rd2 H' vs x.2∧u= .tuple #[.int .i64 x.1,v,.int .i64 0]∧post=[.ob (OwnSl v 53 1 x.2.length vs),X,.mem H']
theorem imgIR_no{l:List PFd}(h:¬((imgR ⟨l,false⟩).2.bad=false∧(imgR ⟨l,false⟩).2.l=[]∧mayImg (imgR ⟨l,false⟩).1.1 (imgR ⟨l,false⟩).1.2=true)):imgI l=none:=by
 rw[← imgIR_eq];unfold imgIR;simp only;rw[if_neg h]
theorem imgIR_is{l:List PFd}(h:(imgR ⟨l,false⟩).2.bad=false∧(imgR ⟨l,false⟩).2.l=[]∧mayImg (imgR ⟨l,false⟩).1.1 (imgR ⟨l,false⟩).1.2=true):imgI l=some (imgR ⟨l,false⟩).1:=by
 rw[← imgIR_eq];unfold imgIR;simp only;rw[if_pos h]
structure ImRR(l:List PFd)(lsn:Int)(r1:PRd):Prop where
 lsn:(imgR ⟨l,false⟩).1.1=lsn
 ts:(imgR ⟨l,false⟩).1.2=(manyP tabR (intR 8 r1).1.toNat (intR 8 r1).2).1
 rd:(imgR ⟨l,false⟩).2=(manyP tabR (intR 8 r1).1.toNat (intR 8 r1).2).2
theorem ImRR.is(l:List PFd):ImRR l (intR 1099511627776 ⟨l,false⟩).1 (intR 1099511627776 ⟨l,false⟩).2:=⟨rfl,rfl,rfl⟩
theorem tabR_eq(r:PRd):tabR r=manyP rowR (intR 1000 r).1.toNat (intR 1000 r).2:=rfl
theorem Y9(X:Chunk)(H:Heap)(v:Value)(bs:List UInt8)(hv:Rdb X v bs)(hN:bs.length≤140737488355328):SP 178 [v] [X,.mem H] (RDecImQ X H bs):=by
 intro W F w hS;apply vc178;unfold Vc178;(try simp only[app]at hS)
 have hno:decImg bs=none→∀{w:World} {H':Heap},H.le H'→SL W (X::.mem H'::F) w→∃post,RDecImQ X H bs (.tuple #[.int .i64 0,.slice none 0 0,.int .i64 3]) post∧SL W (app post F) w:=λh w H' hh hS=>⟨[X,.mem H'],by unfold RDecImQ;rw[h];exact⟨rfl,H',hh,rfl⟩,hS⟩
 (refine Cc (ZT X v bs hv hN) ?_;clear hS)
 rintro r post hq w hS
 unfold TakeQ at hq
 cases ht:takeR bs with
 | error e=>
  rw[ht]at hq
  obtain⟨rfl,rfl⟩:=hq
  have hd:decImg bs=none:=by unfold decImg;rw[ht]
  have he:e≠0:=by have:=takeR_err ht;omega
  (try simp only[app]at hS);refine Gp ?_
  exact zc (λ_=>hno hd (Heap.le_refl H) (SL.into hS Xi)) (λh=>absurd he h)
 | ok pn=>
  obtain⟨p,n⟩:=pn
  rw[ht]at hq
  obtain⟨pv,rfl,rfl⟩:=hq
  (try simp only[app]at hS);refine Gp ?_
  refine zc (λh=>absurd rfl h) (λ_=>?_)
  refine zH hS Xh hv ?_
  refine Gp ?_
  refine zc (λh=>?_) (λh=>?_)
  ·have hd:decImg bs=none:=by unfold decImg;rw[ht];simp only;rw[if_neg (by omega)]
   exact hno hd (Heap.le_refl H) (SL.into hS Xi)
  have hnb:n=bs.length:=by omega
  have hpl:p.length≤140737488355328:=by have:=takeR_len ht;omega
  (refine Cc (yM _ pv p Rdb.own hpl) ?_;clear hS)
  rintro r post hq w hS
  unfold DecQ at hq
  cases hd:decF p with
  | error e=>
   rw[hd]at hq
   obtain⟨rfl,rfl⟩:=hq
   have he:=decF_er hd
   have hd:decImg bs=none:=by unfold decImg;rw[ht];simp only;rw[if_pos hnb,hd]
   (try simp only[app]at hS);refine Gp ?_
   exact zc (λ_=>hno hd (Heap.le_refl H) (SL.into hS Xi)) (λh=>absurd he h)
  | ok l=>
   rw[hd]at hq
   obtain⟨lv,rfl,rfl⟩:=hq
   have hI:=decImg_eq ht hnb hd
   (try simp only[app]at hS)
   refine Gp ?_
   refine zc (λh=>absurd rfl h) (λ_=>?_)
   obtain⟨la,lc,rfl,_⟩:=OwnSl.at hS (v:=lv) (t:=174) (sz:=3) (n:=l.length) (cells:=(l.map fdcells).flatten) Xh
   have hS:=SL.into hS (t:=FdO (.slice la l.length lc) l::X::.mem H::F) Xi
   refine Gp ?_
   refine zJ hS λrp w hS=>?_
   have hS:=(RRdO.iff (r:=⟨l,false⟩)).2 ⟨_,l,0,⟨Nat.zero_le _,decF_len hd,rfl⟩,hS⟩
   (refine Cc (zO rp ⟨l,false⟩ 1099511627776) ?_;clear hS)
   rintro v1 post ⟨rfl,rfl⟩ w hS
   (try simp only[app]at hS)
   have hR:=ImRR.is l
   generalize (intR 1099511627776 ⟨l,false⟩).1=lsn at *
   generalize (intR 1099511627776 ⟨l,false⟩).2=r1 at *
   have hn1:=intR_in (m:=8) (by decide) r1
   (refine Cc (zO rp r1 8) ?_;clear hS)
   rintro v1 post ⟨rfl,rfl⟩ w hS
   (try simp only[app]at hS)
   have hts:=hR.ts
   have hrd:=hR.rd
   generalize (intR 8 r1).1=n1 at *
   generalize (intR 8 r1).2=r2 at *
   have hS:SL W (.ob (OwnSl (.slice none 0 0) 53 1 ([]:List (List Row)).length [])::_) _:=OwnSl.nil hS
   refine⟨λus w=>∃(i k:Nat) (ts:List (List Row)) (r:PRd) (tv:Value) (vs:List Value) (H':Heap),us=[tv,.int .i64 i]∧n1=((i+k:Nat):Int)∧ManyAt tabR n1.toNat r2 ts k r∧(∀C∈ts,C.length≤1000)∧H.le H'∧Rd2 H' vs ts∧SL W (.ob (OwnSl tv 53 1 ts.length vs)::.ob (RRdO rp r)::X::.mem H'::F) w,
    λus _=>match us with|[_,.int _ i]=>(n1-i).toNat|_=>0,⟨0,n1.toNat,[],r2,.slice none 0 0,[],H,rfl,by omega,ManyAt.start _ _ _,by simp,Heap.le_refl H,Rd2.nil H,SL.into hS Xi⟩,?_⟩
   clear hS
   rintro tv v13 w ⟨i,k,ts,r,_,vs,H',hus,hn,hM,hCl,hh,hR2,hS⟩
   cases hus
   have hle:=hM.le
   have hend:∀{w:World},(k=0∨r.bad=true)→SL W (.ob (OwnSl tv 53 1 ts.length vs)::.ob (RRdO rp r)::X::.mem H'::F) w →
     HCl 246 [.pointer (some ⟨rp,0,none⟩)] w λv87 w_20=>zu v87 λv88=>HIf v88
      (∃post,RDecImQ X H bs (.tuple #[.int .i64 0,.slice none 0 0,.int .i64 3]) post∧SL W (app post F) w_20)
      (HCl 91 [.int .i64 lsn,tv] w_20 λv92 w_21=>zu v92 λv93=>HIf v93
       (∃post,RDecImQ X H bs (.tuple #[.int .i64 0,.slice none 0 0,.int .i64 3]) post∧SL W (app post F) w_21)
       (∃post,RDecImQ X H bs (.tuple #[.int .i64 lsn,tv,.int .i64 0]) post∧SL W (app post F) w_21)):=by
    intro w hk hS
    rw[hM.stop hk]at hts hrd
    have hts:(imgR ⟨l,false⟩).1.2=ts:=hts
    have hrd:(imgR ⟨l,false⟩).2=r:=hrd
    have hlsn:=hR.lsn
    refine Cg (Yi rp r) λw hS=>?_
    refine zA (λhb=>?_) (λhb=>?_)
    ·have hb:=of_decide_eq_false hb
     exact hno (by rw[hI];exact imgIR_no λh=>hb ⟨by rw[← hrd];exact h.1,by rw[← hrd];exact h.2.1⟩) hh (SL.into hS Xi)
    ·have hb:=of_decide_eq_true hb
     obtain⟨H2,h12,hO,hS,hback⟩:=s_lend (H:=H') (v:=tv) hS Xp
     have hT:RdTs H2 tv ts:=⟨vs,hO,hR2.mono h12⟩
     refine Cg (Zh H2 tv lsn ts hT (by omega) (λC hC=>by have:=hCl C hC;omega)) λw hS=>?_
     have hS:=hback (SL.into hS (t:=.mem H2::X::F) Xi)
     refine zA (λhm=>?_) (λhm=>?_)
     ·exact hno (by rw[hI];exact imgIR_no λh=>by rw[hlsn,hts,hm]at h;cases h.2.2) hh (SL.into hS Xi)
     ·have he:=imgIR_is (l:=l) ⟨by rw[hrd];exact hb.1,by rw[hrd];exact hb.2,by rw[hlsn,hts];exact hm⟩
      refine⟨[.ob (OwnSl tv 53 1 ts.length vs),X,.mem H'],?_,SL.into hS Xi⟩
      unfold RDecImQ
      rw[hI,he]
      simp only
      rw[hlsn,hts]
      exact⟨tv,vs,H',hh,hR2,rfl,rfl⟩
   refine Gp ?_
   refine zc (λh=>?_) (λh=>hend (.inl (by omega)) hS)
   refine Gp ?_
   refine RRdO.badAt (r:=r) (Has.front hS Xr) ?_
   refine Gp ?_
   refine zA (λhb=>?_) (λhb=>hend (.inr hb) hS)
   clear hend
   obtain⟨k,rfl⟩:∃j,k=j+1:=⟨k-1,by omega⟩
   have hM:=hM.step hb
   rw[tabR_eq]at hM
   have hn2:=intR_in (m:=1000) (by decide) r
   (refine Cc (zO rp r 1000) ?_;clear hS)
   rintro v1 post ⟨rfl,rfl⟩ w hS
   (try simp only[app]at hS)
   generalize (intR 1000 r).1=n2 at *
   generalize (intR 1000 r).2=r5 at *
   have hS:SL W (RwO (.slice none 0 0) []::_) _:=OwnSl.nil hS
   refine⟨λus w=>∃(a c:Nat) (rs:List Row) (r':PRd) (rv:Value),us=[rv,.int .i64 a]∧n2=((a+c:Nat):Int)∧ManyAt rowR n2.toNat r5 rs c r'∧SL W (RwO rv rs::.ob (RRdO rp r')::.ob (OwnSl tv 53 1 ts.length vs)::X::.mem H'::F) w,
    λus _=>match us with|[_,.int _ i]=>(n2-i).toNat|_=>0,⟨0,n2.toNat,[],r5,.slice none 0 0,rfl,by omega,ManyAt.start _ _ _,SL.into hS Xi⟩,?_⟩
   clear hS
   rintro rv v16 w ⟨a,c,rs,r',_,hus,hn3,hM2,hS⟩
   cases hus
   have hle2:=hM2.le
   have hfin:∀{w:World},(c=0∨r'.bad=true)→SL W (RwO rv rs::.ob (RRdO rp r')::.ob (OwnSl tv 53 1 ts.length vs)::X::.mem H'::F) w →
     ∃H2,H'.le H2∧RdSl H2 2 rv rs.length (rs.map encRow).flatten∧rs.length≤1000∧ManyAt tabR n1.toNat r2 (ts++[rs]) k r'∧SL W (.mem H2::.ob (RRdO rp r')::.ob (OwnSl tv 53 1 ts.length vs)::X::F) w:=λhk hS=>by
    obtain⟨H2,h12,hO,hS⟩:=zG (H:=H') (v:=rv) hS Xp
    refine⟨H2,h12,hO,by omega,?_,SL.into hS Xi⟩
    rw[hM2.stop hk]at hM
    exact hM
   have hstep:∀{w:World} {H2:Heap} {u:Value} {cells:List Value},H'.le H2→RdSl H2 2 rv rs.length (rs.map encRow).flatten→rs.length≤1000→ManyAt tabR n1.toNat r2 (ts++[rs]) k r'→cells=vs++[rv]→SL W (.ob (OwnSl u 53 1 (ts.length+1) cells)::.ob (RRdO rp r')::X::.mem H2::F) w →
     ∃(i' k:Nat) (ts:List (List Row)) (r:PRd) (tv:Value) (vs:List Value) (H':Heap),[u,Value.int .i64 ((i+1:Nat):Int)]=[tv,.int .i64 i']∧n1=((i'+k:Nat):Int)∧ManyAt tabR n1.toNat r2 ts k r∧(∀C∈ts,C.length≤1000)∧H.le H'∧Rd2 H' vs ts∧SL W (.ob (OwnSl tv 53 1 ts.length vs)::.ob (RRdO rp r)::X::.mem H'::F) w:=λh12 hO hl hM e hS=>by
    subst e
    refine⟨i+1,k,ts++[rs],r',_,vs++[rv],_,rfl,by omega,hM,λC hC=>?_,Heap.le_trans hh h12,(hR2.mono h12).snoc hO,?_⟩
    ·rcases List.mem_append.1 hC with hC|hC
     ·exact hCl C hC
     ·rw[List.mem_singleton.1 hC];exact hl
    ·rw[List.length_append,List.length_singleton];exact hS
   refine Gp ?_
   refine zc (λh=>?_) (λh=>?_)
   ·refine Gp ?_
    refine RRdO.badAt (r:=r') (Has.front hS Xr) ?_
    refine Gp ?_
    refine zA (λhb=>?_) (λhb=>?_)
    ·clear hfin hstep
     obtain⟨c,rfl⟩:∃j,c=j+1:=⟨c-1,by omega⟩
     have hM2:=hM2.step hb
     (refine Cc (zO rp r' 1099511627776) ?_;clear hS)
     rintro v1 post ⟨rfl,rfl⟩ w hS
     (try simp only[app]at hS)
     refine Gp ?_
     refine Gb λxb w hS=>?_
     refine Cg (yX rp _) λw hS=>?_;refine Gm λb w hS=>?_
     refine yr (n:=rs.length) (xs:=rs) (y:=(rowR r').1) (enc:=encRow) hS Xr Xh encRow_len (λx=>encRow_one1 x) rfl (by omega) (by omega) λu w hS=>?_
     refine Gp ?_
     refine⟨⟨a+1,c,_,_,u,rfl,by omega,hM2,?_⟩,by dsimp only;omega⟩
     have hS:=hS.snocL (x:=(rowR r').1)
     have hS:SL W (RwO u (rs++[(rowR r').1])::_::.ob (RRdO rp (rowR r').2)::_::.ob (OwnSl tv 53 1 ts.length vs)::X::.mem H'::F) _:=hS
     exact SL.into hS Xi
    ·obtain⟨H2,h12,hO,hl,hM,hS⟩:=hfin (.inr hb) hS
     have hc1:=hO.one
     refine zB hS (fill_v hc1) λb w hS=>?_
     refine zz (n:=ts.length) (m:=1) hS Xr (src_pt0 (cs:=[rv]) hS Xh rfl) rfl rfl (by simpa using hc1) (by omega) (by omega) ?_
     clear hS;intro u w hS
     refine Gp ?_
     exact⟨hstep h12 hO hl hM rfl (SL.into hS Xi),by dsimp only;omega⟩
   ·obtain⟨H2,h12,hO,hl,hM,hS⟩:=hfin (.inl (by omega)) hS
    have hc1:=hO.one
    refine zB hS (fill_v hc1) λb w hS=>?_
    refine zz (n:=ts.length) (m:=1) hS Xr (src_pt0 (cs:=[rv]) hS Xh rfl) rfl rfl (by simpa using hc1) (by omega) (by omega) ?_
    clear hS;intro u w hS
    refine Gp ?_
    exact⟨hstep h12 hO hl hM rfl (SL.into hS Xi),by dsimp only;omega⟩
section
variable {W w:World} {l:List Chunk}
theorem qj{b o n cap sz:Nat}{t:TypeId}{cells:List Value}{u:Value}{K:Value→Prop}(h:SL W l w)(m:Has (.ob (OwnSl (.slice (some ⟨b,0,none⟩) n cap) t sz n cells)) l)(hn:0<n)(hu:cells[o]?=some u)(hK:K u):
  HLd (.pointer (some ⟨b,o,none⟩)) w K:=by
 obtain⟨a,cap',e,_,h2⟩:=OwnSl.at h m
 cases e
 obtain⟨b',e,h3⟩:=h2 0 hn
 cases e
 exact⟨_,u,rfl,h3 o u hu,hK⟩
theorem Qs{v:Value}{t:TypeId}{sz n k:Nat}{kk:IntKind}{cells:List Value}{K:Value→Prop}(h:SL W l w)(m:Has (.ob (OwnSl v t sz n cells)) l)(hk:k≤n)
  (hK:∀u,(∀w' l',SL W l' w'→Has (.ob (OwnSl v t sz n cells)) l'→srcCells w' sz u (n-k) (cells.drop (k*sz)))→K u):HSl sz v (some (.int kk (k:Int))) none none K:=by
 obtain⟨a,cap,rfl,hl,hx⟩:=OwnSl.at h m
 have hcap:n≤cap:=by
  obtain⟨l2,r⟩:=m.rem
  rcases OwnSl.open (h.perm r.perm) with ⟨⟨a',e⟩,rfl,rfl,_⟩|⟨b,cap',rest,e,hc,_⟩
  ·cases e;omega
  ·cases e;exact hc
 refine⟨a,n,cap,k,n,cap,rfl,rfl,rfl,⟨kk,rfl⟩,hk,hcap,Nat.le_refl _,hK _ λw' l' h' m'=>?_⟩
 have hs:=src_own h' m'
 have hld:(cells.drop (k*sz)).length=(n-k)*sz:=by rw[List.length_drop,hl,Nat.mul_sub_right_distrib]
 cases a with
 | none=>
  obtain⟨e1,e2⟩:=hs
  subst e2
  have e:(if cap=k then (none:Option Addr) else Option.map (λx:Addr=>x.add (k*sz)) none)=none:=by split<;>rfl
  rw[e]
  exact⟨rfl,by simp⟩
 | some p=>
  obtain⟨_,e2,e3⟩:=hs
  by_cases hc:cap=k
  ·rw[if_pos hc]
   have hnk:n-k=0:=by omega
   rw[hnk]at hld ⊢
   have:cells.drop (k*sz)=[]:=List.eq_nil_of_length_eq_zero (by simpa using hld)
   rw[this]
   exact⟨rfl,by simp,λj v e=>by simp at e⟩
  ·rw[if_neg hc]
   refine⟨rfl,hld,λj v e=>?_⟩
   rw[List.getElem?_drop]at e
   have:=e3 _ v e
   rwa [Addr.add_add]at *
end
theorem flat_set{α:Type}{enc:α→List Value}{n:Nat}(hn:∀x,(enc x).length=n):∀(xs:List α) (j k:Nat) (hj:j<xs.length) (x:α) (v:Value),k<n→(enc xs[j]).set k v=enc x→((xs.map enc).flatten).set (j*n+k) v=((xs.set j x).map enc).flatten
 | y::xs,0,k,_,x,v,hk,h=>by
  simp only[List.map_cons,List.flatten_cons,List.set_cons_zero,Nat.zero_mul,Nat.zero_add]
  rw[List.set_append_left _ _ (by rw[hn];exact hk)]
  rw[show (enc y).set k v=enc x from h]
 | y::xs,j+1,k,hj,x,v,hk,h=>by
  simp only[List.map_cons,List.flatten_cons,List.set_cons_succ]
  rw[List.set_append_right _ _ (by rw[hn,Nat.add_mul];omega),hn,show (j+1)*n+k-n=j*n+k by rw[Nat.add_mul];omega,flat_set hn xs j k (by simpa using hj) x v hk (by simpa using h)]
abbrev YF:=PF × Value
def idR(y:YF):Int:=y.1.id
theorem idR_fst(y:YF):PF.id (Prod.fst y)=idR y:=rfl
def encRF(y:YF):List Value:=[.int .i64 y.1.id,.int .i64 (y.1.safe:Int),y.2]
theorem encRF_len(y:YF):(encRF y).length=3:=rfl
def RdB(H:Heap)(ys:List YF):Prop:=∀y∈ys,RdSl H 1 y.2 y.1.b.length (y.1.b.map u8c)
theorem RdB.mono{H H':Heap}(hh:H.le H'){ys:List YF}(h:RdB H ys):RdB H' ys:=λy hy=>(h y hy).mono hh
theorem RdB.set{H:Heap}{ys:List YF}(h:RdB H ys){i:Nat}{y:YF}(hy:RdSl H 1 y.2 y.1.b.length (y.1.b.map u8c)):RdB H (ys.set i y):=λz hz=>by
 rcases List.mem_or_eq_of_mem_set hz with hz|rfl
 ·exact h z hz
 ·exact hy
abbrev rcells(fv:Value)(s:DS):List Value:=[fv,.int .i64 s.arm,.bool s.off,.int .i64 (s.ops:Int)]
abbrev FilesO(fv:Value)(ys:List YF):zC:=OwnSl fv 186 3 ys.length (ys.map encRF).flatten
def RDO(H:Heap)(xp:Nat)(s:DS):zC:=HEx λx:Value × List YF=>zQ (x.2.map Prod.fst=s.R∧RdB H x.2) [.pt xp (rcells x.1 s) 66,.ob (FilesO x.1 x.2)]
theorem RDO.iff{W w:World}{H:Heap}{xp:Nat}{s:DS}{l:List Chunk}:SL W (.ob (RDO H xp s)::l) w↔∃fv ys,(ys.map Prod.fst=s.R∧RdB H ys)∧SL W (.pt xp (rcells fv s) 66::.ob (FilesO fv ys)::l) w:=by
 unfold RDO
 simp only[SL.ex,SL.fact,List.cons_append,List.nil_append]
 exact⟨λ⟨x,h1,h2⟩=>⟨x.1,x.2,h1,h2⟩,λ⟨fv,ys,h1,h2⟩=>⟨(fv,ys),h1,h2⟩⟩
theorem RDO.mono{W w:World}{H H':Heap}(hh:H.le H'){xp:Nat}{s:DS}{l:List Chunk}(h:SL W (.ob (RDO H xp s)::l) w):SL W (.ob (RDO H' xp s)::l) w:=by
 obtain⟨fv,ys,⟨h1,h2⟩,hS⟩:=RDO.iff.1 h
 exact RDO.iff.2 ⟨fv,ys,⟨h1,h2.mono hh⟩,hS⟩
theorem encRF_at{ys:List YF}{j i o:Nat}(hj:j<ys.length)(ho:o=j*3+i){u:Value}(hu:(encRF ys[j])[i]?=some u):((ys.map encRF).flatten)[o]?=some u:=by
 subst ho;exact flat_at encRF_len ys j i _ u (List.getElem?_eq_getElem hj) hu
theorem y0(xp:Nat)(s:DS)(fv:Value)(ys:List YF)(hs:SortedK PF.id (ys.map Prod.fst))(hn:ys.length≤100000)(f:Int):
  SP 100 [.pointer (some ⟨xp,0,none⟩),.int .i64 f] [.pt xp (rcells fv s) 66,.ob (FilesO fv ys)]
   (Gives (.tuple #[.int .i64 (cntK idR ys f:Int),.bool (isK idR ys f)]) [.pt xp (rcells fv s) 66,.ob (FilesO fv ys)]):=by
 intro W F w hS;apply vc100;unfold Vc100;(try simp only[app]at hS)
 have hs:SortedK idR ys:=(sorted_map idR_fst).1 hs
 refine⟨λus w=>∃i:Nat,us=[.int .i64 i]∧i≤ys.length∧(∀j (h:j<ys.length),j<i→idR ys[j]<f)∧SL W (.pt xp (rcells fv s) 66::.ob (FilesO fv ys)::F) w,
  λus _=>match us with|[.int _ i]=>(ys.length-i).toNat|_=>0,⟨0,rfl,by omega,λj h h0=>by omega,hS⟩,?_⟩
 clear hS
 rintro v6 w ⟨i,hus,hi,hlt,hS⟩
 cases hus
 refine Gp ?_
 refine zx hS (t:=186) (sz:=3) (n:=ys.length) (cells:=(ys.map encRF).flatten) Xh ?_
 refine Gp ?_
 refine zc (λh=>?_) (λh=>?_)
 ·have hil:i<ys.length:=by omega
  obtain⟨a,cap,rfl,_,hx⟩:=OwnSl.at hS (t:=186) (sz:=3) (n:=ys.length) (cells:=(ys.map encRF).flatten) Xh
  obtain⟨b,rfl,_⟩:=hx i hil
  have hid:((ys.map encRF).flatten)[0+i*3+0]?=some (.int .i64 ys[i].1.id):=encRF_at hil (i:=0) (by omega) rfl
  refine Gp ?_
  refine zE hil (zS ?_)
  refine qj hS (t:=186) (sz:=3) (cells:=(ys.map encRF).flatten) Xh (by omega) hid ?_
  refine Gp ?_
  refine zc (λh2=>?_) (λh2=>?_)
  ·refine Gp ?_
   refine⟨⟨i+1,by simp,by omega,λj h3 h4=>?_,SL.into hS Xi⟩,by dsimp only;omega⟩
   by_cases e:j=i
   ·subst e;exact h2
   ·exact hlt j h3 (by omega)
  ·have hc:cntK idR ys f=i:=cntK_eq hs f hi hlt λ_=>h2
   have hk:isK idR ys f=decide (ys[i].1.id=f):=by
    unfold isK;rw[hc,List.getElem?_eq_getElem hil];rfl
   rw[hc,hk]
   refine Gn λw hS=>?_
   refine zc (λ_=>?_) (λh=>absurd (by omega) h)
   refine Gp ?_
   refine zE hil (zS ?_)
   refine qj hS (t:=186) (sz:=3) (cells:=(ys.map encRF).flatten) Xh (by omega) hid ?_
   refine Gp ?_
   refine qj hS (t:=186) (sz:=3) (cells:=(ys.map encRF).flatten) Xh (by omega) hid ?_
   refine Gp ?_
   exact⟨_,⟨rfl,rfl⟩,SL.into hS Xi⟩
 ·have hie:i=ys.length:=by omega
  have hc:cntK idR ys f=i:=cntK_eq hs f hi hlt λh=>by omega
  have hk:isK idR ys f=false:=by
   unfold isK;rw[hc,List.getElem?_eq_none (by omega)]
  rw[hc,hk]
  refine Gn λw hS=>?_
  refine zx hS (t:=186) (sz:=3) (n:=ys.length) (cells:=(ys.map encRF).flatten) Xh ?_
  refine Gp ?_
  refine zc (λh=>absurd h (by omega)) (λ_=>?_)
  exact⟨_,⟨rfl,rfl⟩,SL.into hS Xi⟩
theorem isK_R{s:DS}{ys:List YF}(h:ys.map Prod.fst=s.R)(f:Int):isK PF.id s.R f=isK idR ys f:=by rw[← h];exact isK_map idR_fst ys f
theorem yx(xp:Nat)(s:DS)(fv:Value)(ys:List YF)(he:ys.map Prod.fst=s.R)(hs:SortedK PF.id s.R)(hn:ys.length≤100000)(f:Int)(needs:Bool):
  SP 98 [.pointer (some ⟨xp,0,none⟩),.int .i64 f,.bool needs] [.pt xp (rcells fv s) 66,.ob (FilesO fv ys)]
   (Gives (.int .i64 (if needs then s.find f else may s f)) [.pt xp (rcells fv s) 66,.ob (FilesO fv ys)]):=by
 intro W F w hS;apply vc98;unfold Vc98;(try simp only[app]at hS)
 have hs':SortedK PF.id (ys.map Prod.fst):=by rw[he];exact hs
 have hbad:may s f≠0→(if needs then s.find f else may s f)=may s f:=λh=>by
  unfold DS.find;rw[if_pos h];split<;>rfl
 have hgood:may s f=0→(if needs then s.find f else may s f)=if needs then (if isK idR ys f then 0 else 5) else 0:=λh=>by
  unfold DS.find;rw[if_neg (show ¬may s f≠0 by omega),isK_R he,h]
 generalize (if needs then s.find f else may s f)=r at *
 refine Gp ?_
 refine yZ (λh=>?_) (λh=>?_)
 ·have hm:may s f=8:=by unfold may;rw[if_pos h]
  rw[hbad (by omega),hm]
  (exact⟨_,⟨rfl,rfl⟩,SL.into hS Xi⟩)
 ·refine Gp ?_
  refine zc (λh2=>?_) (λh2=>?_)
  ·have hm:may s f=1:=by unfold may;rw[if_neg (by rw[h];decide),if_pos (.inl h2)]
   rw[hbad (by omega),hm]
   (exact⟨_,⟨rfl,rfl⟩,SL.into hS Xi⟩)
  ·refine Gp ?_
   refine zc (λh3=>?_) (λh3=>?_)
   ·have hm:may s f=1:=by unfold may;rw[if_neg (by rw[h];decide),if_pos (.inr h3)]
    rw[hbad (by omega),hm]
    (exact⟨_,⟨rfl,rfl⟩,SL.into hS Xi⟩)
   ·have hm:may s f=0:=by unfold may;rw[if_neg (by rw[h];decide),if_neg (by omega)]
    rw[hgood hm]
    refine Cg (y0 xp s fv ys hs' hn f) λw hS=>?_
    cases needs with
    | true=>
     refine zy ?_
     cases isK idR ys f with
     | true=>
      refine zP (zt ?_)
      (exact⟨_,⟨rfl,rfl⟩,SL.into hS Xi⟩)
     | false=>
      refine zP (zy ?_)
      (exact⟨_,⟨rfl,rfl⟩,SL.into hS Xi⟩)
    | false=>
     refine zt ?_
     (exact⟨_,⟨rfl,rfl⟩,SL.into hS Xi⟩)
theorem y2(xp:Nat)(s:DS)(fv:Value)(h0:s.off=false)(h1:0≤s.arm)(h2:s.arm≤9223372036854775807)(h3:s.ops≤100000):
  SP 99 [.pointer (some ⟨xp,0,none⟩)] [.pt xp (rcells fv s) 66] (Gives (.bool s.cnt.off) [.pt xp (rcells fv s.cnt) 66]):=by
 intro W F w hS;apply vc99;unfold Vc99;(try simp only[app]at hS)
 refine Gn λw hS=>?_
 refine zc (λh=>?_) (λh=>?_)
 ·refine Gn λw hS=>?_
  refine zc (λh4=>?_) (λh4=>?_)
  ·refine Gn λw hS=>?_
   have e:s.cnt.off=true:=by simp[DS.cnt];omega
   have hS:SL W (.pt xp (rcells fv s.cnt) 66::F) w:=by
    unfold rcells;rw[e]
    simp only[DS.cnt,if_pos h]
    exact hS
   rw[e]
   (exact⟨_,⟨rfl,rfl⟩,SL.into hS Xi⟩)
  ·refine Gp ?_
   have e:s.cnt.off=false:=by simp[DS.cnt];omega
   have hS:SL W (.pt xp (rcells fv s.cnt) 66::F) w:=by
    unfold rcells;rw[e]
    rw[h0]at hS
    simp only[DS.cnt,if_pos h]
    exact hS
   rw[e,h0]
   (exact⟨_,⟨rfl,rfl⟩,SL.into hS Xi⟩)
 ·refine Gp ?_
  have e:s.cnt.off=false:=by simp[DS.cnt];omega
  have hS:SL W (.pt xp (rcells fv s.cnt) 66::F) w:=by
   unfold rcells;rw[e]
   rw[h0]at hS
   simp only[DS.cnt,if_neg h]
   exact hS
  rw[e,h0]
  (exact⟨_,⟨rfl,rfl⟩,SL.into hS Xi⟩)
theorem yl(g:Bool):SP 101 [.bool g] [] (Gives (.int .i64 (if g then 8 else 0)) []):=by
 intro W F w hS;apply vc101;unfold Vc101;(try simp only[app]at hS)
 cases g with
 | true=>refine Gp ?_;(exact⟨_,⟨rfl,rfl⟩,SL.into hS Xi⟩)
 | false=>refine Gp ?_;(exact⟨_,⟨rfl,rfl⟩,SL.into hS Xi⟩)
theorem FilesO.pt{W w:World}{l:List Chunk}{fv:Value}{ys:List YF}(h:SL W (.ob (FilesO fv ys)::l) w)(hn:0<ys.length):∃b cap rest,fv= .slice (some ⟨b,0,none⟩) ys.length cap∧SL W (.pt b ((ys.map encRF).flatten++rest) 186::l) w ∧
  ∀ys' w' l',ys'.length=ys.length→SL W (.pt b ((ys'.map encRF).flatten++rest) 186::l') w'→SL W (.ob (FilesO (.slice (some ⟨b,0,none⟩) ys.length cap) ys')::l') w':=by
 rcases OwnSl.open h with ⟨_,h0,_⟩|⟨b,cap,rest,rfl,hc,hl,hr,hS⟩
 ·omega
 ·refine⟨b,cap,rest,rfl,hS,λys' w' l' hlen h'=>?_⟩
  unfold FilesO
  rw[hlen]
  exact OwnSl.mk hc (by rw[flat_len encRF_len,hlen]) hr h'
theorem encRF_pt{ys:List YF}{rest:List Value}{j i o:Nat}(hj:j<ys.length)(ho:o=j*3+i){u:Value}(hu:(encRF ys[j])[i]?=some u):((ys.map encRF).flatten++rest)[o]?=some u:=by
 have h:=encRF_at hj ho hu
 rw[List.getElem?_append_left (List.getElem?_eq_some_iff.1 h).1];exact h
theorem encRF_set{ys:List YF}{rest:List Value}{j i o:Nat}(hj:j<ys.length)(ho:o=j*3+i)(hi:i<3){v:Value}{y:YF}(hy:(encRF ys[j]).set i v=encRF y):((ys.map encRF).flatten++rest).set o v=((ys.set j y).map encRF).flatten++rest:=by
 subst ho
 rw[List.set_append_left _ _ (by rw[flat_len encRF_len];omega),flat_set encRF_len ys j i hj y v hi hy]
structure AppI(R:List PF)(ys2:List YF)(i:Nat)(f:Int):Prop where
 lt:i<ys2.length
 at_:∀h:i<ys2.length,ys2[i].1=⟨f,((getK PF.id R f).getD (newF f)).safe,((getK PF.id R f).getD (newF f)).b⟩
 put:∀y:YF,y.1.id=f→(ys2.set i y).map Prod.fst=putK PF.id R y.1
 len:ys2.length≤R.length+1
theorem appI_old{R:List PF}{ys:List YF}(he:ys.map Prod.fst=R){f:Int}(hk:isK idR ys f=true):AppI R ys (cntK idR ys f) f:=by
 obtain⟨h1,h2⟩:=isK_true hk
 have hg:getK PF.id R f=some ys[cntK idR ys f].1:=by
  rw[← he,getK_map idR_fst]
  unfold getK;rw[if_pos hk,List.getElem?_eq_getElem h1];rfl
 refine⟨h1,λ_=>?_,λy hy=>?_,by rw[← he,List.length_map];omega⟩
 ·rw[hg]
  have h3:∀p:PF,p.id=f→p=⟨f,p.safe,p.b⟩:=by rintro ⟨a,b,c⟩ rfl;rfl
  exact h3 _ h2
 ·have hi:isK PF.id R y.1.id=true:=by rw[hy,← he,isK_map idR_fst];exact hk
  rw[putK_is hi,hy,← he,cntK_map idR_fst,List.map_set]
theorem appI_new{R:List PF}{ys:List YF}(he:ys.map Prod.fst=R){f:Int}(hk:isK idR ys f=false)(v:Value):AppI R (ys.take (cntK idR ys f)++[(newF f,v)]++ys.drop (cntK idR ys f)) (cntK idR ys f) f:=by
 have hle:=cntK_le (key:=idR) ys f
 have hg:getK PF.id R f=none:=by
  rw[← he,getK_map idR_fst]
  unfold getK;rw[if_neg (by rw[hk];decide)];rfl
 have hl:(ys.take (cntK idR ys f)).length=cntK idR ys f:=by rw[List.length_take];omega
 refine⟨by simp;omega,λh=>?_,λy hy=>?_,by rw[← he];simp;omega⟩
 ·rw[hg]
  rw[List.getElem_append_left (by simp;omega),List.getElem_append_right (by omega)]
  simp[hl];rfl
 ·have hi:isK PF.id R y.1.id=false:=by rw[hy,← he,isK_map idR_fst];exact hk
  unfold putK
  rw[hi,hy,← he,cntK_map idR_fst]
  rw[List.append_assoc,List.set_append_right _ _ (by omega),hl,Nat.sub_self]
  simp
theorem nilF_rd(H:Heap)(f:Int):RdSl H 1 (.slice none 0 0) (newF f).b.length ((newF f).b.map u8c):=RdSl.nil H 1
theorem encRF_one{H:Heap}{ys:List YF}(hB:RdB H ys):∀v∈(ys.map encRF).flatten,v.oneCell'=true:=by
 intro v hv
 obtain⟨l,hl,hv⟩:=List.mem_flatten.1 hv
 obtain⟨y,hy,rfl⟩:=List.mem_map.1 hl
 simp only[encRF,List.mem_cons,List.not_mem_nil,or_false]at hv
 rcases hv with rfl|rfl|rfl
 ·rfl
 ·rfl
 ·exact (hB y hy).one
theorem rappend_specF(H:Heap)(xp:Nat)(s:DS)(N:Nat)(hok:s.Ok N)(hops:s.ops≤100000)(hR:s.R.length≤90000)(f:Int)(bv:Value)(bs:List UInt8)(hb:RdSl H 1 bv bs.length (bs.map u8c))(hN:((getK PF.id s.R f).getD (newF f)).b.length+bs.length≤140737488355328):
  SP 35 [.pointer (some ⟨xp,0,none⟩),.int .i64 f,bv] [.ob (RDO H xp s),.mem H] (λv post=>v= .int .i64 (s.append f bs).2∧∃H',H.le H'∧post=[.ob (RDO H' xp (s.append f bs).1),.mem H']):=by
 intro W F w hS;apply vc35;unfold Vc35;(try simp only[app]at hS)
 obtain⟨fv,ys,⟨he,hrb⟩,hS⟩:=RDO.iff.1 hS
 have hyl:ys.length=s.R.length:=by rw[← he,List.length_map]
 (refine Cc (yx xp s fv ys he hok.sorted (by omega) f false) ?_;clear hS)
 rintro v post ⟨rfl,rfl⟩ w hS
 (try simp only[app]at hS)
 simp only[Bool.false_eq_true,if_false]
 unfold DS.append
 refine Gp ?_
 refine zc (λh=>?_) (λh=>?_)
 ·rw[if_pos h]
  exact⟨_,⟨rfl,H,Heap.le_refl H,rfl⟩,RDO.iff.2 ⟨fv,ys,⟨he,hrb⟩,SL.into hS Xi⟩⟩
 ·rw[if_neg h]
  have hm:may s f=0:=by omega
  obtain⟨h0,hf0,hf1⟩:=may_zero hm
  refine Cg (y2 xp s fv h0 hok.arm0 hok.arm1 hops) λw hS=>?_
  refine Cg (y0 xp s.cnt fv ys (by rw[he];exact hok.sorted) (by omega) f) λw hS=>?_
  have hcl:=cntK_le (key:=idR) ys f
  have hAo:=appI_old he (f:=f)
  have hAn:=λhk=>appI_new he (f:=f) hk (.slice none 0 0)
  generalize hci:cntK idR ys f=i at *
  refine⟨λus w=>us=[]∧∃fv2 ys2,AppI s.R ys2 i f∧RdB H ys2∧SL W (.pt xp (rcells fv2 s.cnt) 66::.ob (FilesO fv2 ys2)::.mem H::F) w,?_,?_⟩
  ·cases hk:isK idR ys f with
   | true=>
    refine zP (zt ?_)
    exact⟨rfl,fv,ys,hAo hk,hrb,SL.into hS Xi⟩
   | false=>
    refine zP (zy ?_)
    refine Gm λb w hS=>?_
    have hS:=OwnSl.full (n:=0) (sz:=3) rfl hS
    refine s_slO hS (t:=186) (sz:=3) (n:=ys.length) (cells:=(ys.map encRF).flatten) Xh hcl ?_
    intro a cap hsrc
    have h1c:=encRF_one hrb
    refine zz (n:=0) (m:=i) hS .hd (hsrc _ _ hS Xh) (by rw[List.length_take,flat_len encRF_len];exact Nat.min_eq_left (Nat.mul_le_mul_right _ hcl)) rfl (λv hv=>h1c v (List.mem_of_mem_take hv)) (by omega) (by omega) ?_
    clear hS;intro v1 w hS
    rw[Nat.zero_add,List.nil_append,flat_take_n encRF_len]at hS
    refine yq rfl ?_
    refine zB hS rfl ?_
    clear hS;intro b2 w hS
    refine zz (n:=i) (m:=1) (cells:=((ys.take i).map encRF).flatten) hS Xr (src_pt0 (cs:=encRF (newF f,Value.slice none 0 0)) hS .hd rfl) rfl rfl (by simp[encRF,Value.oneCell']) (by omega) (by omega) ?_
    clear hS;intro v2 w hS
    refine Gp ?_
    refine Qs hS (t:=186) (sz:=3) (n:=ys.length) (cells:=(ys.map encRF).flatten) Xh hcl ?_
    intro u hsrc2
    refine zz (n:=i+1) (m:=ys.length-i) (cells:=((ys.take i).map encRF).flatten++encRF (newF f,Value.slice none 0 0)) hS Xr (hsrc2 _ _ hS Xh) (by rw[List.length_drop,flat_len encRF_len,Nat.mul_sub_right_distrib]) rfl (λv hv=>h1c v (List.mem_of_mem_drop hv)) (by omega) (by omega) ?_
    clear hS;intro v3 w hS
    have hone:=hS.ownOne .hd
    refine Gn λw hS=>?_
    rw[flat_drop_n encRF_len]at hS
    have e1:((ys.take i).map encRF).flatten++encRF (newF f,Value.slice none 0 0)++((ys.drop i).map encRF).flatten=((ys.take i++[(newF f,Value.slice none 0 0)]++ys.drop i).map encRF).flatten:=by simp
    have e2:i+1+(ys.length-i)=(ys.take i++[(newF f,Value.slice none 0 0)]++ys.drop i).length:=by simp;omega
    rw[e1,e2]at hS
    refine⟨v3,ys.take i++[(newF f,Value.slice none 0 0)]++ys.drop i,hAn hk,λy hy=>?_,SL.into hS Xi⟩
    rcases List.mem_append.1 hy with hy|hy
    ·rcases List.mem_append.1 hy with hy|hy
     ·exact hrb y (List.mem_of_mem_take hy)
     ·rw[List.mem_singleton]at hy;subst hy;exact nilF_rd H f
    ·exact hrb y (List.mem_of_mem_drop hy)
  ·clear hS hAo hAn hci hcl
   rintro w ⟨-,fv2,ys2,hA,hB,hS⟩
   have hi:=hA.lt
   have hat:=hA.at_ hi
   have hold:=hB _ (List.getElem_mem hi)
   have hlen2:=hA.len
   obtain⟨b0,cap,rest,rfl,hS,hback⟩:=FilesO.pt (SL.into hS (t:=.ob (FilesO fv2 ys2)::.pt xp (rcells fv2 s.cnt) 66::.mem H::F) Xi) (by omega)
   have hcell:((ys2.map encRF).flatten++rest)[0+i*3+2]?=some ys2[i].2:=encRF_pt hi (i:=2) (by omega) rfl
   have hb1:ys2[i].1.b.length+bs.length≤140737488355328:=by rw[hat];exact hN
   refine Gn λw hS=>?_
   refine zE hi (zS (ye hS Xh hcell ?_))
   refine Gm λb w hS=>?_
   refine ye hS Xh hcell ?_
   refine Gp ?_
   have hS:=OwnSl.full (n:=0) (sz:=1) rfl hS
   refine zz (n:=0) (m:=ys2[i].1.b.length) hS .hd (src_rd hS Xh hold) (by simp) rfl (u8c_one _) (by omega) (by omega) ?_
   clear hS;intro v1 w hS
   rw[Nat.zero_add,List.nil_append]at hS
   refine Gp ?_
   refine zz (n:=ys2[i].1.b.length) (m:=bs.length) (cells:=ys2[i].1.b.map u8c) hS Xr (src_rd hS Xh hb) (by simp) rfl (u8c_one _) (by omega) (by omega) ?_
   clear hS;intro v2 w hS
   have hone:=hS.ownOne .hd
   refine Gp ?_
   refine zE hi (zS ?_)
   refine Zc hS Xu hcell hone ?_
   clear hS;intro w hS
   have e1:ys2[i].1.b.map u8c++bs.map u8c=(ys2[i].1.b++bs).map u8c:=by rw[List.map_append]
   have e2:ys2[i].1.b.length+bs.length=(ys2[i].1.b++bs).length:=by rw[List.length_append]
   rw[e1,e2]at hS
   rw[encRF_set (y:=(⟨f,ys2[i].1.safe,ys2[i].1.b++bs⟩,v2)) hi (i:=2) (by omega) (by omega) (by
    rw[show ys2[i]=((⟨f,ys2[i].1.safe,ys2[i].1.b⟩:PF),ys2[i].2) from Prod.ext (by rw[hat]) rfl];rfl)]at hS
   obtain⟨H',h01,hR2,hS⟩:=zG (H:=H) (v:=v2) (n:=(ys2[i].1.b++bs).length) (sz:=1) (t:=5) (cells:=(ys2[i].1.b++bs).map u8c) hS Xp
   refine Cg (yl s.cnt.off) λw hS=>?_
   refine⟨_,⟨by unfold DS.err;rfl,H',h01,rfl⟩,RDO.iff.2 ⟨Value.slice (some ⟨b0,0,none⟩) ys2.length cap,ys2.set i (⟨f,ys2[i].1.safe,ys2[i].1.b++bs⟩,v2),⟨?_,(hB.mono h01).set hR2⟩,?_⟩⟩
   ·show _=appF s.R f bs
    rw[hA.put _ rfl]
    unfold appF
    simp only[hat]
   ·have:=hback (ys2.set i (⟨f,ys2[i].1.safe,ys2[i].1.b++bs⟩,v2)) w (.pt xp (rcells (.slice (some ⟨b0,0,none⟩) ys2.length cap) s.cnt) 66::.mem H'::F) (by simp) (SL.into hS Xi)
    exact SL.into this Xi
theorem YA(H:Heap)(xp:Nat)(s:DS)(N:Nat)(hok:s.Ok N)(hops:s.ops≤100000)(hR:s.R.length≤90000)(f:Int)(bv:Value)(bs:List UInt8)(hb:RdSl H 1 bv bs.length (bs.map u8c))(hN:N+bs.length≤140737488355328):
  SP 35 [.pointer (some ⟨xp,0,none⟩),.int .i64 f,bv] [.ob (RDO H xp s),.mem H] (λv post=>v= .int .i64 (s.append f bs).2∧∃H',H.le H'∧post=[.ob (RDO H' xp (s.append f bs).1),.mem H']):=
 rappend_specF H xp s N hok hops hR f bv bs hb (by have:=getK_len (f:=f) hok.len;omega)
theorem find_zero{s:DS}{f:Int}(h:s.find f=0):may s f=0∧isK PF.id s.R f=true:=by
 unfold DS.find at h
 by_cases hm:may s f=0
 ·rw[if_neg (show ¬may s f≠0 from λe=>e hm)]at h
  refine⟨hm,?_⟩
  by_cases hk:isK PF.id s.R f=true
  ·exact hk
  ·rw[if_neg hk]at h;cases h
 ·rw[if_pos hm]at h;exact absurd h hm
theorem getK_ys{R:List PF}{ys:List YF}(he:ys.map Prod.fst=R){f:Int}(hk:isK idR ys f=true):∃h:cntK idR ys f<ys.length,getK PF.id R f=some ys[cntK idR ys f].1∧ys[cntK idR ys f].1.id=f:=by
 obtain⟨h1,h2⟩:=isK_true hk
 refine⟨h1,?_,h2⟩
 rw[← he,getK_map idR_fst]
 unfold getK;rw[if_pos hk,List.getElem?_eq_getElem h1];rfl
theorem qV(H:Heap)(xp:Nat)(s:DS)(N:Nat)(hok:s.Ok N)(hops:s.ops≤100000)(hR:s.R.length≤100000)(f:Int):
  SP 252 [.pointer (some ⟨xp,0,none⟩),.int .i64 f] [.ob (RDO H xp s),.mem H] (Gives (.int .i64 (s.sync f).2) [.ob (RDO H xp (s.sync f).1),.mem H]):=by
 intro W F w hS;apply vc252;unfold Vc252;(try simp only[app]at hS)
 obtain⟨fv,ys,⟨he,hrb⟩,hS⟩:=RDO.iff.1 hS
 have hyl:ys.length=s.R.length:=by rw[← he,List.length_map]
 (refine Cc (yx xp s fv ys he hok.sorted (by omega) f true) ?_;clear hS)
 rintro v post ⟨rfl,rfl⟩ w hS
 (try simp only[app]at hS)
 simp only[if_true]
 unfold DS.sync
 refine Gp ?_
 refine zc (λh=>?_) (λh=>?_)
 ·rw[if_pos h]
  exact⟨_,⟨rfl,rfl⟩,RDO.iff.2 ⟨fv,ys,⟨he,hrb⟩,SL.into hS Xi⟩⟩
 ·rw[if_neg h]
  obtain⟨hm,hk⟩:=find_zero (s:=s) (f:=f) (by omega)
  rw[isK_R he]at hk
  obtain⟨h0,hf0,hf1⟩:=may_zero hm
  refine Cg (y2 xp s fv h0 hok.arm0 hok.arm1 hops) λw hS=>?_
  by_cases hc:s.cnt.off=true
  ·rw[if_pos hc,hc]
   refine zt ?_
   refine Cg (yl true) λw hS=>?_
   exact⟨_,⟨rfl,rfl⟩,RDO.iff.2 ⟨fv,ys,⟨he,hrb⟩,SL.into hS Xi⟩⟩
  ·rw[if_neg hc,(by simpa using hc:s.cnt.off=false)]
   refine zy ?_
   refine Cg (y0 xp s.cnt fv ys (by rw[he];exact hok.sorted) (by omega) f) λw hS=>?_
   obtain⟨hi,hg,hid⟩:=getK_ys he hk
   have hA:=appI_old he hk
   generalize cntK idR ys f=i at *
   obtain⟨b0,cap,rest,rfl,hS,hback⟩:=FilesO.pt (SL.into hS (t:=.ob (FilesO fv ys)::.pt xp (rcells fv s.cnt) 66::.mem H::F) Xi) (by omega)
   have hcell:((ys.map encRF).flatten++rest)[0+i*3+2]?=some ys[i].2:=encRF_pt hi (i:=2) (by omega) rfl
   have hcell1:((ys.map encRF).flatten++rest)[0+i*3+1]?=some (.int .i64 (ys[i].1.safe:Int)):=encRF_pt hi (i:=1) (by omega) rfl
   have hold:=hrb _ (List.getElem_mem hi)
   refine zE hi (zS (ye hS Xh hcell ?_))
   refine zn hold ?_
   refine zE hi (zS ?_)
   refine Zc hS Xu hcell1 rfl ?_
   clear hS;intro w hS
   rw[encRF_set (y:=(⟨f,ys[i].1.b.length,ys[i].1.b⟩,ys[i].2)) hi (i:=1) (by omega) (by omega) (by rw[← hid];rfl)]at hS
   refine Cg (yl false) λw hS=>?_
   refine⟨_,⟨rfl,rfl⟩,RDO.iff.2 ⟨Value.slice (some ⟨b0,0,none⟩) ys.length cap,ys.set i (⟨f,ys[i].1.b.length,ys[i].1.b⟩,ys[i].2),⟨?_,hrb.set hold⟩,?_⟩⟩
   ·show _=updF s.R f _
    rw[hA.put _ rfl,updF_some hg]
   ·have:=hback (ys.set i (⟨f,ys[i].1.b.length,ys[i].1.b⟩,ys[i].2)) w (.pt xp (rcells (.slice (some ⟨b0,0,none⟩) ys.length cap) s.cnt) 66::.mem H::F) (by simp) (SL.into hS Xi)
    exact SL.into this Xi
theorem Yh(H:Heap)(xp:Nat)(s:DS)(N:Nat)(hok:s.Ok N)(hN:N≤140737488355328)(hops:s.ops≤100000)(hR:s.R.length≤100000)(f n:Int):
  SP 176 [.pointer (some ⟨xp,0,none⟩),.int .i64 f,.int .i64 n] [.ob (RDO H xp s),.mem H] (λv post=>v= .int .i64 (s.cut f n).2∧∃H',H.le H'∧post=[.ob (RDO H' xp (s.cut f n).1),.mem H']):=by
 intro W F w hS;apply vc176;unfold Vc176;(try simp only[app]at hS)
 obtain⟨fv,ys,⟨he,hrb⟩,hS⟩:=RDO.iff.1 hS
 have hyl:ys.length=s.R.length:=by rw[← he,List.length_map]
 (refine Cc (yx xp s fv ys he hok.sorted (by omega) f true) ?_;clear hS)
 rintro v post ⟨rfl,rfl⟩ w hS
 (try simp only[app]at hS)
 simp only[if_true]
 unfold DS.cut
 refine Gp ?_
 refine zc (λh=>?_) (λh=>?_)
 ·rw[if_pos h]
  exact⟨_,⟨rfl,H,Heap.le_refl H,rfl⟩,RDO.iff.2 ⟨fv,ys,⟨he,hrb⟩,SL.into hS Xi⟩⟩
 ·rw[if_neg h]
  obtain⟨hm,hk⟩:=find_zero (s:=s) (f:=f) (by omega)
  rw[isK_R he]at hk
  obtain⟨h0,hf0,hf1⟩:=may_zero hm
  refine Cg (y0 xp s fv ys (by rw[he];exact hok.sorted) (by omega) f) λw hS=>?_
  obtain⟨hi,hg,hid⟩:=getK_ys he hk
  have hA:=appI_old he hk
  generalize cntK idR ys f=i at *
  have hlenF:lenF s.R f=ys[i].1.b.length:=by unfold lenF;rw[hg]
  have hold:=hrb _ (List.getElem_mem hi)
  have hb1:ys[i].1.b.length≤N:=hok.len _ (by rw[← he];exact List.mem_map.2 ⟨_,List.getElem_mem hi,rfl⟩)
  rw[hlenF]
  refine zc (λh3=>?_) (λh3=>?_)
  ·rw[if_pos (.inl h3)]
   exact⟨_,⟨rfl,H,Heap.le_refl H,rfl⟩,RDO.iff.2 ⟨fv,ys,⟨he,hrb⟩,SL.into hS Xi⟩⟩
  ·obtain⟨b0,cap,rest,rfl,hS,hback⟩:=FilesO.pt (SL.into hS (t:=.ob (FilesO fv ys)::.pt xp (rcells fv s) 66::.mem H::F) Xi) (by omega)
   have hcell:((ys.map encRF).flatten++rest)[0+i*3+2]?=some ys[i].2:=encRF_pt hi (i:=2) (by omega) rfl
   refine Gp ?_
   refine zE hi (zS (ye hS Xh hcell ?_))
   refine zn hold ?_
   refine Gp ?_
   refine zc (λh4=>?_) (λh4=>?_)
   ·rw[if_pos (.inr h4)]
    have:=hback ys w (.pt xp (rcells (.slice (some ⟨b0,0,none⟩) ys.length cap) s) 66::.mem H::F) rfl (SL.into hS Xi)
    exact⟨_,⟨rfl,H,Heap.le_refl H,rfl⟩,RDO.iff.2 ⟨_,ys,⟨he,hrb⟩,SL.into this Xi⟩⟩
   ·rw[if_neg (by omega)]
    obtain⟨k,rfl⟩:∃k:Nat,n=(k:Int):=⟨n.toNat,by omega⟩
    rw[Int.toNat_natCast]
    refine Cg (y2 xp s (.slice (some ⟨b0,0,none⟩) ys.length cap) h0 hok.arm0 hok.arm1 hops) λw hS=>?_
    by_cases hc:s.cnt.off=true
    ·rw[if_pos hc,hc]
     refine zt ?_
     refine Cg (yl true) λw hS=>?_
     have:=hback ys w (.pt xp (rcells (.slice (some ⟨b0,0,none⟩) ys.length cap) s.cnt) 66::.mem H::F) rfl (SL.into hS Xi)
     exact⟨_,⟨rfl,H,Heap.le_refl H,rfl⟩,RDO.iff.2 ⟨_,ys,⟨he,hrb⟩,SL.into this Xi⟩⟩
    ·rw[if_neg hc,(by simpa using hc:s.cnt.off=false)]
     refine zy ?_
     refine Gn λw hS=>?_
     refine zE hi (zS (ye hS Xh hcell ?_))
     refine qY hold (k:=k) (by omega) ?_
     intro v' hcut
     refine Gm λb w hS=>?_
     refine ye hS Xh hcell ?_
     refine Gp ?_
     have hS:=OwnSl.full (n:=0) (sz:=1) rfl hS
     refine zz (n:=0) (m:=k) hS .hd (src_rd hS Xh hcut) (by rw[List.length_take,List.length_map];omega) rfl (λv hv=>u8c_one _ v (List.mem_of_mem_take hv)) (by omega) (by omega) ?_
     clear hS;intro v2 w hS
     have hone:=hS.ownOne .hd
     rw[Nat.zero_add,List.nil_append]at hS
     refine Gp ?_
     refine zE hi (zS ?_)
     refine Zc hS Xu hcell hone ?_
     clear hS;intro w hS
     rw[encRF_set (y:=(⟨f,ys[i].1.safe,ys[i].1.b.take k⟩,v2)) hi (i:=2) (by omega) (by omega) (by rw[← hid];rfl)]at hS
     have hi':i<(ys.set i (⟨f,ys[i].1.safe,ys[i].1.b.take k⟩,v2)).length:=by simpa using hi
     have hcell1:(((ys.set i (⟨f,ys[i].1.safe,ys[i].1.b.take k⟩,v2)).map encRF).flatten++rest)[0+i*3+1]?=some (.int .i64 (ys[i].1.safe:Int)):=encRF_pt hi' (i:=1) (by omega) (by simp[encRF])
     refine Gn λw hS=>?_
     refine zE hi (zS (ye hS Xh hcell1 ?_))
     refine Gp ?_
     refine zE hi (zS ?_)
     refine Zc hS Xu hcell1 rfl ?_
     clear hS;intro w hS
     have emin:min (ys[i].1.safe:Int) (k:Int)=((min ys[i].1.safe k:Nat):Int):=by omega
     rw[emin]at hS
     rw[encRF_set (y:=(⟨f,min ys[i].1.safe k,ys[i].1.b.take k⟩,v2)) hi' (i:=1) (by omega) (by omega) (by simp[encRF]),List.set_set]at hS
     have e1:(ys[i].1.b.map u8c).take (k*1)=(ys[i].1.b.take k).map u8c:=by rw[Nat.mul_one,List.map_take]
     have e2:(ys[i].1.b.take k).length=k:=by rw[List.length_take];omega
     rw[e1]at hS
     obtain⟨H',h01,hR2,hS⟩:=zG (H:=H) (v:=v2) (n:=k) (sz:=1) (t:=5) (cells:=(ys[i].1.b.take k).map u8c) hS Xp
     refine Cg (yl false) λw hS=>?_
     refine⟨_,⟨rfl,H',h01,rfl⟩,RDO.iff.2 ⟨Value.slice (some ⟨b0,0,none⟩) ys.length cap,ys.set i (⟨f,min ys[i].1.safe k,ys[i].1.b.take k⟩,v2),⟨?_,(hrb.mono h01).set (by rw[e2];exact hR2)⟩,?_⟩⟩
     ·show _=updF s.R f _
      rw[hA.put _ rfl,updF_some hg];rfl
     ·have:=hback (ys.set i (⟨f,min ys[i].1.safe k,ys[i].1.b.take k⟩,v2)) w (.pt xp (rcells (.slice (some ⟨b0,0,none⟩) ys.length cap) s.cnt) 66::.mem H'::F) (by simp) (SL.into hS Xi)
      exact SL.into this Xi
theorem Zi(H:Heap)(xp:Nat)(s:DS)(N:Nat)(hok:s.Ok N)(hops:s.ops≤100000)(hR:s.R.length≤100000)(f:Int):
  SP 174 [.pointer (some ⟨xp,0,none⟩),.int .i64 f] [.ob (RDO H xp s),.mem H] (Gives (.int .i64 (s.remove f).2) [.ob (RDO H xp (s.remove f).1),.mem H]):=by
 intro W F w hS;apply vc174;unfold Vc174;(try simp only[app]at hS)
 obtain⟨fv,ys,⟨he,hrb⟩,hS⟩:=RDO.iff.1 hS
 have hyl:ys.length=s.R.length:=by rw[← he,List.length_map]
 (refine Cc (yx xp s fv ys he hok.sorted (by omega) f true) ?_;clear hS)
 rintro v post ⟨rfl,rfl⟩ w hS
 (try simp only[app]at hS)
 simp only[if_true]
 unfold DS.remove
 refine Gp ?_
 refine zc (λh=>?_) (λh=>?_)
 ·rw[if_pos h]
  exact⟨_,⟨rfl,rfl⟩,RDO.iff.2 ⟨fv,ys,⟨he,hrb⟩,SL.into hS Xi⟩⟩
 ·rw[if_neg h]
  obtain⟨hm,hk⟩:=find_zero (s:=s) (f:=f) (by omega)
  rw[isK_R he]at hk
  obtain⟨h0,hf0,hf1⟩:=may_zero hm
  refine Cg (y2 xp s fv h0 hok.arm0 hok.arm1 hops) λw hS=>?_
  by_cases hc:s.cnt.off=true
  ·rw[if_pos hc,hc]
   refine zt ?_
   refine Cg (yl true) λw hS=>?_
   exact⟨_,⟨rfl,rfl⟩,RDO.iff.2 ⟨fv,ys,⟨he,hrb⟩,SL.into hS Xi⟩⟩
  ·rw[if_neg hc,(by simpa using hc:s.cnt.off=false)]
   refine zy ?_
   refine Cg (y0 xp s.cnt fv ys (by rw[he];exact hok.sorted) (by omega) f) λw hS=>?_
   obtain⟨hi,hg,hid⟩:=getK_ys he hk
   have hdel:delK idR ys f=ys.eraseIdx (cntK idR ys f):=by unfold delK;rw[if_pos hk]
   have hdelm:=delK_map idR_fst ys f
   rw[he,hdel]at hdelm
   generalize cntK idR ys f=i at *
   have h1c:=encRF_one hrb
   refine s_slO hS (t:=186) (sz:=3) (n:=ys.length) (cells:=(ys.map encRF).flatten) Xh (Nat.le_of_lt hi) ?_
   intro a cap hsrc
   refine Gp ?_
   refine Qs hS (t:=186) (sz:=3) (n:=ys.length) (cells:=(ys.map encRF).flatten) Xh hi ?_
   intro u hsrc2
   refine Gm λb w hS=>?_
   have hS:=OwnSl.full (n:=0) (sz:=3) rfl hS
   refine zz (n:=0) (m:=i) hS .hd (hsrc _ _ hS Xh) (by rw[List.length_take,flat_len encRF_len];exact Nat.min_eq_left (Nat.mul_le_mul_right _ (Nat.le_of_lt hi))) rfl (λv hv=>h1c v (List.mem_of_mem_take hv)) (by omega) (by omega) ?_
   clear hS;intro v1 w hS
   rw[Nat.zero_add,List.nil_append,flat_take_n encRF_len]at hS
   refine Gp ?_
   refine zz (n:=i) (m:=ys.length-(i+1)) (cells:=((ys.take i).map encRF).flatten) hS Xr (hsrc2 _ _ hS Xh) (by rw[List.length_drop,flat_len encRF_len,Nat.mul_sub_right_distrib]) rfl (λv hv=>h1c v (List.mem_of_mem_drop hv)) (by omega) (by omega) ?_
   clear hS;intro v3 w hS
   have hone:=hS.ownOne .hd
   refine Gn λw hS=>?_
   rw[flat_drop_n encRF_len]at hS
   have e1:((ys.take i).map encRF).flatten++((ys.drop (i+1)).map encRF).flatten=((ys.eraseIdx i).map encRF).flatten:=by rw[List.eraseIdx_eq_take_drop_succ];simp
   have e2:i+(ys.length-(i+1))=(ys.eraseIdx i).length:=by rw[List.length_eraseIdx,if_pos hi];omega
   rw[e1,e2]at hS
   refine Cg (yl false) λw hS=>?_
   exact⟨_,⟨rfl,rfl⟩,RDO.iff.2 ⟨v3,ys.eraseIdx i,⟨hdelm,λy hy=>hrb y (List.mem_of_mem_eraseIdx hy)⟩,SL.into hS Xi⟩⟩
def RSetO(H:Heap)(r:Nat)(ts:Tabs):zC:=HEx λx:Value × List Value=>zQ (Rd2 H x.2 ts∧ts.length≤8)
 [.pt r [x.1] 157,.ob (OwnSl x.1 53 1 ts.length x.2)]
section
variable {W w:World} {l F:List Chunk} {H H':Heap} {r:Nat} {ts:Tabs}
theorem RSetO.iff:SL W (.ob (RSetO H r ts)::l) w↔∃(v:Value) (vs:List Value),(Rd2 H vs ts∧ts.length≤8)∧SL W (.pt r [v] 157::.ob (OwnSl v 53 1 ts.length vs)::l) w:=by
 unfold RSetO
 simp only[SL.ex,SL.fact,List.cons_append,List.nil_append]
 constructor
 ·rintro ⟨⟨v,vs⟩,h1,h2⟩;exact⟨v,vs,h1,h2⟩
 ·rintro ⟨v,vs,h1,h2⟩;exact⟨⟨v,vs⟩,h1,h2⟩
theorem RSetO.mono(hh:H.le H')(h:SL W (.ob (RSetO H r ts)::l) w):SL W (.ob (RSetO H' r ts)::l) w:=by
 obtain⟨v,vs,hA,hS⟩:=RSetO.iff.1 h
 exact RSetO.iff.2 ⟨v,vs,⟨hA.1.mono hh,hA.2⟩,hS⟩
theorem RSetO.monoP(hh:H.le H')(hS:SL W l w)(k:Rem (.ob (RSetO H r ts)) l F):SL W (.ob (RSetO H' r ts)::F) w:=RSetO.mono hh (hS.perm k.perm)
theorem RSetO.put{v:Value}{vs:List Value}(ts:Tabs)(h:Rd2 H vs ts)(h8:ts.length≤8)(hS:SL W l w)(k:Pick [.pt r [v] 157,.ob (OwnSl v 53 1 ts.length vs)] l F):SL W (.ob (RSetO H r ts)::F) w:=RSetO.iff.2 ⟨v,vs,⟨h,h8⟩,hS.pick k⟩
end
theorem newsetR_ok(H:Heap)(n:Nat)(h1:1≤n)(h2:n≤8):SP 75 [.int .i64 n] [] (λv post=>∃r:Nat,v=ptrA r∧post=[.ob (RSetO H r (List.replicate n []))]):=by
 intro W w F hS
 refine z6.mono (newset_ok H n h1 h2 W w F hS) ?_
 rintro v w' ⟨post,⟨r,rfl,rfl⟩,hS⟩
 obtain⟨bv,vs,hA,hS⟩:=SetO.iff.1 hS
 have hS:=OwnSl.full (n:=(List.replicate n ([]:List Row)).length) (sz:=1) (by rw[hA.1.1,Nat.mul_one]) (hS.perm (.swap _ _ _))
 exact⟨_,⟨r,rfl,rfl⟩,RSetO.iff.2 ⟨_,vs,hA,hS.perm (.swap _ _ _)⟩⟩
theorem YV(H:Heap)(r:Nat)(ts:Tabs)(t:Int):SP 77 [ptrA r,.int .i64 t] [.ob (RSetO H r ts)] (Gives (.bool (decide (0≤t∧t<(ts.length:Int)))) [.ob (RSetO H r ts)]):=by
 intro W F w hS;apply vc77;unfold Vc77;(try simp only[app]at hS)
 refine Gp ?_
 refine zc (λh=>?_) (λh=>?_)
 ·obtain⟨v,vs,hA,hS⟩:=RSetO.iff.1 hS
  refine Gp ?_
  refine zx hS Xh ?_
  refine Gp ?_
  have hS:=RSetO.put ts hA.1 hA.2 hS Xp
  rw[show (decide (t<(ts.length:Int)))=decide (0≤t∧t<(ts.length:Int)) by simp[h]]
  exact⟨_,⟨rfl,rfl⟩,SL.into hS Xi⟩
 ·rw[decide_eq_false (show ¬(0≤t∧t<(ts.length:Int)) by omega)]
  exact⟨_,⟨rfl,rfl⟩,SL.into hS Xi⟩
def AppQ(H:Heap)(r:Nat)(ts:Tabs)(l:List Chg)(u:Value)(post:List Chunk):Prop:=if l.all (chgIn ts.length)=true then u= .bool true∧∃H',H.le H'∧post=[.mem H',.ob (RSetO H' r (appsTs ts l))] else u= .bool false∧post=[.mem H,.ob (RSetO H r ts)]
theorem appTs_at{ts:Tabs}{c:Chg}{t:Nat}(ht:t<ts.length)(hc:c.table=t):appTs ts c=ts.set t (rowApp ts[t] c):=by
 unfold appTs
 rw[hc,Int.toNat_natCast,tabAt_nat ts t ht]
theorem yR(H:Heap)(r:Nat)(ts:Tabs)(v:Value)(l:List Chg)(hv:RdSl H 4 v l.length (l.map encChg).flatten){L0:Nat}(hL:∀C∈ts,C.length≤L0)(hn:L0+l.length≤1000000):
  SP 78 [ptrA r,v] [.mem H,.ob (RSetO H r ts)] (AppQ H r ts l):=by
 intro W F w hS;apply vc78;unfold Vc78;(try simp only[app]at hS)
 refine⟨λus w=>∃i:Nat,us=[.int .i64 i]∧i≤l.length∧(∀j (h:j<l.length),j<i→chgIn ts.length l[j]=true)∧SL W (.mem H::.ob (RSetO H r ts)::F) w,λus _=>match us with|[.int _ i]=>(l.length-i).toNat|_=>0,⟨0,rfl,by omega,λj h hj=>by omega,hS⟩,?_⟩
 clear hS
 rintro v5 w ⟨i,hus,hi,hall,hS⟩
 cases hus
 refine zn hv ?_
 refine Gp ?_
 refine zc (λh=>?_) (λh=>?_)
 ·have hil:i<l.length:=by omega
  refine zI hS Xh encChg_len hv (x:=l[i]) (List.getElem?_eq_getElem hil) hil (i:=0) rfl ?_
  refine Cg (YV H r ts l[i].table) λw hS=>?_
  refine zA (λhe=>?_) (λhe=>?_)
  ·have hno:¬l.all (chgIn ts.length)=true:=λh=>by
    have:=List.all_eq_true.1 h _ (List.getElem_mem hil)
    unfold chgIn at this
    rw[he]at this;cases this
   exact⟨[.mem H,.ob (RSetO H r ts)],by unfold AppQ;rw[if_neg hno];exact⟨rfl,rfl⟩,SL.into hS Xi⟩
  ·refine Gp ?_
   refine⟨⟨i+1,rfl,by omega,λj hj hji=>?_,SL.into hS Xi⟩,by dsimp only;omega⟩
   by_cases e:j=i
   ·subst e;exact he
   ·exact hall j hj (by omega)
 ·have hA:∀c∈l,chgIn ts.length c=true:=λc hc=>by
   obtain⟨j,hj,rfl⟩:=List.getElem_of_mem hc
   exact hall j hj (by omega)
  have hAll:l.all (chgIn ts.length)=true:=List.all_eq_true.2 hA
  refine⟨λus w=>∃(i:Nat) (H2:Heap),us=[.int .i64 i]∧i≤l.length∧H.le H2∧SL W (.mem H2::.ob (RSetO H2 r (appsTs ts (l.take i)))::F) w,λus _=>match us with|[.int _ i]=>(l.length-i).toNat|_=>0,⟨0,H,rfl,by omega,Heap.le_refl H,hS⟩,?_⟩
  clear hS h hi hall i
  rintro v6 w ⟨i,H2,hus,hi,hH,hS⟩
  cases hus
  have hv2:=hv.mono hH
  refine zn hv2 ?_
  refine Gp ?_
  refine zc (λh=>?_) (λh=>?_)
  ·have hil:i<l.length:=by omega
   have hx:l[i]?=some l[i]:=List.getElem?_eq_getElem hil
   have hci:=of_decide_eq_true (hA _ (List.getElem_mem hil))
   have hsn:appsTs ts (l.take (i+1))=appTs (appsTs ts (l.take i)) l[i]:=by rw[List.take_succ_eq_append_getElem hil,appsTs_snoc]
   have hTl:=appsTs_len ts (l.take i)
   have hTn:∀C∈appsTs ts (l.take i),C.length≤1000000:=λC hC=>by
    have:=appsTs_lenR L0 hL (λc hc=>hA c (List.mem_of_mem_take hc)) C hC
    rw[List.length_take]at this
    omega
   generalize appsTs ts (l.take i)=T at *
   generalize l[i]=c at *
   obtain⟨table,key,gone,val⟩:=c
   simp only at hci
   obtain⟨t,rfl⟩:∃t:Nat,table=t:=⟨table.toNat,by omega⟩
   have ht:t<T.length:=by omega
   rw[appTs_at ht rfl]at hsn
   have hCn:=hTn _ (List.getElem_mem ht)
   have hTt:T[t]?=some T[t]:=List.getElem?_eq_getElem ht
   refine zI hS Xh encChg_len hv2 hx hil (i:=0) rfl ?_
   refine zI hS Xh encChg_len hv2 hx hil (i:=2) rfl ?_
   obtain⟨sv,vs,hR,hS⟩:=RSetO.iff.1 (SL.into hS (t:=.ob (RSetO H2 r T)::.mem H2::F) Xi)
   have htv:t<vs.length:=by rw[hR.1.1];exact ht
   have hvt:vs[t]?=some vs[t]:=List.getElem?_eq_getElem htv
   have hC:=hR.1.2 t vs[t] T[t] hvt hTt
   generalize T[t]=C at *
   generalize vs[t]=cv at *
   have hback:∀{w:World} {H3:Heap} {u:Value} {C':List Row},H2.le H3→RdSl H3 2 u C'.length (C'.map encRow).flatten→appsTs ts (l.take (i+1))=T.set t C'→SL W (.ob (OwnSl sv 53 1 T.length (vs.set t u))::.pt r [sv] 157::.mem H3::F) w →
     ∃(i':Nat) (H2:Heap),[Value.int .i64 ((i+1:Nat):Int)]=[.int .i64 i']∧i'≤l.length∧H.le H2∧SL W (.mem H2::.ob (RSetO H2 r (appsTs ts (l.take i')))::F) w:=λ{w H3 u C'} h23 hu e hS=>by
    refine⟨i+1,_,rfl,by omega,Heap.le_trans hH h23,?_⟩
    rw[e]
    have hS:=(RSetO.iff (H:=H3) (r:=r) (ts:=T.set t C')).2 ⟨sv,vs.set t u,⟨(hR.1.mono h23).set hu,by rw[List.length_set];exact hR.2⟩,by rw[List.length_set];exact SL.into hS (t:=.pt r [sv] 157::.ob (OwnSl sv 53 1 T.length (vs.set t u))::.mem H3::F) Xi⟩
    exact SL.into hS Xi
   cases gone with
   | true=>
    refine zy ?_
    refine Gn λw hS=>?_
    refine z7 hS Xh ht hvt ?_
    refine zI hS Xh encChg_len hv2 hx hil (i:=1) rfl ?_
    (refine Cc (qb H2 cv C key hC hCn) ?_;clear hS)
    rintro v3 post ⟨u,bb,H3,h23,rfl,hR3,rfl⟩ w hS
    (try simp only[app]at hS)
    have h1:=hR3.one
    refine Gp ?_
    refine y4 (SL.into hS (t:=.ob (OwnSl sv 53 1 T.length vs)::.pt r [sv] 157::.mem H3::F) Xi) ht h1 λw hS=>?_
    refine Gp ?_
    exact⟨hback h23 hR3 hsn hS,by dsimp only;omega⟩
   | false=>
    refine zt ?_
    refine Gn λw hS=>?_
    refine z7 hS Xh ht hvt ?_
    refine zI hS Xh encChg_len hv2 hx hil (i:=1) rfl ?_
    refine zI hS Xh encChg_len hv2 hx hil (i:=3) rfl ?_
    (refine Cc (qc H2 cv C key val hC hCn) ?_;clear hS)
    rintro v3 post ⟨u,bb,H3,h23,rfl,hR3,rfl⟩ w hS
    (try simp only[app]at hS)
    have h1:=hR3.one
    refine Gp ?_
    refine y4 (SL.into hS (t:=.ob (OwnSl sv 53 1 T.length vs)::.pt r [sv] 157::.mem H3::F) Xi) ht h1 λw hS=>?_
    refine Gp ?_
    exact⟨hback h23 hR3 hsn hS,by dsimp only;omega⟩
  ·obtain rfl:i=l.length:=by omega
   rw[List.take_length]at hS
   exact⟨[.mem H2,.ob (RSetO H2 r (appsTs ts l))],by unfold AppQ;rw[if_pos hAll];exact⟨rfl,H2,hH,rfl⟩,hS⟩
theorem qt(H:Heap)(r:Nat)(ts:Tabs)(hn:∀C∈ts,C.length≤1000000):
  SP 248 [ptrA r] [.mem H,.ob (RSetO H r ts)] (λu post=>∃(r2:Nat) (H':Heap),H.le H'∧u=ptrA r2∧post=[.mem H',.ob (RSetO H' r ts),.ob (RSetO H' r2 ts)]):=by
 intro W F w hS;apply vc248;unfold Vc248;(try simp only[app]at hS)
 obtain⟨sv,vs,hR,hS⟩:=RSetO.iff.1 (SL.into hS (t:=.ob (RSetO H r ts)::.mem H::F) Xi)
 have h8:=hR.2
 refine Gp ?_
 refine zx hS (v:=sv) (t:=53) (sz:=1) (n:=ts.length) (cells:=vs) Xh ?_
 refine s_mk hS (by omega) (by omega) (by omega) ?_
 clear hS;intro bv w hS
 have hz:zrow [.slice none 0 0] ts.length=List.replicate ts.length (.slice none 0 0:Value):=by simp[zrow]
 rw[hz]at hS
 have hS:=OwnSl.full (n:=ts.length) (sz:=1) (by simp) hS
 generalize hbv:(Value.slice (some ⟨bv,0,none⟩) ts.length ts.length)=nv at *
 have h1:nv.oneCell'=true:=by rw[← hbv];rfl
 refine yq (fill_v h1) ?_
 refine⟨_,rfl,zN hS ?_⟩
 clear hS;intro r2 w hS
 refine⟨λus w=>∃(i:Nat) (H2:Heap) (us2:List Value),us=[.int .i64 i]∧i≤ts.length∧H.le H2∧Rd2 H2 us2 (ts.take i++List.replicate (ts.length-i) [])∧SL W (.pt r2 [nv] 157::.ob (OwnSl nv 53 1 ts.length us2)::.pt r [sv] 157::.ob (OwnSl sv 53 1 ts.length vs)::.mem H2::F) w,
  λus _=>match us with|[.int _ i]=>(ts.length-i).toNat|_=>0,⟨0,H,List.replicate ts.length (.slice none 0 0),rfl,by omega,Heap.le_refl H,⟨by simp,λi v C h1 h2=>by
   rw[List.take_zero,List.nil_append,List.getElem?_replicate]at h2
   rw[List.getElem?_replicate]at h1
   split at h1
   ·cases h1;split at h2
    all_goals first|(cases h2;exact RdSl.nil H 2)|(cases h2)
   ·cases h1⟩,SL.into hS Xi⟩,?_⟩
 clear hS
 rintro v4 w ⟨i,H2,us2,hus,hi,hH,hR2,hS⟩
 cases hus
 refine Gp ?_
 refine zx hS (v:=sv) (t:=53) (sz:=1) (n:=ts.length) (cells:=vs) Xh ?_
 refine Gp ?_
 refine zc (λh=>?_) (λh=>?_)
 ·have hil:i<ts.length:=by omega
  have htv:i<vs.length:=by rw[hR.1.1];exact hil
  have hvt:vs[i]?=some vs[i]:=List.getElem?_eq_getElem htv
  have hC:=(hR.1.2 i vs[i] ts[i] hvt (List.getElem?_eq_getElem hil)).mono hH
  have hCn:=hn _ (List.getElem_mem hil)
  have htk:(ts.take i++List.replicate (ts.length-i) ([]:List Row)).set i ts[i]=ts.take (i+1)++List.replicate (ts.length-(i+1)) []:=by
   rw[List.set_append_right _ _ (by rw[List.length_take];omega),List.length_take,Nat.min_eq_left hi,Nat.sub_self,show ts.length-i=(ts.length-(i+1))+1 by omega,List.replicate_succ,List.set_cons_zero,List.take_succ_eq_append_getElem hil,List.append_assoc];rfl
  generalize ts[i]=C at *
  generalize vs[i]=cv at *
  refine Gn λw hS=>?_
  obtain⟨sa,sc,rfl,hsl,hsx⟩:=OwnSl.at hS (v:=sv) (t:=53) (sz:=1) (n:=ts.length) (cells:=vs) Xh
  obtain⟨sb,rfl,_⟩:=hsx i hil
  have hcell:vs[0+i*1]?=some cv:=by rw[Nat.zero_add,Nat.mul_one];exact hvt
  refine zE hil ?_
  refine qj hS (t:=53) (sz:=1) (cells:=vs) Xh (by omega) hcell ?_
  refine zB hS (cells:=[]) rfl ?_
  clear hS;intro b1 w hS
  refine Gp ?_
  refine qj hS (t:=53) (sz:=1) (cells:=vs) Xh (by omega) hcell (YG ?_)
  have hS:=OwnSl.full (n:=0) (sz:=2) (b:=b1) (t:=52) (cells:=[]) rfl hS
  refine zz (n:=0) (m:=C.length) hS Xr (src_rd hS Xh hC) (flat_len encRow_len _) rfl (recs_one encRow_one _) (by omega) (by omega) ?_
  clear hS;intro u w hS
  rw[List.nil_append,Nat.zero_add]at hS
  obtain⟨H3,h23,hO,hS⟩:=zG (H:=H2) (v:=u) (n:=C.length) (sz:=2) (t:=52) (cells:=(C.map encRow).flatten) hS Xp
  have h1:=hO.one
  refine Gp ?_
  refine y4 (SL.into hS (t:=.ob (OwnSl nv 53 1 ts.length us2)::.pt r2 [nv] 157::.pt r [.slice (some ⟨sb,0,none⟩) ts.length sc] 157::.ob (OwnSl (.slice (some ⟨sb,0,none⟩) ts.length sc) 53 1 ts.length vs)::.mem H3::F) Xi) hil h1 λw hS=>?_
  refine Gp ?_
  refine⟨⟨i+1,H3,us2.set i u,rfl,by omega,Heap.le_trans hH h23,?_,SL.into hS Xi⟩,by dsimp only;omega⟩
  rw[← htk]
  exact (hR2.mono h23).set hO
 ·obtain rfl:i=ts.length:=by omega
  rw[List.take_length,Nat.sub_self,List.replicate_zero,List.append_nil]at hR2
  have hS:=RSetO.put (H:=H2) ts (hR.1.mono hH) hR.2 hS (r:=r) (v:=sv) (vs:=vs) Xp
  have hS:=RSetO.put (H:=H2) ts hR2 hR.2 hS (r:=r2) (v:=nv) (vs:=us2) Xp
  exact⟨_,⟨r2,H2,hH,rfl,rfl⟩,SL.into hS Xi⟩
theorem qx(H:Heap)(r:Nat)(ts:Tabs)(v:Value)(l:List Chg)(hv:RdSl H 4 v l.length (l.map encChg).flatten){L0:Nat}(hL:∀C∈ts,C.length≤L0)(hn:L0+l.length≤1000000):
  SP 182 [ptrA r,v] [.mem H,.ob (RSetO H r ts)] (λu post=>∃H',H.le H'∧u= .bool (fitsTs ts l)∧post=[.mem H',.ob (RSetO H' r ts)]):=by
 intro W F w hS;apply vc182;unfold Vc182;(try simp only[app]at hS)
 (refine Cc (qt H r ts (λC hC=>by have:=hL C hC;omega)) ?_;clear hS)
 rintro _ post ⟨r2,H1,h01,rfl,rfl⟩ w hS
 (try simp only[app]at hS)
 (refine Cc (yR H1 r2 ts v l (hv.mono h01) hL hn) ?_;clear hS)
 rintro u post hq w hS
 unfold AppQ at hq
 by_cases ha:l.all (chgIn ts.length)=true
 ·rw[if_pos ha]at hq
  obtain⟨rfl,H2,h12,rfl⟩:=hq
  (try simp only[app]at hS)
  refine zP (zt ?_)
  have hS:=RSetO.monoP h12 hS (r:=r) (ts:=ts) Xr
  have hf:fitsTs ts l=(appsTs ts l).all λC=>decide (C.length≤1000):=by unfold fitsTs;rw[ha];rfl
  obtain⟨sv,vs,hR,hS⟩:=RSetO.iff.1 (SL.into hS (t:=.ob (RSetO H2 r2 (appsTs ts l))::.ob (RSetO H2 r ts)::.mem H2::F) Xi)
  generalize appsTs ts l=T at *
  refine⟨λus w=>∃i:Nat,us=[.int .i64 i]∧i≤T.length∧(∀j (h:j<T.length),j<i→T[j].length≤1000)∧SL W (.pt r2 [sv] 157::.ob (OwnSl sv 53 1 T.length vs)::.ob (RSetO H2 r ts)::.mem H2::F) w,λus _=>match us with|[.int _ i]=>(T.length-i).toNat|_=>0,⟨0,rfl,by omega,λj h hj=>by omega,hS⟩,?_⟩
  clear hS
  rintro v6 w ⟨i,hus,hi,hall,hS⟩
  cases hus
  refine Gp ?_
  refine zx hS (v:=sv) (t:=53) (sz:=1) (n:=T.length) (cells:=vs) Xh ?_
  refine Gp ?_
  refine zc (λh=>?_) (λh=>?_)
  ·have hil:i<T.length:=by omega
   have htv:i<vs.length:=by rw[hR.1.1];exact hil
   have hvt:vs[i]?=some vs[i]:=List.getElem?_eq_getElem htv
   have hC:=hR.1.2 i vs[i] T[i] hvt (List.getElem?_eq_getElem hil)
   refine Gp ?_
   refine z7 hS Xh hil hvt ?_
   refine zn hC ?_
   refine Gp ?_
   refine zc (λh2=>?_) (λh2=>?_)
   ·refine⟨[.mem H2,.ob (RSetO H2 r ts)],⟨H2,Heap.le_trans h01 h12,?_,rfl⟩,SL.into hS Xi⟩
    rw[hf,show T.all (λC=>decide (C.length≤1000))=false from List.all_eq_false.2 ⟨_,List.getElem_mem hil,by rw[decide_eq_true_eq];omega⟩]
   ·refine Gp ?_
    refine⟨⟨i+1,rfl,by omega,λj hj hji=>?_,SL.into hS Xi⟩,by dsimp only;omega⟩
    by_cases e:j=i
    ·subst e;omega
    ·exact hall j hj (by omega)
  ·refine⟨[.mem H2,.ob (RSetO H2 r ts)],⟨H2,Heap.le_trans h01 h12,?_,rfl⟩,SL.into hS Xi⟩
   rw[hf,show T.all (λC=>decide (C.length≤1000))=true from List.all_eq_true.2 λC hC=>by
    obtain⟨j,hj,rfl⟩:=List.getElem_of_mem hC
    exact decide_eq_true (hall j hj (by omega))]
 ·rw[if_neg ha]at hq
  obtain⟨rfl,rfl⟩:=hq
  (try simp only[app]at hS)
  refine zP (zy ?_)
  refine⟨[.mem H1,.ob (RSetO H1 r ts)],⟨H1,h01,?_,rfl⟩,SL.into hS Xi⟩
  unfold fitsTs
  rw[Bool.eq_false_iff.2 ha]
  rfl
theorem SeqG.head{L:List PSeg}(h:SeqG L)(hL:L≠[]):headG L=lowG L+(entsG L).length-1:=by
 induction L with
 | nil=>exact absurd rfl hL
 | cons s r ih=>
  cases r with
  | nil=>simp[headG,lowG,entsG,PSeg.next]
  | cons t r=>
   have h1:=ih h.2 (by simp)
   have h2:headG (s::t::r)=headG (t::r):=by simp only[headG,List.getLast?_cons_cons]
   have h3:=h.1
   rw[h2,h1,entsG_cons s (t::r),List.length_append]
   simp only[PSeg.next]at h3
   show lowG (t::r)+_-1=s.first+_-1
   have:lowG (t::r)=t.first:=rfl
   rw[this];omega
theorem SeqG.read:∀{L:List PSeg},SeqG L→∀i:Nat,readG L (lowG L+i)=(entsG L)[i]?
 | [],_,i=>by simp[readG,entsG]
 | [s],_,i=>by
  have e:lowG [s]=s.first:=rfl
  rw[e,readG,entsG_cons]
  have he:entsG []=([]:List (List UInt8)):=rfl
  rw[he,List.append_nil]
  by_cases h:i<s.l.length
  ·rw[if_pos ⟨by omega,by show s.first+i<s.first+s.l.length;omega⟩]
   congr 1;omega
  ·rw[if_neg (by rintro ⟨_,h2⟩;have h2:s.first+i<s.first+s.l.length:=h2;omega),List.getElem?_eq_none (by omega)];rfl
 | s::t::r,h,i=>by
  have e:lowG (s::t::r)=s.first:=rfl
  have e2:lowG (t::r)=t.first:=rfl
  have h1:=h.1
  simp only[PSeg.next]at h1
  rw[e,readG,entsG_cons]
  by_cases hi:i<s.l.length
  ·rw[if_pos ⟨by omega,by show s.first+i<s.first+s.l.length;omega⟩,List.getElem?_append_left hi]
   congr 1;omega
  ·rw[if_neg (by rintro ⟨_,h2⟩;have h2:s.first+i<s.first+s.l.length:=h2;omega),List.getElem?_append_right (by omega)]
   have:=SeqG.read h.2 (i-s.l.length)
   rw[e2]at this
   rw[← this]
   congr 1;omega
theorem openG_GOkW{d d':DS}{base size:Int}{N:Nat}(hw:WinLe d.R base N)(hR:d.R.length≤100000){g:PLog}(h:openG d base size=(d',.ok g)):GOk g (N+100000):=by
 have hk:=(openG_gokW hw hR h).1
 unfold openG at h
 split at h
 ·cases h
 ·split at h
  ·cases h
  ·split at h
   ·cases h
   ·rename_i L wh hl
    obtain⟨k1,k2⟩:=loadsG_seq _ _ [] _ trivial (by decide) hl
    split at h
    ·cases h
    ·cases h
     exact⟨hk,k1,k2,λx hx=>by cases hx⟩
theorem inc_len:∀(l:List Nat) (a N:Nat),a≤N→l.Pairwise (· < ·)→(∀x∈l,a≤x∧x<N)→l.length+a≤N
 | [],a,N,h,_,_=>by simpa using h
 | x::l,a,N,_,hp,hx=>by
  have h1:=hx x (.head _)
  obtain⟨hp1,hp2⟩:=List.pairwise_cons.1 hp
  have:=inc_len l (x+1) N (by omega) hp2 λy hy=>⟨hp1 y hy,(hx y (.tail _ hy)).2⟩
  rw[List.length_cons];omega
theorem DS.Ok.rlen{s:DS}{N:Nat}(h:s.Ok N):s.R.length≤16384:=by
 have hs:(s.R.map λx=>x.id.toNat).Pairwise (· < ·):=by
  rw[List.pairwise_map]
  refine List.Pairwise.imp_of_mem (λ{a b} ha hb hlt=>?_) h.sorted
  have h1:=h.ids a ha
  have h2:=h.ids b hb
  have hlt:a.id<b.id:=hlt
  omega
 have:=inc_len _ 0 16384 (by decide) hs λn hn=>by
  obtain⟨x,hx,rfl⟩:=List.mem_map.1 hn
  have:=h.ids x hx
  omega
 simpa using this
def GoodQ(dp:Nat)(d:DS)(H:Heap)(n:Nat)(f:Int)(r:Value)(post:List Chunk):Prop:=∃H',H.le H'∧post=[.ob (DskO dp d),.mem H']∧match imgAt d.R n f with
 | none=>∃a b,r= .tuple #[a,b,.bool false]
 | some y=>∃v,RdTs H' v y.2∧r= .tuple #[.int .i64 y.1,v,.bool true]
theorem QE(dp:Nat)(d:DS)(H:Heap)(n:Nat)(f:Int){N:Nat}(hok:d.Ok N)(hN:N≤140737488355328):
  SP 140 [ptrA dp,.int .i64 f,.int .i64 (n:Nat)] [.ob (DskO dp d),.mem H] (GoodQ dp d H n f):=by
 intro W F w hS;apply vc140;unfold Vc140;(try simp only[app]at hS)
 (refine Cc (ZS dp d N hok hN f) ?_;clear hS)
 rintro r post hq w hS
 unfold ReadQ at hq
 cases hg:getK PF.id d.R f with
 | none=>
  rw[hg]at hq
  obtain⟨rfl,rfl⟩:=hq
  have hi:imgAt d.R n f=none:=by unfold imgAt;rw[hg]
  (try simp only[app]at hS);refine Gp ?_
  refine zy ?_
  refine⟨[.ob (DskO dp d),.mem H],⟨H,Heap.le_refl H,rfl,?_⟩,SL.into hS Xi⟩
  rw[hi];exact⟨_,_,rfl⟩
 | some x=>
  rw[hg]at hq
  obtain⟨u,rfl,rfl⟩:=hq
  have hxl:=hok.len x (getK_mem hg).1
  (try simp only[app]at hS);refine Gp ?_
  refine zt ?_
  (refine Cc (Y0 (.ob (OwnSl u 5 1 x.b.length (x.b.map u8c))) H u x.b Rdb.own (by omega)) ?_;clear hS)
  rintro r post hq w hS
  unfold DecImQ at hq
  cases hd:decImg x.b with
  | none=>
   rw[hd]at hq
   obtain⟨rfl,H',hh,rfl⟩:=hq
   have hi:imgAt d.R n f=none:=by unfold imgAt;rw[hg];simp only;rw[hd]
   (try simp only[app]at hS);refine Gp ?_
   refine zc (λh=>absurd h (by decide)) (λ_=>?_)
   refine⟨[.ob (DskO dp d),.mem H'],⟨H',hh,rfl,?_⟩,SL.into hS Xi⟩
   rw[hi];exact⟨_,_,rfl⟩
  | some y=>
   rw[hd]at hq
   obtain⟨v,H',hh,hT,rfl,rfl⟩:=hq
   have hi:imgAt d.R n f=if y.2.length=n then some y else none:=by unfold imgAt;rw[hg];simp only;rw[hd]
   (try simp only[app]at hS);refine Gp ?_
   refine zc (λ_=>?_) (λh=>absurd rfl h)
   refine yn hT ?_
   refine Gp ?_
   refine⟨[.ob (DskO dp d),.mem H'],⟨H',hh,rfl,?_⟩,SL.into hS Xi⟩
   rw[hi]
   by_cases hl:y.2.length=n
   ·rw[if_pos hl,decide_eq_true (by omega)]
    exact⟨v,hT,rfl⟩
   ·rw[if_neg hl,decide_eq_false (by omega)]
    exact⟨_,_,rfl⟩
def loadAt(R:List PF)(n:Nat)(x:Img):Nat→Img
 | 0=>x
 | 1=>load1 R n 0 x
 | _=>load1 R n 1 (load1 R n 0 x)
theorem imgAt_may{R:List PF}{n:Nat}{f:Int}{y:Int × Tabs}(h:imgAt R n f=some y):mayImg y.1 y.2=true∧y.2.length=n:=by
 unfold imgAt at h
 split at h
 ·cases h
 ·split at h
  ·cases h
  ·rename_i hd
   split at h
   ·rename_i hl
    cases h
    exact⟨decImg_may hd,hl⟩
   ·cases h
theorem set_next{α:Type}{l m:List α}{i:Nat}(hi:i<l.length)(h:m.length=l.length):(l.take i++m.drop i).set i l[i]=l.take (i+1)++m.drop (i+1):=by
 rw[List.set_append_right _ _ (by rw[List.length_take];omega),List.length_take,show i-min i l.length=0 by omega,List.drop_eq_getElem_cons (by omega:i<m.length),List.set_cons_zero,List.take_succ_eq_append_getElem hi,List.append_assoc]
 rfl
theorem loadAt_s{R:List PF}{n:Nat}{x:Img}{j:Nat}(h:j≤1):loadAt R n x (j+1)=load1 R n j (loadAt R n x j):=by
 match j,h with
 | 0,_=>rfl
 | 1,_=>rfl
theorem load1_len{R:List PF}{n:Nat}{f:Int}{x:Img}(h:x.2.2.length=n):(load1 R n f x).2.2.length=n:=by
 unfold load1
 cases hi:imgAt R n f with
 | none=>exact h
 | some y=>
  simp only
  split
  ·exact h
  ·exact (imgAt_may hi).2
theorem load1_img{R:List PF}{n:Nat}{f:Int}{x:Img}(h:0≤x.2.1∧x.2.1≤1099511627776):0≤(load1 R n f x).2.1∧(load1 R n f x).2.1≤1099511627776:=by
 unfold load1
 cases hi:imgAt R n f with
 | none=>exact h
 | some y=>
  simp only
  split
  ·exact h
  ·have:=(mayImg_iff.1 (imgAt_may hi).1).1
   exact⟨this.1,this.2.1⟩
theorem QM(sp tp dp lp:Nat)(d:DS)(H:Heap)(x0:Img)(n:Nat)(hx0:x0.2.2.length=n)(h8:n≤8){N:Nat}(hok:d.Ok N)(hN:N≤140737488355328):
  SP 56 [ptrA sp] [.pt sp (scells tp dp lp x0.1 x0.2.1) 58,.ob (TabO tp x0.2.2),.ob (DskO dp d),.mem H] (λ_ post=>∃H',H.le H'∧post=[.pt sp (scells tp dp lp (load1 d.R n 1 (load1 d.R n 0 x0)).1 (load1 d.R n 1 (load1 d.R n 0 x0)).2.1) 58,.ob (TabO tp (load1 d.R n 1 (load1 d.R n 0 x0)).2.2),.ob (DskO dp d),.mem H']):=by
 intro W F w hS;apply vc56;unfold Vc56;(try simp only[app]at hS)
 refine⟨λus w=>∃(j:Nat) (H':Heap),us=[.int .i64 j]∧j≤2∧H.le H'∧(loadAt d.R n x0 j).2.2.length=n∧SL W (.pt sp (scells tp dp lp (loadAt d.R n x0 j).1 (loadAt d.R n x0 j).2.1) 58::.ob (TabO tp (loadAt d.R n x0 j).2.2)::.ob (DskO dp d)::.mem H'::F) w,
  λus _=>match us with|[.int _ i]=>(2-i).toNat|_=>0,⟨0,H,rfl,by omega,Heap.le_refl H,hx0,hS⟩,?_⟩
 clear hS
 rintro v2 w ⟨j,H',hus,hj,hh,hxl,hS⟩
 cases hus
 refine Gp ?_
 refine zc (λh=>?_) (λh=>?_)
 ·have hj1:j≤1:=by omega
  have hstep:=loadAt_s (R:=d.R) (n:=n) (x:=x0) hj1
  have hfin:∀{w:World} {H2:Heap} (y:Img),load1 d.R n j (loadAt d.R n x0 j)=y→H.le H2→SL W (.pt sp (scells tp dp lp y.1 y.2.1) 58::.ob (TabO tp y.2.2)::.ob (DskO dp d)::.mem H2::F) w →
    ∃(j':Nat) (H':Heap),[Value.int .i64 ((j+1:Nat):Int)]=[.int .i64 j']∧j'≤2∧H.le H'∧(loadAt d.R n x0 j').2.2.length=n∧SL W (.pt sp (scells tp dp lp (loadAt d.R n x0 j').1 (loadAt d.R n x0 j').2.1) 58::.ob (TabO tp (loadAt d.R n x0 j').2.2)::.ob (DskO dp d)::.mem H'::F) w:=λy hy h02 hS=>by
   refine⟨j+1,_,rfl,by omega,h02,?_,?_⟩
   ·rw[hstep];exact load1_len hxl
   ·rw[hstep,hy];exact hS
  generalize hx:loadAt d.R n x0 j=x at *
  refine Gn λw hS=>?_
  refine Cg (yQ tp x.2.2) λw hS=>?_
  (refine Cc (QE dp d H' x.2.2.length j hok hN) ?_;clear hS)
  rintro r post ⟨H2,h12,rfl,hq⟩ w hS
  (try simp only[app]at hS)
  rw[hxl]at hq
  have h02:=Heap.le_trans hh h12
  cases hi:imgAt d.R n j with
  | none=>
   rw[hi]at hq
   obtain⟨a,b,rfl⟩:=hq
   refine Gp ?_
   refine⟨λus w=>False,?_,λw h=>h.elim⟩
   refine zP (zy ?_)
   refine Gp ?_
   exact⟨hfin x (by unfold load1;rw[hi]) h02 (SL.into hS Xi),by dsimp only;omega⟩
  | some y=>
   rw[hi]at hq
   obtain⟨v,hT,rfl⟩:=hq
   obtain⟨hmay,hyl⟩:=imgAt_may hi
   have hTs:=(mayImg_iff.1 hmay).2
   refine Gp ?_
   refine⟨λus w=>us=[]∧¬(0≤x.1∧y.1≤x.2.1)∧SL W (.pt sp (scells tp dp lp x.1 x.2.1) 58::.ob (TabO tp x.2.2)::.ob (DskO dp d)::.mem H2::F) w,?_,?_⟩
   ·refine zP (zt ?_)
    refine Gp ?_
    refine zc (λh0=>?_) (λh0=>?_)
    ·refine Gp ?_
     refine zc (λh1=>?_) (λh1=>?_)
     ·refine Gp ?_
      exact⟨hfin x (by unfold load1;rw[hi];simp only;rw[if_pos ⟨h0,h1⟩]) h02 (SL.into hS Xi),by dsimp only;omega⟩
     ·exact⟨rfl,λh=>h1 h.2,SL.into hS Xi⟩
    ·exact⟨rfl,λh=>h0 h.1,SL.into hS Xi⟩
   clear hS
   rintro w ⟨-,hc,hS⟩
   refine Gn λw hS=>?_
   refine yn hT ?_
   have hS:SL W (_::.ob (TabO tp (y.2.take 0++x.2.2.drop 0))::_) _:=hS
   refine⟨λus w=>∃i:Nat,us=[.int .i64 i]∧i≤y.2.length∧SL W (.ob (TabO tp (y.2.take i++x.2.2.drop i))::.pt sp (scells tp dp lp j y.1) 58::.ob (DskO dp d)::.mem H2::F) w,
    λus _=>match us with|[.int _ i]=>(y.2.length-i).toNat|_=>0,⟨0,rfl,by omega,SL.into hS Xi⟩,?_⟩
   clear hS
   rintro v54 w ⟨i,hus,hil,hS⟩
   cases hus
   refine Gp ?_
   refine zc (λh=>?_) (λh=>?_)
   ·have hil:i<y.2.length:=by omega
    have hnx:=set_next (m:=x.2.2) hil (by omega)
    have htl:i<(y.2.take i++x.2.2.drop i).length:=by rw[List.length_append,List.length_take,List.length_drop];omega
    have hTi:=hTs _ (List.getElem_mem hil)
    refine YE hS Xh hT hil λu hu=>?_
    generalize y.2[i]=C at *
    generalize y.2.take i++x.2.2.drop i=T at *
    refine Gp ?_
    refine Cg (Qi tp T H2 u i C htl hu hTi.sorted (by have:=hTi.len;omega)) λw hS=>?_
    refine⟨⟨i+1,rfl,by omega,?_⟩,by dsimp only;omega⟩
    rw[← hnx]
    exact SL.into hS Xi
   ·obtain rfl:i=y.2.length:=by omega
    rw[List.take_length,List.drop_eq_nil_of_le (by omega),List.append_nil]at hS
    refine Gp ?_
    exact⟨hfin (j,y.1,y.2) (by unfold load1;rw[hi];simp only;rw[if_neg hc]) h02 (SL.into hS Xi),by dsimp only;omega⟩
 ·obtain rfl:j=2:=by omega
  exact⟨_,⟨H',hh,rfl⟩,hS⟩
def PSrc.redoK(k:PSrc):Option Tabs:=match redoS k.ts.length k.image (entsG k.g.segs) (lowG k.g.segs) k.ts with
 | none=>none
 | some ts=>if k.image≤headG k.g.segs∧lowG k.g.segs≤k.image+1 then some ts else none
theorem ents_cnt{L:List PSeg}(h:SeqG L):headG L-lowG L+1=((entsG L).length:Int):=by
 by_cases hL:L=[]
 ·subst hL;rfl
 ·rw[h.head hL];omega
theorem lowG_rng{L:List PSeg}{N:Nat}(h:∀s∈L,SegOk s N):1≤lowG L∧lowG L≤1099511627776:=by
 cases L with
 | nil=>exact⟨Int.le_refl _,by show (1:Int)≤_;decide⟩
 | cons s r=>exact⟨(h s (.head _)).n0,(h s (.head _)).n1⟩
theorem redoS_cons{n:Nat}{image:Int}{b:List UInt8}{r:List (List UInt8)}{lsn:Int}{ts:Tabs}:redoS n image (b::r) lsn ts=match decTxn b with
  | .error _=>none
  | .ok t=>if t.lsn=lsn∧(∀c∈t.changes,c.table<(n:Int)) then redoS n image r (lsn+1) (if image<lsn then appsTs ts t.changes else ts) else none:=rfl
theorem QY(sp tp dp lp:Nat)(H:Heap)(k:PSrc){N:Nat}(hg:GOk k.g N)(hN:N≤1000000000)(hs:∀C∈k.ts,SortedR C){L0:Nat}(hn:∀C∈k.ts,C.length≤L0)(hL:L0+16*(entsG k.g.segs).length≤900000)(him:0≤k.image∧k.image≤1099511627776):
  SP 57 [ptrA sp] [.ob (SrcO sp tp dp lp k),.mem H] (λv post=>∃H',H.le H'∧match k.redoK with
   | none=>v= .bool false∧post=[.mem H']
   | some ts=>v= .bool true∧post=[.ob (SrcO sp tp dp lp {k with ts:=ts}),.mem H']):=by
 intro W F w hS;apply vc57;unfold Vc57;(try simp only[app]at hS)
 have hF:∀{w:World} {H':Heap},k.redoK=none→H.le H'→SL W (.mem H'::F) w→∃post,(∃H',H.le H'∧match k.redoK with
   | none=>(.bool false:Value)= .bool false∧post=[.mem H']
   | some ts=>(.bool false:Value)= .bool true∧post=[.ob (SrcO sp tp dp lp {k with ts:=ts}),.mem H'])∧SL W (app post F) w:=λhr hh hS=>by
  rw[hr]
  exact⟨[.mem _],⟨_,hh,rfl,rfl⟩,hS⟩
 have hcnt:=ents_cnt hg.seq
 have hlow:=lowG_rng hg.ok.segs
 have hhd:=hg.hd
 refine Cg (Yo sp tp dp lp k hg hN) λw hS=>?_
 refine⟨λus w=>∃(i:Nat) (T:Tabs) (H2:Heap),us=[.int .i64 (lowG k.g.segs+i)]∧i≤(entsG k.g.segs).length∧redoS k.ts.length k.image (entsG k.g.segs) (lowG k.g.segs) k.ts=redoS k.ts.length k.image ((entsG k.g.segs).drop i) (lowG k.g.segs+i) T∧T.length=k.ts.length∧(∀C∈T,SortedR C)∧(∀C∈T,C.length≤L0+16*i)∧H.le H2∧SL W (.ob (SrcO sp tp dp lp {k with ts:=T})::.mem H2::F) w,
  λus _=>match us with|[.int _ i]=>(headG k.g.segs+1-i).toNat|_=>0,⟨0,k.ts,H,by simp,by omega,by simp,rfl,hs,by simpa using hn,Heap.le_refl H,SL.into hS Xi⟩,?_⟩
 clear hS
 rintro v3 w ⟨i,T,H2,hus,hi,hrd,hTl,hTs,hTn,hh,hS⟩
 cases hus
 refine Cg (yk sp tp dp lp {k with ts:=T} hg hN) λw hS=>?_
 refine zc (λh=>?_) (λh=>?_)
 ·have h:lowG k.g.segs+i≤headG k.g.segs:=h
  have hil:i<(entsG k.g.segs).length:=by omega
  have hread:=hg.seq.read i
  rw[List.getElem?_eq_getElem hil]at hread
  rw[List.drop_eq_getElem_cons hil,redoS_cons]at hrd
  generalize (entsG k.g.segs)[i]=bs at *
  have hlsn:1≤lowG k.g.segs+i∧lowG k.g.segs+i≤1099511627776:=by omega
  generalize hlq:lowG k.g.segs+i=lsn at *
  have hrk:(match decTxn bs with
   | .error _=>none
   | .ok t=>if t.lsn=lsn∧(∀c∈t.changes,c.table<(k.ts.length:Int)) then redoS k.ts.length k.image ((entsG k.g.segs).drop (i+1)) (lsn+1) (if k.image<lsn then appsTs T t.changes else T) else none)=none→k.redoK=none:=λh=>by unfold PSrc.redoK;rw[hrd,h]
  (refine Cc (Z0 sp tp dp lp {k with ts:=T} hg hN H2 lsn (by omega)) ?_;clear hS)
  rintro r post hq w hS
  unfold ReadSQ PSrc.readS at hq
  simp only at hq
  rw[hread]at hq
  simp only at hq
  cases hd:decTxn bs with
  | error e=>
   rw[hd]at hq hrk
   obtain⟨hne,H3,h23,rfl,rfl⟩:=hq
   refine Gm λb w hS=>?_
   refine zc (λ_=>?_) (λh=>absurd hne h)
   exact hF (hrk rfl) (Heap.le_trans hh h23) (SL.into hS Xi)
  | ok t=>
   rw[hd]at hq hrk hrd
   obtain⟨x,H3,h23,rfl,hx,rfl⟩:=hq
   have h03:=Heap.le_trans hh h23
   obtain⟨ht1,ht2,ht3,ht4,ht5,ht6,ht7⟩:=mayTx_all (decTxn_may hd)
   (try simp only[app]at hS)
   refine Gp ?_
   refine zN hS λxb w hS=>?_
   refine zL (vs:=encTx x) hS Xu rfl rfl (encTx_one1 (lsn:=x.lsn) (kind:=x.kind) (mark:=x.mark) hx.cv.one hx.sv.one) λw hS=>?_
   unfold encTx at hS
   rw[hx.lsn,hx.kind,hx.mark]at hS
   refine Gn λw hS=>?_
   refine zc (λh=>absurd rfl h) (λ_=>?_)
   refine Gp ?_
   refine zc (λhl=>?_) (λhl=>?_)
   ·exact hF (hrk (by simp only;rw[if_neg λh=>hl h.1])) h03 (SL.into hS Xi)
   have hS:=SrcO.iff.1 (SL.into hS (t:=.ob (SrcO sp tp dp lp {k with ts:=T})::.pt xb [.int .i64 t.lsn,.int .i64 t.kind,x.cv,x.sv,.int .i64 t.mark] 39::.mem H3::F) Xi)
   refine Gp ?_
   refine Cg (yQ tp T) λw hS=>?_
   refine Cg (ZH H3 x.cv t.changes T.length hx.cv (by omega)) λw hS=>?_
   rw[hTl]
   refine zA (λhb=>?_) (λhb=>?_)
   ·have hb:=of_decide_eq_false hb
    exact hF (hrk (by simp only;rw[if_neg λh=>hb h.2])) h03 (SL.into hS Xi)
   have hb:=of_decide_eq_true hb
   have hall:t.changes.all (chgIn T.length)=true:=List.all_eq_true.2 λc hc=>decide_eq_true ⟨(mayCh_iff.1 (ht6 c hc)).1,by rw[hTl];exact hb c hc⟩
   simp only at hrd
   rw[if_pos (show t.lsn=lsn∧∀c∈t.changes,c.table<(k.ts.length:Int) from ⟨by omega,hb⟩)]at hrd
   have hlq2:lsn+1=lowG k.g.segs+((i+1:Nat):Int):=by omega
   rw[hlq2]at hrd
   refine Gp ?_
   refine zc (λhi2=>?_) (λhi2=>?_)
   ·rw[if_pos (show k.image<lsn by omega)]at hrd
    refine Gn λw hS=>?_
    refine Cg (ZA tp T H3 x.cv t.changes hx.cv (by omega) hTs (L0+16*i) hTn (by omega)) λw hS=>?_
    rw[if_pos hall]at hS
    rw[hlq2]
    refine⟨⟨i+1,appsTs T t.changes,H3,rfl,by omega,hrd,by rw[appsTs_len];exact hTl,appsTs_sort hTs λc hc=>List.all_eq_true.1 hall c hc,λC hC=>?_,h03,SL.into (SrcO.put {k with ts:=appsTs T t.changes} hS Xp) Xi⟩,by dsimp only;omega⟩
    have:=appsTs_lenR (L0+16*i) (l:=t.changes) hTn (λc hc=>List.all_eq_true.1 hall c hc) C hC
    omega
   ·rw[if_neg (show ¬k.image<lsn by omega)]at hrd
    refine Gp ?_
    rw[hlq2]
    exact⟨⟨i+1,T,H3,rfl,by omega,hrd,hTl,hTs,λC hC=>by have:=hTn C hC;omega,h03,SL.into (SrcO.put {k with ts:=T} hS Xp) Xi⟩,by dsimp only;omega⟩
 ·have h:¬lowG k.g.segs+i≤headG k.g.segs:=h
  obtain rfl:i=(entsG k.g.segs).length:=by omega
  rw[List.drop_length]at hrd
  have hrd:redoS k.ts.length k.image (entsG k.g.segs) (lowG k.g.segs) k.ts=some T:=hrd
  have hR:k.redoK=if k.image≤headG k.g.segs∧lowG k.g.segs≤k.image+1 then some T else none:=by unfold PSrc.redoK;rw[hrd]
  have hS:SL W (.pt sp (scells tp dp lp k.newest k.image) 58::.ob (TabO tp T)::.ob (LogO lp dp k.g)::_) _:=SrcO.iff.1 hS
  refine Gn λw hS=>?_
  have hS:=SrcO.put {k with ts:=T} hS Xp
  refine Cg (yk sp tp dp lp {k with ts:=T} hg hN) λw hS=>?_
  have hS:SL W (.pt sp (scells tp dp lp k.newest k.image) 58::.ob (TabO tp T)::.ob (LogO lp dp k.g)::_) _:=SrcO.iff.1 hS
  refine Gp ?_
  refine zc (λh1=>?_) (λh1=>?_)
  ·have h1:k.image≤headG k.g.segs:=h1
   refine Gp ?_
   have hS:=SrcO.put {k with ts:=T} hS Xp
   refine Cg (Yo sp tp dp lp {k with ts:=T} hg hN) λw hS=>?_
   have hS:SL W (.pt sp (scells tp dp lp k.newest k.image) 58::.ob (TabO tp T)::.ob (LogO lp dp k.g)::_) _:=SrcO.iff.1 hS
   refine Gp ?_
   have hS:=SrcO.put {k with ts:=T} hS Xp
   by_cases h2:lowG k.g.segs≤k.image+1
   ·rw[decide_eq_true (show lowG ({k with ts:=T}:PSrc).g.segs≤k.image+1 from h2)]
    refine⟨[.ob (SrcO sp tp dp lp {k with ts:=T}),.mem H2],⟨H2,hh,?_⟩,SL.into hS Xi⟩
    rw[hR,if_pos ⟨h1,h2⟩]
    exact⟨rfl,rfl⟩
   ·rw[decide_eq_false (show ¬lowG ({k with ts:=T}:PSrc).g.segs≤k.image+1 from h2)]
    exact hF (by rw[hR,if_neg λh=>h2 h.2]) hh (SL.into hS Xi)
  ·exact hF (by rw[hR,if_neg λh=>h1 h.1]) hh (SL.into hS Xi)
def OpenSQ(dp:Nat)(H:Heap)(y:DS × Except Int PSrc)(r:Value)(post:List Chunk):Prop:=match y.2 with
 | .error e=>e≠0∧∃H',H.le H'∧r= .tuple #[.pointer none,.int .i64 e]∧post=[.ob (DskO dp y.1),.mem H']
 | .ok k=>∃sp tp lp H',H.le H'∧r= .tuple #[ptrA sp,.int .i64 0]∧post=[.ob (SrcO sp tp dp lp k),.ob (DskO dp y.1),.mem H']
theorem loadI_may{R:List PF}{n:Nat}{x:Img}(hx:x.2.2.length=n∧(0≤x.2.1∧x.2.1≤1099511627776)∧∀C∈x.2.2,TabOk C)(f:Int):(load1 R n f x).2.2.length=n∧(0≤(load1 R n f x).2.1∧(load1 R n f x).2.1≤1099511627776)∧∀C∈(load1 R n f x).2.2,TabOk C:=by
 refine⟨load1_len hx.1,load1_img hx.2.1,?_⟩
 unfold load1
 cases hi:imgAt R n f with
 | none=>exact hx.2.2
 | some y=>
  simp only
  split
  ·exact hx.2.2
  ·exact (mayImg_iff.1 (imgAt_may hi).1).2
theorem loadI_all(R:List PF)(n:Nat):(loadI R n).2.2.length=n∧(0≤(loadI R n).2.1∧(loadI R n).2.1≤1099511627776)∧∀C∈(loadI R n).2.2,TabOk C:=
 loadI_may (loadI_may (x:=(-1,0,List.replicate n [])) ⟨List.length_replicate,⟨show (0:Int)≤0 by decide,show (0:Int)≤1099511627776 by decide⟩,λC hC=>by rw[(List.mem_replicate.1 hC).2];exact⟨List.Pairwise.nil,by simp,by decide⟩⟩ 0) 1
theorem sopen_specW(H:Heap)(dp:Nat)(d:DS)(tabs size:Int){N B:Nat}(hok:d.Ok B)(hB:B≤140737488355328)(hw:WinLe d.R 16 N)(hN:N≤900000000)(hops:d.ops≤90000)(hn:∀d' g,openG d 16 size=(d',.ok g)→(entsG g.segs).length≤50000):
  SP 12 [ptrA dp,.int .i64 tabs,.int .i64 size] [.ob (DskO dp d),.mem H] (OpenSQ dp H (openS d tabs size)):=by
 intro W F w hS;apply vc12;unfold Vc12;(try simp only[app]at hS)
 have hR:=hok.rlen
 (refine Cc (Q4 tabs) ?_;clear hS)
 rintro r post hq w hS
 unfold NewTQ at hq
 by_cases ht:tabs<1∨8<tabs
 ·rw[if_pos ht]at hq
  obtain⟨rfl,rfl⟩:=hq
  have e:openS d tabs size=(d,.error 1):=by unfold openS;rw[if_pos ht]
  rw[e]
  (try simp only[app]at hS);refine Gp ?_
  refine zc (λ_=>?_) (λh=>absurd (by decide) h)
  exact⟨_,⟨by decide,H,Heap.le_refl H,rfl,rfl⟩,SL.into hS Xi⟩
 rw[if_neg ht]at hq
 obtain⟨tp,rfl,rfl⟩:=hq
 obtain⟨n,rfl⟩:∃n:Nat,tabs=n:=⟨tabs.toNat,by omega⟩
 rw[Int.toNat_natCast]at hS
 (try simp only[app]at hS);refine Gp ?_
 refine zc (λh=>absurd rfl h) (λ_=>?_)
 (refine Cc (openL_specW dp d 16 size hok hB hw (by omega) (by omega) (by omega)) ?_;clear hS)
 rintro r post hq w hS
 unfold openS
 rw[if_neg ht]
 unfold OpenQ at hq
 have hdk:=openG_ok (base:=16) (size:=size) hok
 cases hog:openG d 16 size with
 | mk d' o=>
  rw[hog]at hq hdk
  cases o with
  | error e=>
   obtain⟨he,rfl,rfl⟩:=hq
   (try simp only[app]at hS);refine Gp ?_
   refine zc (λ_=>?_) (λh=>absurd he h)
   exact⟨_,⟨he,H,Heap.le_refl H,rfl,rfl⟩,SL.into hS Xi⟩
  | ok g=>
   obtain⟨lp,rfl,rfl⟩:=hq
   have hG:=openG_GOkW hw (by omega) hog
   have hent:=hn d' g hog
   obtain⟨x1,x2,x3⟩:=loadI_all d'.R n
   (try simp only[app]at hS);refine Gp ?_
   refine zc (λh=>absurd rfl h) (λ_=>?_)
   refine Gp ?_
   refine zJ hS λsp w hS=>?_
   (refine Cc (QM sp tp dp lp d' H (-1,0,List.replicate n []) n List.length_replicate (by omega) hdk hB) ?_;clear hS)
   rintro _ post ⟨H2,h02,rfl⟩ w hS
   (try simp only[app]at hS)
   have hli:load1 d'.R n 1 (load1 d'.R n 0 (-1,0,List.replicate n []))=loadI d'.R n:=rfl
   rw[hli]at hS
   simp only[Int.toNat_natCast]
   generalize loadI d'.R n=x at *
   obtain⟨nw,im,ts⟩:=x
   simp only at x1 x2 x3 hS ⊢
   have hS:=SrcO.putN (d:=d') hS Xp
   (refine Cc (QY sp tp dp lp H2 ⟨g,d',ts,nw,im⟩ hG (by omega) (λC hC=>(x3 C hC).sorted) (L0:=1000) (λC hC=>(x3 C hC).len) (by show 1000+16*(entsG g.segs).length≤900000;omega) x2) ?_;clear hS)
   rintro r post ⟨H3,h23,hq⟩ w hS
   have h03:=Heap.le_trans h02 h23
   have hK:PSrc.redoK ⟨g,d',ts,nw,im⟩=match redoS n im (entsG g.segs) (lowG g.segs) ts with
    | none=>none
    | some ts=>if im≤headG g.segs∧lowG g.segs≤im+1 then some ts else none:=by rw[← x1];rfl
   rw[hK]at hq
   clear hK
   cases hr:redoS n im (entsG g.segs) (lowG g.segs) ts with
   | none=>
    rw[hr]at hq
    obtain⟨rfl,rfl⟩:=hq
    (try simp only[app]at hS)
    refine zP (zy ?_)
    exact⟨_,⟨by decide,H3,h03,rfl,rfl⟩,SL.into hS Xi⟩
   | some ts2=>
    rw[hr]at hq
    simp only at hq
    by_cases hc:im≤headG g.segs∧lowG g.segs≤im+1
    ·rw[if_pos hc]at hq
     obtain⟨rfl,rfl⟩:=hq
     (try simp only[app]at hS)
     refine zP (zt ?_)
     simp only
     rw[if_pos hc]
     exact⟨_,⟨sp,tp,lp,H3,h03,rfl,rfl⟩,SL.into hS Xi⟩
    ·rw[if_neg hc]at hq
     obtain⟨rfl,rfl⟩:=hq
     (try simp only[app]at hS)
     refine zP (zy ?_)
     simp only
     rw[if_neg hc]
     exact⟨_,⟨by decide,H3,h03,rfl,rfl⟩,SL.into hS Xi⟩
theorem q5(H:Heap)(dp:Nat)(d:DS)(tabs size:Int){N:Nat}(hok:d.Ok N)(hN:N≤900000000)(hops:d.ops≤90000)(hn:∀d' g,openG d 16 size=(d',.ok g)→(entsG g.segs).length≤50000):
  SP 12 [ptrA dp,.int .i64 tabs,.int .i64 size] [.ob (DskO dp d),.mem H] (OpenSQ dp H (openS d tabs size)):=
 sopen_specW H dp d tabs size hok (by omega) (WinLe.all hok.len 16) hN hops hn
theorem qS(X:Chunk)(v:Value)(q:List UInt8)(hq:Rdb X v q)(hN:q.length≤10000000000):SP 173 [v] [X] (ReadQ2 X q):=by
 intro W F w hS;apply vc173;unfold Vc173;(try simp only[app]at hS)
 (refine Cc (qT X v q hq hN) ?_;clear hS)
 rintro r post ⟨u,es,he,rfl,rfl⟩ w hS;(try simp only[app]at hS)
 have hr:=readS_es he
 have hno:∀{w:World},readS q=none→SL W (X::F) w→∃post,ReadQ2 X q (.tuple #[.int .i64 0,.slice none 0 0,.int .i64 0,.int .i64 3]) post∧SL W (app post F) w:=λh hS=>⟨[X],by unfold ReadQ2;rw[h];exact⟨rfl,rfl⟩,hS⟩
 refine Gp ?_
 refine zx hS (v:=u) (t:=62) (sz:=1) (n:=es.length) (cells:=vals es) Xh ?_
 refine Gp ?_
 refine zc (λh=>?_) (λh=>?_)
 ·have:es=[]:=List.eq_nil_of_length_eq_zero (by omega)
  subst this
  exact hno hr (SL.into hS Xi)
 ·obtain⟨e,es,rfl⟩:∃e es',es=e::es':=by
   cases es with
   | nil=>simp at h
   | cons e es=>exact⟨e,es,rfl⟩
  have hr:readS q=(hdOf e.2).map λk=>(k,byts es,(scanA q).2):=hr
  refine z7 (j:=0) hS (v:=u) (t:=62) (n:=(e::es).length) (cells:=vals (e::es)) Xh (by simp) (u:=e.1) rfl ?_
  have hS:=zh.take (t:=0) (x:=e) (SL.into hS (t:=.ob (zh BEntO (e::es))::.ob (OwnSl u 62 1 (e::es).length (vals (e::es)))::X::F) Xi) rfl
  have e3:(e::es).eraseIdx 0=es:=rfl
  rw[e3]at hS
  have hR:Rdb (.ob (BEntO e)) e.1 e.2:=Rdb.own
  have hel:e.2.length≤1048576:=(scanA_ok2 (q.length+1) q (by omega)).1 e.2 (by rw[← he];simp[byts])
  (refine Cc (yM (.ob (BEntO e)) e.1 e.2 hR (by omega)) ?_;clear hS)
  intro r post hQ w hS
  unfold DecQ at hQ
  unfold hdOf at hr
  cases hd:decF e.2 with
  | error k=>
   rw[hd]at hQ hr
   obtain⟨rfl,rfl⟩:=hQ
   (try simp only[app]at hS);refine Gp ?_
   have hk:k≠0:=by
    intro hk
    rw[decF_eq]at hd
    split at hd
    ·cases hd
    ·rename_i h0
     cases hd;exact h0 hk
   refine zc (λ_=>?_) (λh=>absurd hk h)
   exact hno hr (SL.into hS Xi)
  | ok l=>
   rw[hd]at hQ hr
   obtain⟨y,rfl,rfl⟩:=hQ
   (try simp only[app]at hS);refine Gp ?_
   refine zc (λh=>absurd rfl h) (λ_=>?_)
   refine zx hS (v:=y) (t:=174) (sz:=3) (n:=l.length) (cells:=(l.map fdcells).flatten) Xh ?_
   refine Gp ?_
   refine zc (λh1=>?_) (λh1=>?_)
   ·have:hdF l=none:=by
     match l,h1 with
     | [],_=>rfl
     | [x],h1=>simp at h1
     | _::_::_,_=>rfl
    simp only[this,Option.map_none]at hr
    exact hno hr (SL.into hS Xi)
   ·obtain⟨x,rfl⟩:∃x,l=[x]:=List.length_eq_one_iff.1 (by omega)
    have hx:hdF [x]=if x.kind=1∧1≤x.n∧x.n≤1099511627776 then some x.n else none:=rfl
    simp only[hx]at hr
    refine zD (j:=0) (i:=0) (x:=x) (xs:=[x]) hS (v:=y) (t:=174) (sz:=3) (n:=1) Xh fdcells_len rfl (by omega) (u:=.int .i64 x.kind) rfl ?_
    refine Gp ?_
    refine zc (λh2=>?_) (λh2=>?_)
    ·rw[if_neg (by omega)]at hr
     exact hno hr (SL.into hS Xi)
    ·refine zD (j:=0) (i:=1) (x:=x) (xs:=[x]) hS (v:=y) (t:=174) (sz:=3) (n:=1) Xh fdcells_len rfl (by omega) (u:=.int .i64 x.n) rfl ?_
     refine Gp ?_
     refine zc (λh3=>?_) (λh3=>?_)
     ·rw[if_neg (by omega)]at hr
      exact hno hr (SL.into hS Xi)
     ·refine zD (j:=0) (i:=1) (x:=x) (xs:=[x]) hS (v:=y) (t:=174) (sz:=3) (n:=1) Xh fdcells_len rfl (by omega) (u:=.int .i64 x.n) rfl ?_
      refine Gp ?_
      refine zc (λh4=>?_) (λh4=>?_)
      ·rw[if_neg (by omega)]at hr
       exact hno hr (SL.into hS Xi)
      ·rw[if_pos ⟨by omega,by omega,by omega⟩]at hr
       refine Gn λw hS=>?_
       refine zD (j:=0) (i:=1) (x:=x) (xs:=[x]) hS (v:=y) (t:=174) (sz:=3) (n:=1) Xh fdcells_len rfl (by omega) (u:=.int .i64 x.n) rfl ?_
       have hS:=OwnSo.of (SL.into hS (t:=.ob (OwnSl u 62 1 (e::es).length (vals (e::es)))::.ob (zh BEntO es)::X::F) Xi)
       refine qZ (k:=1) hS (by simp) ?_
       clear hS;intro z hS
       have e1:(e::es).length-1=es.length:=by simp
       have e2:(vals (e::es)).drop (1*1)=vals es:=rfl
       rw[e1,e2]at hS
       refine⟨[.ob (OwnSo z 62 1 es.length (vals es)),.ob (zh BEntO es),X],?_,SL.into hS Xi⟩
       unfold ReadQ2
       rw[hr]
       exact⟨z,es,rfl,rfl,rfl⟩
def ownY(base:Int)(ys:List YF):List YF:=ys.filter λy=>decide (base≤y.1.id∧y.1.id<base+4096)
theorem ownY_ids{base:Int}{ys:List YF}{R:List PF}(h:ys.map Prod.fst=R):(ownY base ys).map (λy=>y.1.id)=idsG base R:=by
 subst h
 unfold idsG ownY
 rw[List.map_map,List.filter_map]
 rfl
theorem ownY_mem{base:Int}{ys:List YF}{y:YF}(h:y∈ownY base ys):y∈ys:=(List.mem_filter.1 h).1
theorem QZ(H:Heap)(xp:Nat)(s:DS)(fv:Value)(ys:List YF)(hrb:RdB H ys)(base:Int)(b0:0≤base)(b1:base≤12288)(hyl:ys.length≤100000):
  SP 172 [.pointer (some ⟨xp,0,none⟩),.int .i64 base] [.pt xp (rcells fv s) 66,.ob (FilesO fv ys)]
   (λv post=>post=[.ob (FilesO v (ownY base ys)),.pt xp (rcells fv s) 66,.ob (FilesO fv ys)]):=by
 intro W F w hS;apply vc172;unfold Vc172;(try simp only[app]at hS)
 have hS0:SL W (.ob (FilesO (.slice none 0 0) (ownY base (ys.take 0)))::.pt xp (rcells fv s) 66::.ob (FilesO fv ys)::F) w:=OwnSl.nil hS
 refine⟨λvs w=>∃(u:Value) (i:Nat),i≤ys.length∧vs=[u,.int .i64 i]∧SL W (.ob (FilesO u (ownY base (ys.take i)))::.pt xp (rcells fv s) 66::.ob (FilesO fv ys)::F) w,
  λvs _=>match vs with|[_,.int _ i]=>(ys.length-i).toNat|_=>0,⟨_,0,by omega,rfl,hS0⟩,?_⟩
 clear hS hS0
 rintro v5 v6 w ⟨u,i,hi,hvs,hS⟩
 cases hvs
 refine Gp ?_
 refine zx hS (v:=fv) (t:=186) (sz:=3) (n:=ys.length) (cells:=(ys.map encRF).flatten) Xh ?_
 refine Gp ?_
 refine zc (λh=>?_) (λh=>?_)
 ·have hil:i<ys.length:=by omega
  have hx:ys[i]?=some ys[i]:=List.getElem?_eq_getElem hil
  have hstep:ownY base (ys.take (i+1))=ownY base (ys.take i)++if base≤ys[i].1.id∧ys[i].1.id<base+4096 then [ys[i]] else []:=by
   unfold ownY
   rw[List.take_add_one,hx,List.filter_append]
   congr 1
   simp only[Option.toList_some,List.filter_cons,List.filter_nil,decide_eq_true_eq]
  have hol:(ownY base (ys.take i)).length≤100000:=by
   unfold ownY
   have:=List.length_filter_le (λy:YF=>decide (base≤y.1.id∧y.1.id<base+4096)) (ys.take i)
   rw[List.length_take]at this;omega
  have hone:=(hrb _ (List.getElem_mem hil)).one
  generalize ys[i]=y at *
  refine Gp ?_
  refine zD (i:=0) hS (v:=fv) (t:=186) Xh encRF_len hx hil (u:=.int .i64 y.1.id) rfl ?_
  refine Gp ?_
  refine zc (λh1=>?_) (λh1=>?_)
  ·refine Gp ?_
   refine zD (i:=0) hS (v:=fv) (t:=186) Xh encRF_len hx hil (u:=.int .i64 y.1.id) rfl ?_
   refine Gp ?_
   refine zc (λh2=>?_) (λh2=>?_)
   ·rw[if_pos ⟨by omega,h2⟩]at hstep
    refine Gp ?_
    refine zZ hS (v:=fv) (t:=186) Xh encRF_len hx hil ?_
    refine zB (cells:=encRF y) hS rfl ?_
    clear hS;intro p w hS
    have h1c:∀v∈encRF y,v.oneCell'=true:=by
     intro v hv
     simp only[encRF,List.mem_cons,List.not_mem_nil,or_false]at hv
     rcases hv with rfl|rfl|rfl
     ·rfl
     ·rfl
     ·exact hone
    refine zz (m:=1) (cs:=encRF y) hS Xr (src_pt0 hS .hd rfl) rfl rfl h1c (by omega) (by omega) ?_
    clear hS;intro u' w hS
    refine Gp ?_
    have e1:(ownY base (ys.take i)).length+1=(ownY base (ys.take (i+1))).length:=by rw[hstep,List.length_append];rfl
    have e2:((ownY base (ys.take i)).map encRF).flatten++encRF y=((ownY base (ys.take (i+1))).map encRF).flatten:=by rw[hstep];simp
    rw[e1,e2]at hS
    exact⟨⟨u',i+1,by omega,rfl,SL.into hS Xi⟩,by dsimp only;omega⟩
   ·rw[if_neg (by omega),List.append_nil]at hstep
    refine Gp ?_
    exact⟨⟨_,i+1,by omega,rfl,by rw[hstep];exact hS⟩,by dsimp only;omega⟩
  ·rw[if_neg (by omega),List.append_nil]at hstep
   refine Gp ?_
   exact⟨⟨_,i+1,by omega,rfl,by rw[hstep];exact hS⟩,by dsimp only;omega⟩
 ·obtain rfl:i=ys.length:=by omega
  rw[List.take_length]at hS
  exact⟨_,rfl,hS⟩
def tornI(t:Option PTorn):Int:=match t with
 | none=>-1
 | some x=>x.file
abbrev rlcells(sv:Value)(xp:Nat)(base size t:Int):List Value:=[.pointer (some ⟨xp,0,none⟩),.int .i64 base,.int .i64 size,sv,.int .i64 t]
abbrev RowR(sv:Value)(xs:List XSeg):Chunk:=.ob (OwnSo sv 259 4 xs.length (xs.map xcells).flatten)
def RLogO(lp xp:Nat)(g:PLog):zC:=HEx λx:Value × List XSeg=>zQ (x.2.map XSeg.pl=g.segs) [.pt lp (rlcells x.1 xp g.base g.size (tornI g.torn)) 254,RowR x.1 x.2,.ob (zh XSegO x.2)]
theorem RLogO.iff{W w:World}{lp xp:Nat}{g:PLog}{l:List Chunk}:SL W (.ob (RLogO lp xp g)::l) w↔∃sv xs,xs.map XSeg.pl=g.segs∧SL W (.pt lp (rlcells sv xp g.base g.size (tornI g.torn)) 254::RowR sv xs::.ob (zh XSegO xs)::l) w:=by
 unfold RLogO
 simp only[SL.ex,SL.fact,List.cons_append,List.nil_append]
 exact⟨λ⟨x,h1,h2⟩=>⟨x.1,x.2,h1,h2⟩,λ⟨a,b,h1,h2⟩=>⟨(a,b),h1,h2⟩⟩
theorem RLogO.close{W w:World}{lp xp:Nat}{g:PLog}{l F:List Chunk}{sv:Value}{xs:List XSeg}(h:SL W l w)(hx:xs.map XSeg.pl=g.segs)(k:Into (.pt lp (rlcells sv xp g.base g.size (tornI g.torn)) 254::RowR sv xs::.ob (zh XSegO xs)::F) l):SL W (app [.ob (RLogO lp xp g)] F) w:=
 RLogO.iff.2 ⟨sv,xs,hx,h.into k⟩
theorem RLogO.closeN{W w:World}{lp xp:Nat}{L:List PSeg}{base size:Int}{l F:List Chunk}{sv:Value}{xs:List XSeg}(h:SL W l w)(hx:xs.map XSeg.pl=L)(k:Into (.pt lp (rlcells sv xp base size (-1)) 254::RowR sv xs::.ob (zh XSegO xs)::F) l):SL W (app [.ob (RLogO lp xp ⟨L,base,size,none⟩)] F) w:=
 RLogO.iff.2 ⟨sv,xs,hx,h.into k⟩
theorem RLogO.openN{W w:World}{lp xp:Nat}{L:List PSeg}{base size:Int}{F:List Chunk}(h:SL W (.ob (RLogO lp xp ⟨L,base,size,none⟩)::F) w):∃sv xs,xs.map XSeg.pl=L∧SL W (.pt lp (rlcells sv xp base size (-1)) 254::RowR sv xs::.ob (zh XSegO xs)::F) w:=RLogO.iff.1 h
section
variable {W w:World} {l:List Chunk}
theorem s_segRo{v:Value}{xs:List XSeg}{j:Nat}{k:IntKind}{K:Value→Prop}(h:SL W l w)(m:Has (RowR v xs) l)(hj:j<xs.length)(hK:K (.agg (xcells xs[j]).toArray)):zj 4 v (.int k (j:Int)) λp=>zk 4 p w K:=by
 refine yz h m hj λb o hb=>⟨⟨b,o,none⟩,xcells xs[j],rfl,rfl,λi u hu=>?_,hK⟩
 rw[Addr.add_lit]
 have hi:i<4:=(List.getElem?_eq_some_iff.1 hu).1
 exact hb i u hi (flat_get xcells_len hj hu)
theorem yh{v u:Value}{xs:List XSeg}{i j:Nat}{k:IntKind}{K:Value→Prop}(h:SL W l w)(m:Has (RowR v xs) l)(hj:j<xs.length)(hu:(xcells xs[j])[i]?=some u)(hK:K u):zj 4 v (.int k (j:Int)) λp=>zd i p λq=>HLd q w K:=by
 refine yz h m hj λb o hb=>?_
 refine zS ?_
 have hi:i<4:=(List.getElem?_eq_some_iff.1 hu).1
 exact⟨_,u,rfl,hb i u hi (flat_get xcells_len hj hu),hK⟩
end
theorem z8(lp xp:Nat)(sv:Value)(xs:List XSeg)(base size t:Int)(hl:xs.length≤1000000000000000):SP 175 [.pointer (some ⟨lp,0,none⟩)] [.pt lp (rlcells sv xp base size t) 254,RowR sv xs]
  (Gives (.int .i64 ((xs.length:Int)-1)) [.pt lp (rlcells sv xp base size t) 254,RowR sv xs]):=by
 intro W F w hS;apply vc175;unfold Vc175;(try simp only[app]at hS)
 refine Gp ?_
 refine zV hS (v:=sv) (t:=259) (sz:=4) (n:=xs.length) (cells:=(xs.map xcells).flatten) Xh ?_
 refine Gp ?_
 exact⟨_,⟨rfl,rfl⟩,hS⟩
theorem Zq(lp xp:Nat)(g:PLog){M:Nat}(hg:g.Ok M)(hM:M≤1000000000000):SP 87 [.pointer (some ⟨lp,0,none⟩)] [.ob (RLogO lp xp g)] (Gives (.int .i64 (lowG g.segs)) [.ob (RLogO lp xp g)]):=by
 intro W F w hS;apply vc87;unfold Vc87;(try simp only[app]at hS)
 obtain⟨sv,xs,hx,hS⟩:=RLogO.iff.1 hS
 obtain⟨h1,h2,_,_⟩:=hg.xs hx
 refine Gp ?_
 refine zV hS (v:=sv) (t:=259) (sz:=4) (n:=xs.length) (cells:=(xs.map xcells).flatten) Xh ?_
 refine Gp ?_
 refine zc (λh0=>?_) (λh0=>?_)
 ·have:xs=[]:=List.eq_nil_of_length_eq_zero (by omega)
  have e:lowG g.segs=1:=by rw[← hx,this];rfl
  rw[e]
  exact⟨_,⟨rfl,rfl⟩,RLogO.close hS hx Xi⟩
 ·cases xs with
  | nil=>simp at h0
  | cons x xs=>
   have e:lowG g.segs=x.first:=by rw[← hx];rfl
   rw[e]
   refine Gp ?_
   refine yh (j:=0) (i:=1) hS Xh (by simp) (u:=.int .i64 x.first) rfl ?_
   exact⟨_,⟨rfl,rfl⟩,RLogO.close hS hx Xi⟩
theorem yV(lp xp:Nat)(sv:Value)(xs:List XSeg)(base size t:Int){M:Nat}(h1:∀s∈xs.map XSeg.pl,SegOk s M)(h2:xs.length≤1000000000000)(hM:M≤1000000000000):SP 86 [.pointer (some ⟨lp,0,none⟩)] [.pt lp (rlcells sv xp base size t) 254,RowR sv xs] (Gives (.int .i64 (headG (xs.map XSeg.pl))) [.pt lp (rlcells sv xp base size t) 254,RowR sv xs]):=by
 intro W F w hS;apply vc86;unfold Vc86;(try simp only[app]at hS)
 refine Gp ?_
 refine zV hS (v:=sv) (t:=259) (sz:=4) (n:=xs.length) (cells:=(xs.map xcells).flatten) Xh ?_
 refine Gp ?_
 refine zc (λh0=>?_) (λh0=>?_)
 ·have:xs=[]:=List.eq_nil_of_length_eq_zero (by omega)
  have e:headG (xs.map XSeg.pl)=0:=by rw[this];rfl
  rw[e]
  exact⟨_,⟨rfl,rfl⟩,SL.into hS Xi⟩
 ·refine Gn λw hS=>?_
  have hj:xs.length-1<xs.length:=by omega
  have hg2:headG (xs.map XSeg.pl)=(xs[xs.length-1]'hj).first-1+((xs[xs.length-1]'hj).es.length:Nat):=by
   unfold headG
   rw[List.getLast?_map,List.getLast?_eq_getElem?,List.getElem?_eq_getElem hj]
   show (xs[xs.length-1]'hj).pl.next-1=_
   rw[xseg_next];omega
  have hok:=h1 _ (List.mem_map.2 ⟨_,List.getElem_mem hj,rfl⟩)
  have e:((xs.length:Nat):Int)-1=((xs.length-1:Nat):Int):=by omega
  have k1:1≤(xs[xs.length-1]'hj).first:=hok.n0
  have k2:(xs[xs.length-1]'hj).first≤1099511627776:=hok.n1
  have k3:(xs[xs.length-1]'hj).es.length≤M:=by have:=hok.ln;simpa [XSeg.pl,byts_len] using this
  have hseg:∀{w:World} {l:List Chunk} {K:Value→Prop},SL W l w→Has (RowR sv xs) l→K (.agg #[.int .i64 (xs[xs.length-1]'hj).file,.int .i64 (xs[xs.length-1]'hj).first,.int .i64 ((xs[xs.length-1]'hj).size:Nat),.slice (xs[xs.length-1]'hj).a (xs[xs.length-1]'hj).es.length (xs[xs.length-1]'hj).c])→zj 4 sv (.int .i64 ((xs.length-1:Nat):Int)) λp=>zk 4 p w K:=λhS m hK=>s_segRo hS m hj hK
  have hsegP:∀{w:World} {l:List Chunk} {K:Value→Prop},SL W l w→Has (RowR sv xs) l→(∀p,(∀(w':World) (l':List Chunk) (K':Value→Prop),SL W l' w'→Has (RowR sv xs) l'→K' (.agg #[.int .i64 (xs[xs.length-1]'hj).file,.int .i64 (xs[xs.length-1]'hj).first,.int .i64 ((xs[xs.length-1]'hj).size:Nat),.slice (xs[xs.length-1]'hj).a (xs[xs.length-1]'hj).es.length (xs[xs.length-1]'hj).c])→zk 4 p w' K')→K p)→zj 4 sv (.int .i64 ((xs.length-1:Nat):Int)) K:=by
   intro w l K hS m hK
   obtain⟨l2,r⟩:=m.rem
   rcases OwnSo.open (hS.perm r.perm) with ⟨_,h00,_⟩|⟨b,pre,cap,rest,hsv,hc,hl,hr,_⟩
   ·omega
   ·rw[hsv]
    refine zE hj (hK _ λw' l' K' hS' m' hK'=>?_)
    obtain⟨l3,r3⟩:=m'.rem
    rcases OwnSo.open (hS'.perm r3.perm) with ⟨_,h00,_⟩|⟨b',pre',cap',rest',hsv',hc',hl',hr',hS3⟩
    ·omega
    ·rw[hsv]at hsv'
     simp only[Value.slice.injEq,Option.some.injEq,Addr.mk.injEq,true_and,and_true]at hsv'
     obtain⟨⟨rfl,hpl⟩,rfl⟩:=hsv'
     rw[hpl]
     refine⟨_,_,rfl,rfl,λi u hu=>?_,hK'⟩
     rw[Addr.add_lit]
     refine hS3.cell .hd ?_
     have hi:i<4:=(List.getElem?_eq_some_iff.1 hu).1
     have:=flat_get xcells_len hj (i:=i) (u:=u) hu
     rw[Nat.add_assoc,List.getElem?_append_right (by omega),Nat.add_sub_cancel_left,List.getElem?_append_left (List.getElem?_eq_some_iff.1 this).1]
     exact this
  rw[hg2]
  generalize xs[xs.length-1]'hj=x at *
  refine⟨?_,?_⟩
  ·refine Cg (z8 lp xp sv xs base size t (by omega)) λw hS=>?_
   rw[e]
   refine hsegP hS Xh λp hp=>?_
   refine hp _ _ _ hS Xh ?_
   refine Gm λb w hS=>?_
   refine hp _ _ _ hS Xh ?_
   refine Gn λw hS=>?_
   exact⟨_,⟨rfl,rfl⟩,SL.into hS Xi⟩
  ·refine Gm λb w hS=>?_
   refine Cg (z8 lp xp sv xs base size t (by omega)) λw hS=>?_
   rw[e]
   refine hseg hS Xh ?_
   refine Gn λw hS=>?_
   exact⟨_,⟨rfl,rfl⟩,SL.into hS Xi⟩
theorem zX(lp xp:Nat)(g:PLog){M:Nat}(hg:g.Ok M)(hM:M≤1000000000000):SP 86 [.pointer (some ⟨lp,0,none⟩)] [.ob (RLogO lp xp g)] (Gives (.int .i64 (headG g.segs)) [.ob (RLogO lp xp g)]):=by
 intro W F w hS
 obtain⟨sv,xs,hx,hS⟩:=RLogO.iff.1 hS
 obtain⟨h1,h2,_,_⟩:=hg.xs hx
 (refine Cc (yV lp xp sv xs g.base g.size (tornI g.torn) h1 (by omega) hM) ?_;clear hS)
 rintro v post ⟨rfl,rfl⟩ w hS;(try simp only[app]at hS)
 rw[hx]
 exact⟨_,⟨rfl,rfl⟩,RLogO.close hS hx Xi⟩
end Go.Proofs.YtfenmffiidchcaaGreat
