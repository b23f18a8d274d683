/-
  Texts of the proof, joined: SrcS2, FoldS, RefFF, Law06, SrcQ, Law12P, RqP, SinkM, LogSt, SinkP, RLogG, SrcS3, SrcS4, Law12J, TxnR, ImgR, RefD, RefD2, RefD3, RefD4, SetR, RLogS, RLogS2, RLogS3, RLogA, RLogB, SrcR.
-/
import Derived.Test.YtfenmffiidchcaaGreatJ9
import Derived.Test.YtfenmffiidchcaaGreatQVcF
namespace Go.Proofs.YtfenmffiidchcaaGreat
set_option linter.unusedVariables false
set_option maxRecDepth 100000
open Go.RowKit
def drC(d:DS)(f:Int):DS × Int:=if 0≤lenF d.R f then d.cut f 0 else (d,0)
def drA(d:DS)(f:Int)(b:List UInt8):DS × Int:=if (drC d f).2=0 then (drC d f).1.append f b else drC d f
theorem drawD_eq(d:DS)(f:Int)(b:List UInt8):drawD d f b=if (drA d f b).2=0 then (drA d f b).1.sync f else drA d f b:=by
 unfold drawD drA
 rw[show (if 0≤lenF d.R f then d.cut f 0 else (d,0))=drC d f from rfl]
 generalize drC d f=c
 simp only
 by_cases h:c.2=0
 ·rw[if_neg (by simp[h]),if_pos h]
  generalize c.1.append f b=a
  by_cases h2:a.2=0
  ·rw[if_neg (by simp[h2]),if_pos h2]
  ·rw[if_pos h2,if_neg h2]
 ·rw[if_pos h,if_neg h,if_neg h]
theorem drC_ok{d:DS}{f:Int}{N:Nat}(h:d.Ok N):(drC d f).1.Ok N∧(drC d f).1.ops≤d.ops+1:=by
 unfold drC
 split
 ·exact⟨h.cut f 0,ops_cut d f 0⟩
 ·exact⟨h,Nat.le_succ _⟩
theorem drA_ok{d:DS}{f:Int}{b:List UInt8}{N:Nat}(h:d.Ok N):(drA d f b).1.Ok (N+b.length)∧(drA d f b).1.ops≤d.ops+2:=by
 obtain⟨h1,h2⟩:=drC_ok (f:=f) h
 unfold drA
 split
 ·exact⟨h1.append f b,by have:=ops_append (drC d f).1 f b;omega⟩
 ·exact⟨h1.mono (by omega),by omega⟩
theorem drawD_ok{d:DS}{f:Int}{b:List UInt8}{N:Nat}(h:d.Ok N):(drawD d f b).1.Ok (N+b.length)∧(drawD d f b).1.ops≤d.ops+3:=by
 obtain⟨h1,h2⟩:=drA_ok (f:=f) (b:=b) h
 rw[drawD_eq]
 split
 ·exact⟨h1.sync f,by have:=ops_sync (drA d f b).1 f;omega⟩
 ·exact⟨h1,by omega⟩
theorem SOk.mayImg{k:PSrc}{N:Nat}(h:SOk k N):mayImg (headG k.g.segs) k.ts=true:=
 mayImg_iff.2 ⟨⟨(headG_ge h.g.ok.segs).1,h.g.hd,h.n1,h.n8⟩,λC hC=>⟨(h.rows C hC).sorted,(h.rows C hC).rows,h.len C hC⟩⟩
theorem Rd2.zero(H:Heap)(ts:List (List Row)):Rd2 H [] (ts.take 0):=Rd2.nil H
theorem qI(sp tp dp lp:Nat)(k:PSrc)(H:Heap){N:Nat}(hk:SOk k N)(hN:N≤1000000000)(hops:k.d.ops≤90000):
  SP 65 [ptrA sp] [.ob (SrcO sp tp dp lp k),.ob (DskO dp k.d),.mem H] (λv post=>v= .int .i64 k.drawS.2∧∃H',H.le H'∧post=[.ob (SrcO sp tp dp lp k.drawS.1),.ob (DskO dp k.drawS.1.d),.mem H']):=by
 intro W F w hS;apply vc65;unfold Vc65;(try simp only[app]at hS)
 have hn6:∀C∈k.ts,C.length≤1000000:=λC hC=>by have:=hk.len C hC;omega
 have h8:=hk.n8
 have hmi:=hk.mayImg
 have hS:=SrcO.iff.1 hS
 refine⟨λus w=>us=[.int .i64 (otherI k)]∧SL W (.pt sp (scells tp dp lp k.newest k.image) 58::.ob (TabO tp k.ts)::.ob (LogO lp dp k.g)::.ob (DskO dp k.d)::.mem H::F) w,?_,?_⟩
 ·refine Gp ?_
  refine zc (λh=>?_) (λh=>?_)
  ·rw[show otherI k=1 by unfold otherI;rw[if_pos h]]
   refine Gp ?_
   first|exact hS|exact⟨rfl,hS⟩
  ·rw[show otherI k=0 by unfold otherI;rw[if_neg h]]
   first|exact hS|exact⟨rfl,hS⟩
 clear hS
 rintro v3 w ⟨hus,hS⟩
 cases hus
 generalize hf:otherI k=f at *
 refine Gp ?_
 refine Cg (zV tp k.ts) λw hS=>?_
 have hS:SL W (.ob (OwnSl (.slice none 0 0) 53 1 (k.ts.take 0).length [])::_) _:=OwnSl.nil hS
 refine⟨λus w=>∃(i:Nat) (tv:Value) (vs:List Value) (H':Heap),us=[tv,.int .i64 i]∧i≤k.ts.length∧H.le H'∧Rd2 H' vs (k.ts.take i)∧SL W (.ob (OwnSl tv 53 1 (k.ts.take i).length vs)::.pt sp (scells tp dp lp k.newest k.image) 58::.ob (TabO tp k.ts)::.ob (LogO lp dp k.g)::.ob (DskO dp k.d)::.mem H'::F) w,
  λus _=>match us with|[_,.int _ i]=>(k.ts.length-i).toNat|_=>0,⟨0,_,[],H,rfl,by omega,Heap.le_refl H,Rd2.zero H k.ts,SL.into hS Xi⟩,?_⟩
 clear hS
 rintro tv v21 w ⟨i,_,vs,H',hus,hi,hh,hR,hS⟩
 cases hus
 refine Gp ?_
 refine zc (λh=>?_) (λh=>?_)
 ·have hil:i<k.ts.length:=by omega
  refine Gp ?_
  (refine Cc (Z3 tp k.ts i hn6) ?_;clear hS)
  rintro rv post rfl w hS
  rw[tabAt_nat k.ts i hil]at hS
  (try simp only[app]at hS)
  obtain⟨H2,h12,hO,hS⟩:=zz (H:=H') (v:=rv) hS Xp
  have hc1:=hO.one
  have hln:(k.ts.take i).length=i:=by rw[List.length_take];omega
  refine zx hS (fill_v hc1) λb w hS=>?_
  refine zw (n:=(k.ts.take i).length) (m:=1) hS Xr (src_pt0 (cs:=[rv]) hS Xh rfl) rfl rfl (by simpa using hc1) (by omega) (by omega) ?_
  clear hS;intro u w hS
  have hts:k.ts.take (i+1)=k.ts.take i++[k.ts[i]]:=List.take_succ_eq_append_getElem hil
  refine Gp ?_
  refine⟨⟨i+1,u,vs++[rv],H2,rfl,by omega,Heap.le_trans hh h12,by rw[hts];exact (hR.mono h12).snoc hO,?_⟩,by dsimp only;omega⟩
  have hS:=hS.snocL (x:=k.ts[i])
  rw[hts]
  exact SL.into hS Xi
 ·obtain rfl:i=k.ts.length:=by omega
  rw[List.take_length]at hR hS
  obtain⟨H2,h12,hO,hS⟩:=zz (H:=H') (v:=tv) hS Xp
  have h02:=Heap.le_trans hh h12
  have hT:RdTs H2 tv k.ts:=⟨vs,hO,hR.mono h12⟩
  have hS:=SrcO.put k hS Xp
  refine Cg (zU sp tp dp lp k hk.g hN) λw hS=>?_
  (refine Cc (YU H2 tv (headG k.g.segs) k.ts hT (by omega) (λC hC=>by have:=hk.len C hC;omega)) ?_;clear hS)
  rintro r post hq w hS
  unfold EncImQ encImg at hq
  rw[if_pos hmi]at hq
  obtain⟨bv,rfl,rfl⟩:=hq
  (try simp only[app]at hS);refine Gp ?_
  have hbl:(recB (imgB (headG k.g.segs) k.ts)).length≤400000:=by rw[recB_len];have:=imgB_len hmi;omega
  have hD:k.drawS=(let r:=drawD k.d f (recB (imgB (headG k.g.segs) k.ts));if r.2=0 then ({k with d:=r.1,newest:=f,image:=headG k.g.segs},0) else ({k with d:=r.1},r.2)):=by rw[← hf];rfl
  rw[hD]
  clear hD hmi
  generalize recB (imgB (headG k.g.segs) k.ts)=B at *
  have hS:=SrcO.iff.1 (SL.into hS (t:=.ob (SrcO sp tp dp lp k)::.ob (OwnSl bv 5 1 B.length (B.map u8c))::.ob (DskO dp k.d)::.mem H2::F) Xi)
  refine⟨λus w=>us=[.int .i64 (drC k.d f).2]∧SL W (.ob (DskO dp (drC k.d f).1)::.ob (OwnSl bv 5 1 B.length (B.map u8c))::.pt sp (scells tp dp lp k.newest k.image) 58::.ob (TabO tp k.ts)::.ob (LogO lp dp k.g)::.mem H2::F) w,?_,?_⟩
  ·refine Gp ?_
   refine zc (λ_=>?_) (λh=>absurd rfl h)
   refine Gp ?_
   refine Cg (Yc dp k.d f) λw hS=>?_
   refine zc (λh0=>?_) (λh0=>?_)
   ·rw[show drC k.d f=k.d.cut f 0 by unfold drC;rw[if_pos h0]]
    refine Gp ?_
    refine Cg (Zs dp k.d N hk.d (by omega) (by omega) f 0) λw hS=>?_
    first|exact SL.into hS Xi|exact⟨rfl,SL.into hS Xi⟩
   ·rw[show drC k.d f=(k.d,0) by unfold drC;rw[if_neg h0]]
    first|exact SL.into hS Xi|exact⟨rfl,SL.into hS Xi⟩
  clear hS
  rintro v7 w ⟨hus,hS⟩
  cases hus
  obtain⟨hc1,hc2⟩:=drC_ok (f:=f) hk.d
  refine⟨λus w=>us=[.int .i64 (drA k.d f B).2]∧SL W (.ob (DskO dp (drA k.d f B).1)::.pt sp (scells tp dp lp k.newest k.image) 58::.ob (TabO tp k.ts)::.ob (LogO lp dp k.g)::.mem H2::F) w,?_,?_⟩
  ·refine Gp ?_
   refine zc (λh0=>?_) (λh0=>?_)
   ·rw[show drA k.d f B=(drC k.d f).1.append f B by unfold drA;rw[if_pos h0]]
    refine Gp ?_
    refine Cg (appendD_gen (.ob (OwnSl bv 5 1 B.length (B.map u8c))) dp (drC k.d f).1 N hc1 (by omega) f bv B (λh m=>src_own h m) (by omega)) λw hS=>?_
    first|exact SL.into hS Xi|exact⟨rfl,SL.into hS Xi⟩
   ·rw[show drA k.d f B=drC k.d f by unfold drA;rw[if_neg h0]]
    first|exact SL.into hS Xi|exact⟨rfl,SL.into hS Xi⟩
  clear hS
  rintro v7 w ⟨hus,hS⟩
  cases hus
  obtain⟨ha1,ha2⟩:=drA_ok (f:=f) (b:=B) hk.d
  rw[drawD_eq]
  generalize drA k.d f B=a at *
  simp only
  refine Gp ?_
  refine zc (λh0=>?_) (λh0=>?_)
  ·rw[if_pos h0]
   refine Gp ?_
   refine Cg (Z2 dp a.1 (N+B.length) ha1 (by omega) f) λw hS=>?_
   generalize a.1.sync f=c at *
   refine zc (λhe=>?_) (λhe=>?_)
   ·rw[if_neg he]
    exact⟨_,⟨rfl,H2,h02,rfl⟩,SL.into (SrcO.putN (d:=c.1) hS Xp) Xi⟩
   ·rw[if_pos (show c.2=0 by omega)]
    have hS:=SrcO.put k hS Xp
    refine Cg (zU sp tp dp lp k hk.g hN) λw hS=>?_
    have hS:=SrcO.iff.1 (SL.into hS (t:=.ob (SrcO sp tp dp lp k)::.ob (DskO dp c.1)::.mem H2::F) Xi)
    refine Gn λw hS=>?_
    exact⟨_,⟨rfl,H2,h02,rfl⟩,SL.into (SrcO.putN (d:=c.1) (newest:=f) (image:=headG k.g.segs) hS Xp) Xi⟩
  ·rw[if_neg h0,if_neg h0]
   refine Gp ?_
   refine zc (λhe=>?_) (λhe=>absurd (by omega) h0)
   exact⟨_,⟨rfl,H2,h02,rfl⟩,SL.into (SrcO.putN (d:=a.1) hS Xp) Xi⟩
theorem qJ(sp tp dp lp:Nat)(k:PSrc)(H:Heap)(lsn:Int){N:Nat}(hk:SOk k N)(hN:N≤900000000)(hops:k.d.ops+k.g.segs.length≤90000):
  SP 19 [ptrA sp,.int .i64 lsn] [.ob (SrcO sp tp dp lp k),.ob (DskO dp k.d),.mem H] (λv post=>v= .int .i64 (k.trimS lsn).2∧∃H',H.le H'∧post=[.ob (SrcO sp tp dp lp (k.trimS lsn).1),.ob (DskO dp (k.trimS lsn).1.d),.mem H']):=by
 intro W F w hS;apply vc19;unfold Vc19;(try simp only[app]at hS)
 have hend:∀{w:World} {e:Int},k.trimS lsn=(k,e)→SL W (.ob (SrcO sp tp dp lp k)::.ob (DskO dp k.d)::.mem H::F) w→∃post,((.int .i64 e:Value)= .int .i64 (k.trimS lsn).2∧∃H',H.le H'∧post=[.ob (SrcO sp tp dp lp (k.trimS lsn).1),.ob (DskO dp (k.trimS lsn).1.d),.mem H'])∧SL W (app post F) w:=λhe hS=>by
  rw[he];exact⟨_,⟨rfl,H,Heap.le_refl H,rfl⟩,hS⟩
 refine Gp ?_
 refine zc (λh=>hend (by unfold PSrc.trimS;rw[if_pos (.inl h)]) hS) (λh1=>?_)
 refine Cg (zU sp tp dp lp k hk.g (by omega)) λw hS=>?_
 refine zc (λh=>hend (by unfold PSrc.trimS;rw[if_pos (.inr h)]) (SL.into hS Xi)) (λh2=>?_)
 have hS:=SrcO.iff.1 (SL.into hS (t:=.ob (SrcO sp tp dp lp k)::.ob (DskO dp k.d)::.mem H::F) Xi)
 refine Gp ?_
 refine Cg (yk dp k.d) λw hS=>?_
 have hS:=SrcO.put k hS Xp
 have h12:¬(lsn<0∨headG k.g.segs<lsn):=by omega
 cases ho:k.d.off with
 | true=>
  refine zu ?_
  exact hend (by unfold PSrc.trimS;rw[if_neg h12,if_pos ho]) (SL.into hS Xi)
 | false=>
  refine zo ?_
  have hT:k.trimS lsn=(let r:=if k.image<lsn then k.drawS else (k,0);if r.2≠0 then r else let t:=trimG r.1.g r.1.d lsn;({r.1 with g:=t.1.1,d:=t.1.2},t.2)):=by
   unfold PSrc.trimS
   rw[if_neg h12,if_neg (by simp[ho])]
  rw[hT]
  clear hT hend
  have hS:=SrcO.iff.1 (SL.into hS (t:=.ob (SrcO sp tp dp lp k)::.ob (DskO dp k.d)::.mem H::F) Xi)
  refine Gp ?_
  refine zc (λh3=>?_) (λh3=>?_)
  ·rw[if_pos h3]
   have hS:=SrcO.put k hS Xp
   (refine Cc (qI sp tp dp lp k H hk (by omega) (by omega)) ?_;clear hS)
   rintro v post ⟨rfl,H',hh,rfl⟩ w hS
   (try simp only[app]at hS)
   have hg2:k.drawS.1.g=k.g:=by unfold PSrc.drawS;simp only;split<;>rfl
   have hd2:k.drawS.1.d.Ok (N+400000)∧k.drawS.1.d.ops≤k.d.ops+3:=by
    have hmi:=hk.mayImg
    have hbl:(recB (imgB (headG k.g.segs) k.ts)).length≤400000:=by rw[recB_len];have:=imgB_len hmi;omega
    obtain⟨a,b⟩:=drawD_ok (f:=otherI k) (b:=recB (imgB (headG k.g.segs) k.ts)) hk.d
    have:k.drawS.1.d=(drawD k.d (otherI k) (recB (imgB (headG k.g.segs) k.ts))).1:=by unfold PSrc.drawS;simp only;split<;>rfl
    rw[this]
    exact⟨a.mono (by omega),b⟩
   generalize k.drawS=r at *
   obtain⟨k2,e⟩:=r
   simp only at hg2 hd2 hS ⊢
   refine Gp ?_
   refine zc (λhe=>?_) (λhe=>?_)
   ·rw[if_pos he]
    exact⟨_,⟨rfl,H',hh,rfl⟩,SL.into hS Xi⟩
   ·rw[if_neg he]
    have hS:=SrcO.iff.1 hS
    refine Gp ?_
    refine Cg (Zq lp dp k2.g k2.d lsn (by rw[hg2];exact hk.g.ok) (by omega) hd2.1 (by rw[hg2];omega)) λw hS=>?_
    exact⟨_,⟨rfl,H',hh,rfl⟩,SL.into (SrcO.putN (d:=(trimG k2.g k2.d lsn).1.2) hS Xp) Xi⟩
  ·rw[if_neg h3]
   simp only
   rw[if_neg (by simp)]
   refine Gp ?_
   refine Cg (Zq lp dp k.g k.d lsn hk.g.ok (by omega) hk.d (by omega)) λw hS=>?_
   exact⟨_,⟨rfl,H,Heap.le_refl H,rfl⟩,SL.into (SrcO.putN (d:=(trimG k.g k.d lsn).1.2) hS Xp) Xi⟩
def tabs(n:Int)(l:List TxnD)(k:Int):List (List Row):=if n<1∨8<n then [] else (List.range n.toNat).map λt:Nat=>foldR t (l.take (heldN k l.length))
theorem fold_len'(l:List TxnD)(tb:Int)(i:Nat):(foldR tb (l.take i)).length≤(l.flatMap (·.changes)).length:=by
 have h2:=len_foldl (l:=(l.take i).flatMap (·.changes)) [] tb
 have e:(l.flatMap (·.changes)).length=((l.take i).flatMap (·.changes)).length+((l.drop i).flatMap (·.changes)).length:=by
  have:l=l.take i++l.drop i:=by simp
  conv=>lhs;rw[this]
  simp only[List.flatMap_append,List.length_append]
 unfold foldR
 simp only[List.length_nil]at h2
 omega
theorem open00{base size:Int}(b0:0≤base)(b1:base≤12288)(s0:64≤size)(s1:size≤65536):openG s00 base size=(s00,.ok ⟨[],base,size,none⟩):=
 open_chain (L:=[]) (f:=base) (n:=1) trivial rfl rfl b0 b1 s0 s1 (Int.le_refl _) (by simp;omega) (by decide) (by simp[entsG])
theorem linv00{base size:Int}(b0:0≤base)(b1:base≤12288)(s0:64≤size)(s1:size≤65536):LInv ⟨[],base,size,none⟩ s00 base 1 []:=
 ⟨trivial,rfl,rfl,λ_=>⟨rfl,rfl⟩,Int.le_refl _,b0,b1,s0,s1,by decide,by show base+((0:Nat):Int)+2≤base+4096;omega,rfl,rfl⟩
theorem ok00{base size:Int}(b0:0≤base)(b1:base≤12288)(s0:64≤size)(s1:size≤65536):(⟨[],base,size,none⟩:PLog).Ok 0:=⟨by simp,b0,b1,s0,s1,Nat.le_refl _⟩
structure Few(n:Nat)(all:List TxnD):Prop where
 ok:TxsOk n all
 len:all.length≤1000
 chs:(all.flatMap (·.changes)).length≤1000
theorem Few.nil(n:Nat):Few n []:=⟨⟨by simp,λi h=>by simp at h,by simp⟩,by decide,by decide⟩
theorem Few.take{n:Nat}{all:List TxnD}(h:Few n all)(j:Nat):Few n (all.take j):=by
 refine⟨⟨λt ht=>h.ok.may t (List.mem_of_mem_take ht),λi hi=>?_,λt ht=>h.ok.ch t (List.mem_of_mem_take ht)⟩,by rw[List.length_take];have:=h.len;omega,?_⟩
 ·rw[List.getElem_take];exact h.ok.lsn i _
 ·have e:(all.flatMap (·.changes)).length=((all.take j).flatMap (·.changes)).length+((all.drop j).flatMap (·.changes)).length:=by
   conv=>lhs;rw[← List.take_append_drop j all]
   rw[List.flatMap_append,List.length_append]
  have:=h.chs
  omega
theorem Few.row{n:Nat}{all:List TxnD}(h:Few n all):∀C∈tabsN n all,C.length≤1000:=λC hC=>by
 unfold tabsN at hC
 obtain⟨t,_,rfl⟩:=List.mem_map.1 hC
 have:=fold_len' all (t:Int) all.length
 rw[List.take_length]at this
 have:=h.chs
 omega
theorem Few.rows{n:Nat}{all:List TxnD}(h:Few n all):∀C∈tabsN n all,RowsOk C:=tabsN_ok h.ok.may h.ok.ch
theorem Few.imgs{n:Nat}{all:List TxnD}(h:Few n all)(n1:1≤n)(n8:n≤8):ImgsOk n all:=λj hj=>by
 have ht:=h.take j
 have hl:=h.len
 refine mayImg_iff.2 ⟨⟨by omega,by omega,by rw[tabsN_len];exact n1,by rw[tabsN_len];exact n8⟩,λC hC=>⟨(ht.rows C hC).sorted,(ht.rows C hC).rows,ht.row C hC⟩⟩
theorem Few.fits{n:Nat}{all:List TxnD}{t:TxnD}(h:Few n (all++[t])):fitsTs (tabsN n all) t.changes=true:=by
 have hc:=h.ok.ch t (by simp)
 have hr:=h.row
 rw[← tabsN_add hc]at hr
 unfold fitsTs
 rw[Bool.and_eq_true,List.all_eq_true,List.all_eq_true]
 exact⟨λc hcl=>by rw[tabsN_len];exact hc c hcl,λC hC=>decide_eq_true (hr C hC)⟩
theorem Few.app{n:Nat}{all:List TxnD}(h:Few n all){t:TxnD}(hm:mayTx t=true)(hl:t.lsn=(all.length:Int)+1)(hc:∀c∈t.changes,chgIn n c=true)(h1:all.length+1≤1000)(h2:(all.flatMap (·.changes)).length+t.changes.length≤1000):Few n (all++[t]):=by
 refine⟨⟨λx hx=>?_,λi hi=>?_,λx hx=>?_⟩,by rw[List.length_append];exact h1,by rw[List.flatMap_append,List.length_append];simpa using h2⟩
 ·rcases List.mem_append.1 hx with hx|hx
  ·exact h.ok.may x hx
  ·rw[List.mem_singleton.1 hx];exact hm
 ·rw[List.getElem_append]
  split
  ·exact h.ok.lsn i _
  ·rename_i hn
   rw[List.length_append,List.length_singleton]at hi
   simp only[List.getElem_singleton]
   rw[hl];omega
 ·rcases List.mem_append.1 hx with hx|hx
  ·exact h.ok.ch x hx
  ·rw[List.mem_singleton.1 hx];exact hc
theorem SOk.mono{k:PSrc}{N M:Nat}(h:SOk k N)(hm:N≤M):SOk k M:=⟨h.g.mono hm,h.d.mono hm,h.rows,h.len,h.n1,h.n8⟩
theorem SOk.add{k:PSrc}{N:Nat}(h:SOk k N){t:TxnD}(hm:mayTx t=true):SOk (k.addS t).1 (N+2000):=by
 unfold PSrc.addS
 split
 ·exact h.mono (by omega)
 ·split
  ·exact h.mono (by omega)
  ·rename_i ho hf
   have hhd:=headG_ge h.g.ok.segs
   have hm2:=mayTx_lsn hm (n:=headG k.g.segs+1) (by omega) (by omega)
   have hl:=bytesTx_len hm2
   have hb:(bytesT {t with lsn:=headG k.g.segs+1}).length≤1200:=hl
   have hg:=appendG_GOk (d:=k.d) h.g (bytesT {t with lsn:=headG k.g.segs+1})
   have hd:=appendG_ok (g:=k.g) h.d (bytesT {t with lsn:=headG k.g.segs+1})
   generalize bytesT {t with lsn:=headG k.g.segs+1}=p at *
   have hfit:fitsTs k.ts t.changes=true:=by
    cases hq:fitsTs k.ts t.changes with
    | true=>rfl
    | false=>exact absurd (Or.inl hq) hf
   simp only
   split
   ·unfold fitsTs at hfit
    rw[Bool.and_eq_true,List.all_eq_true,List.all_eq_true]at hfit
    refine⟨hg.mono (by omega),hd.mono (by omega),appsTs_ok (k:=8) h.rows (mayTx_all hm).2.2.2.2.2.1 hfit.1,λC hC=>of_decide_eq_true (hfit.2 C hC),?_,?_⟩
    ·show 1≤(appsTs k.ts t.changes).length
     rw[appsTs_len];exact h.n1
    ·show (appsTs k.ts t.changes).length≤8
     rw[appsTs_len];exact h.n8
   ·exact⟨hg.mono (by omega),hd.mono (by omega),h.rows,h.len,h.n1,h.n8⟩
theorem SOk.commit{k:PSrc}{N:Nat}(h:SOk k N)(sg:List ByteArray)(l:List Chg):SOk (k.commitS sg l).1 (N+2000):=by
 unfold PSrc.commitS
 split
 ·rename_i hc;exact h.add hc.1
 ·exact h.mono (by omega)
def k00(n:Nat)(size:Int):PSrc:=⟨⟨[],16,size,none⟩,s00,List.replicate n [],-1,0⟩
theorem sopen00{n:Nat}(n1:1≤n)(n8:n≤8){size:Int}(s0:64≤size)(s1:size≤65536):openS s00 n size=(s00,.ok (k00 n size))∧SrcL n (k00 n size) [] 0 [] s00 16 0 0:=by
 have him:ImSt n [] [] (-1) 0:=⟨.nil,by simp,by simp,λ_=>rfl,.inl rfl,Nat.le_refl _,λh=>absurd rfl h,by simp⟩
 have hw:Win 16 4112 [] [] s00.R:=⟨by simp,by simp[s00],by simp⟩
 have:=openS_ok n1 n8 (Few.nil n).ok ((Few.nil n).imgs n1 n8) (I:=[]) (tr:=0) (open00 (base:=16) (by decide) (by decide) s0 s1) hw (linv00 (by decide) (by decide) s0 s1) rfl him (Nat.le_refl _) (Nat.le_refl _) (by decide)
 rw[tabsN_nil]at this
 exact this
theorem sok00{n:Nat}(n1:1≤n)(n8:n≤8){size:Int}(s0:64≤size)(s1:size≤65536):SOk (k00 n size) 0:=
 ⟨⟨ok00 (by decide) (by decide) s0 s1,trivial,show (0:Int)≤1099511627776 by decide,λx hx=>by cases hx⟩,s00_ok 0,λC hC=>by rw[(List.mem_replicate.1 hC).2];exact rowsOk_nil,λC hC=>by rw[(List.mem_replicate.1 hC).2];exact Nat.zero_le _,by show 1≤(List.replicate n []).length;rw[List.length_replicate];exact n1,by show (List.replicate n []).length≤8;rw[List.length_replicate];exact n8⟩
theorem SrcL.read{n:Nat}{k:PSrc}{all:List TxnD}{tr:Nat}{I:List PF}{d0:DS}{f:Int}{lo m:Nat}(h:SrcL n k all tr I d0 f lo m)(ho:∀t∈all,mayTx t=true){j:Nat}(h1:lo≤j)(h2:j<all.length):k.readS ((j:Int)+1)= .ok all[j]:=by
 unfold PSrc.readS
 rw[h.log.chain.read,if_pos (by omega),h.log.ents]
 have e:(((j:Int)+1-((lo:Int)+1)).toNat)=j-lo:=by omega
 have e2:((all.drop lo).map bytesT)[j-lo]?=some (bytesT all[j]):=by
  rw[List.getElem?_map,List.getElem?_drop,show lo+(j-lo)=j by omega,List.getElem?_eq_getElem h2];rfl
 rw[e,e2]
 exact bytesTx_dec (ho _ (List.getElem_mem h2))
theorem SrcL.segs{n:Nat}{k:PSrc}{all:List TxnD}{tr:Nat}{I:List PF}{d0:DS}{f:Int}{lo m:Nat}(h:SrcL n k all tr I d0 f lo m):k.g.segs.length≤all.length+1:=by
 have:=h.log.chain.len_le
 rw[h.log.ents,List.length_map,List.length_drop]at this
 omega
theorem openS_g{d d':DS}{n size:Int}{k:PSrc}(h:openS d n size=(d',.ok k)):openG d 16 size=(d',.ok k.g):=by
 unfold openS at h
 split at h
 ·cases h
 ·split at h
  ·cases h
  ·rename_i g hg
   simp only at h
   split at h
   ·cases h
   ·split at h
    ·cases h;exact hg
    ·cases h
def okRq(i:Nat)(r:Rq):Prop:=r.id=(i:Int)+1∧0≤r.table∧r.table<8∧1≤r.weight∧r.weight≤8∧1≤r.at_∧r.at_≤1099511627776∧0≤r.cursor∧r.cursor≤1099511627776∧0≤r.chunks∧r.chunks≤1099511627776
def OneP(L:List Rq)(i:Nat):Prop:=∀h:i<L.length,okRq i L[i]∧(∀h0:0<i,L[i-1].at_≤L[i].at_)∧∀k (hk:k<i),¬(L[k].table=L[i].table∧L[k].done=false)
def MayP(L:List Rq):Prop:=L.length≤64∧∀i,OneP L i
instance (i:Nat) (r:Rq):Decidable (okRq i r):=by unfold okRq;infer_instance
theorem MayP.fin{L:List Rq}:MayP L↔L.length≤64∧∀i:Fin L.length,okRq i.1 L[i.1]∧(0<i.1→(L[i.1-1]'(by omega)).at_≤L[i.1].at_)∧∀k:Fin i.1,¬((L[k.1]'(by omega)).table=L[i.1].table∧(L[k.1]'(by omega)).done=false):=
 ⟨λh=>⟨h.1,λi=>⟨(h.2 i.1 i.2).1,(h.2 i.1 i.2).2.1,λk=>(h.2 i.1 i.2).2.2 k.1 k.2⟩⟩,
  λh=>⟨h.1,λi hi=>⟨(h.2 ⟨i,hi⟩).1,(h.2 ⟨i,hi⟩).2.1,λk hk=>(h.2 ⟨i,hi⟩).2.2 ⟨k,hk⟩⟩⟩⟩
instance (L:List Rq):Decidable (MayP L):=decidable_of_iff _ MayP.fin.symm
theorem SeqG.head{L:List PSeg}(h:SeqG L)(hL:L≠[]):headG L=lowG L+(entsG L).length-1:=by
 induction L with
 | nil=>exact absurd rfl hL
 | cons s r ih=>
  cases r with
  | nil=>simp[headG,lowG,entsG,PSeg.next]
  | cons t r=>
   have h1:=ih h.2 (by simp)
   have h2:headG (s::t::r)=headG (t::r):=by simp only[headG,List.getLast?_cons_cons]
   have h3:=h.1
   rw[h2,h1,entsG_cons s (t::r),List.length_append]
   simp only[PSeg.next]at h3
   show lowG (t::r)+_-1=s.first+_-1
   have:lowG (t::r)=t.first:=rfl
   rw[this];omega
theorem SeqG.read:∀{L:List PSeg},SeqG L→∀i:Nat,readG L (lowG L+i)=(entsG L)[i]?
 | [],_,i=>by simp[readG,entsG]
 | [s],_,i=>by
  have e:lowG [s]=s.first:=rfl
  rw[e,readG,entsG_cons]
  have he:entsG []=([]:List (List UInt8)):=rfl
  rw[he,List.append_nil]
  by_cases h:i<s.l.length
  ·rw[if_pos ⟨by omega,by show s.first+i<s.first+s.l.length;omega⟩]
   congr 1;omega
  ·rw[if_neg (by rintro ⟨_,h2⟩;have h2:s.first+i<s.first+s.l.length:=h2;omega),List.getElem?_eq_none (by omega)];rfl
 | s::t::r,h,i=>by
  have e:lowG (s::t::r)=s.first:=rfl
  have e2:lowG (t::r)=t.first:=rfl
  have h1:=h.1
  simp only[PSeg.next]at h1
  rw[e,readG,entsG_cons]
  by_cases hi:i<s.l.length
  ·rw[if_pos ⟨by omega,by show s.first+i<s.first+s.l.length;omega⟩,List.getElem?_append_left hi]
   congr 1;omega
  ·rw[if_neg (by rintro ⟨_,h2⟩;have h2:s.first+i<s.first+s.l.length:=h2;omega),List.getElem?_append_right (by omega)]
   have:=SeqG.read h.2 (i-s.l.length)
   rw[e2]at this
   rw[← this]
   congr 1;omega
theorem openG_GOkW{d d':DS}{base size:Int}{N:Nat}(hw:WinLe d.R base N)(hR:d.R.length≤100000){g:PLog}(h:openG d base size=(d',.ok g)):GOk g (N+100000):=by
 have hk:=(openG_gokW hw hR h).1
 unfold openG at h
 split at h
 ·cases h
 ·split at h
  ·cases h
  ·split at h
   ·cases h
   ·rename_i L wh hl
    obtain⟨k1,k2⟩:=loadsG_seq _ _ [] _ trivial (by decide) hl
    split at h
    ·cases h
    ·cases h
     exact⟨hk,k1,k2,λx hx=>by cases hx⟩
theorem inc_len:∀(l:List Nat) (a N:Nat),a≤N→l.Pairwise (· < ·)→(∀x∈l,a≤x∧x<N)→l.length+a≤N
 | [],a,N,h,_,_=>by simpa using h
 | x::l,a,N,_,hp,hx=>by
  have h1:=hx x (.head _)
  obtain⟨hp1,hp2⟩:=List.pairwise_cons.1 hp
  have:=inc_len l (x+1) N (by omega) hp2 λy hy=>⟨hp1 y hy,(hx y (.tail _ hy)).2⟩
  rw[List.length_cons];omega
theorem DS.Ok.rlen{s:DS}{N:Nat}(h:s.Ok N):s.R.length≤16384:=by
 have hs:(s.R.map λx=>x.id.toNat).Pairwise (· < ·):=by
  rw[List.pairwise_map]
  refine List.Pairwise.imp_of_mem (λ{a b} ha hb hlt=>?_) h.sorted
  have h1:=h.ids a ha
  have h2:=h.ids b hb
  have hlt:a.id<b.id:=hlt
  omega
 have:=inc_len _ 0 16384 (by decide) hs λn hn=>by
  obtain⟨x,hx,rfl⟩:=List.mem_map.1 hn
  have:=h.ids x hx
  omega
 simpa using this
def GoodQ(dp:Nat)(d:DS)(H:Heap)(n:Nat)(f:Int)(r:Value)(post:List Chunk):Prop:=∃H',H.le H'∧post=[.ob (DskO dp d),.mem H']∧match imgAt d.R n f with
 | none=>∃a b,r= .tuple #[a,b,.bool false]
 | some y=>∃v,RdTs H' v y.2∧r= .tuple #[.int .i64 y.1,v,.bool true]
theorem qS(dp:Nat)(d:DS)(H:Heap)(n:Nat)(f:Int){N:Nat}(hok:d.Ok N)(hN:N≤140737488355328):
  SP 140 [ptrA dp,.int .i64 f,.int .i64 (n:Nat)] [.ob (DskO dp d),.mem H] (GoodQ dp d H n f):=by
 intro W F w hS;apply vc140;unfold Vc140;(try simp only[app]at hS)
 (refine Cc (Ze dp d N hok hN f) ?_;clear hS)
 rintro r post hq w hS
 unfold ReadQ at hq
 cases hg:getK PF.id d.R f with
 | none=>
  rw[hg]at hq
  obtain⟨rfl,rfl⟩:=hq
  have hi:imgAt d.R n f=none:=by unfold imgAt;rw[hg]
  (try simp only[app]at hS);refine Gp ?_
  refine zu ?_
  refine⟨[.ob (DskO dp d),.mem H],⟨H,Heap.le_refl H,rfl,?_⟩,SL.into hS Xi⟩
  rw[hi];exact⟨_,_,rfl⟩
 | some x=>
  rw[hg]at hq
  obtain⟨u,rfl,rfl⟩:=hq
  have hxl:=hok.len x (getK_mem hg).1
  (try simp only[app]at hS);refine Gp ?_
  refine zo ?_
  (refine Cc (YT (.ob (OwnSl u 5 1 x.b.length (x.b.map u8c))) H u x.b Rdb.own (by omega)) ?_;clear hS)
  rintro r post hq w hS
  unfold DecImQ at hq
  cases hd:decImg x.b with
  | none=>
   rw[hd]at hq
   obtain⟨rfl,H',hh,rfl⟩:=hq
   have hi:imgAt d.R n f=none:=by unfold imgAt;rw[hg];simp only;rw[hd]
   (try simp only[app]at hS);refine Gp ?_
   refine zc (λh=>absurd h (by decide)) (λ_=>?_)
   refine⟨[.ob (DskO dp d),.mem H'],⟨H',hh,rfl,?_⟩,SL.into hS Xi⟩
   rw[hi];exact⟨_,_,rfl⟩
  | some y=>
   rw[hd]at hq
   obtain⟨v,H',hh,hT,rfl,rfl⟩:=hq
   have hi:imgAt d.R n f=if y.2.length=n then some y else none:=by unfold imgAt;rw[hg];simp only;rw[hd]
   (try simp only[app]at hS);refine Gp ?_
   refine zc (λ_=>?_) (λh=>absurd rfl h)
   refine zZ hT ?_
   refine Gp ?_
   refine⟨[.ob (DskO dp d),.mem H'],⟨H',hh,rfl,?_⟩,SL.into hS Xi⟩
   rw[hi]
   by_cases hl:y.2.length=n
   ·rw[if_pos hl,decide_eq_true (by omega)]
    exact⟨v,hT,rfl⟩
   ·rw[if_neg hl,decide_eq_false (by omega)]
    exact⟨_,_,rfl⟩
def loadAt(R:List PF)(n:Nat)(x:Img):Nat→Img
 | 0=>x
 | 1=>load1 R n 0 x
 | _=>load1 R n 1 (load1 R n 0 x)
theorem imgAt_may{R:List PF}{n:Nat}{f:Int}{y:Int × Tabs}(h:imgAt R n f=some y):mayImg y.1 y.2=true∧y.2.length=n:=by
 unfold imgAt at h
 split at h
 ·cases h
 ·split at h
  ·cases h
  ·rename_i hd
   split at h
   ·rename_i hl
    cases h
    exact⟨decImg_may hd,hl⟩
   ·cases h
theorem set_next{α:Type}{l m:List α}{i:Nat}(hi:i<l.length)(h:m.length=l.length):(l.take i++m.drop i).set i l[i]=l.take (i+1)++m.drop (i+1):=by
 rw[List.set_append_right _ _ (by rw[List.length_take];omega),List.length_take,show i-min i l.length=0 by omega,List.drop_eq_getElem_cons (by omega:i<m.length),List.set_cons_zero,List.take_succ_eq_append_getElem hi,List.append_assoc]
 rfl
theorem loadAt_s{R:List PF}{n:Nat}{x:Img}{j:Nat}(h:j≤1):loadAt R n x (j+1)=load1 R n j (loadAt R n x j):=by
 match j,h with
 | 0,_=>rfl
 | 1,_=>rfl
theorem load1_len{R:List PF}{n:Nat}{f:Int}{x:Img}(h:x.2.2.length=n):(load1 R n f x).2.2.length=n:=by
 unfold load1
 cases hi:imgAt R n f with
 | none=>exact h
 | some y=>
  simp only
  split
  ·exact h
  ·exact (imgAt_may hi).2
theorem load1_img{R:List PF}{n:Nat}{f:Int}{x:Img}(h:0≤x.2.1∧x.2.1≤1099511627776):0≤(load1 R n f x).2.1∧(load1 R n f x).2.1≤1099511627776:=by
 unfold load1
 cases hi:imgAt R n f with
 | none=>exact h
 | some y=>
  simp only
  split
  ·exact h
  ·have:=(mayImg_iff.1 (imgAt_may hi).1).1
   exact⟨this.1,this.2.1⟩
theorem qY(sp tp dp lp:Nat)(d:DS)(H:Heap)(x0:Img)(n:Nat)(hx0:x0.2.2.length=n)(h8:n≤8){N:Nat}(hok:d.Ok N)(hN:N≤140737488355328):
  SP 56 [ptrA sp] [.pt sp (scells tp dp lp x0.1 x0.2.1) 58,.ob (TabO tp x0.2.2),.ob (DskO dp d),.mem H] (λ_ post=>∃H',H.le H'∧post=[.pt sp (scells tp dp lp (load1 d.R n 1 (load1 d.R n 0 x0)).1 (load1 d.R n 1 (load1 d.R n 0 x0)).2.1) 58,.ob (TabO tp (load1 d.R n 1 (load1 d.R n 0 x0)).2.2),.ob (DskO dp d),.mem H']):=by
 intro W F w hS;apply vc56;unfold Vc56;(try simp only[app]at hS)
 refine⟨λus w=>∃(j:Nat) (H':Heap),us=[.int .i64 j]∧j≤2∧H.le H'∧(loadAt d.R n x0 j).2.2.length=n∧SL W (.pt sp (scells tp dp lp (loadAt d.R n x0 j).1 (loadAt d.R n x0 j).2.1) 58::.ob (TabO tp (loadAt d.R n x0 j).2.2)::.ob (DskO dp d)::.mem H'::F) w,
  λus _=>match us with|[.int _ i]=>(2-i).toNat|_=>0,⟨0,H,rfl,by omega,Heap.le_refl H,hx0,hS⟩,?_⟩
 clear hS
 rintro v2 w ⟨j,H',hus,hj,hh,hxl,hS⟩
 cases hus
 refine Gp ?_
 refine zc (λh=>?_) (λh=>?_)
 ·have hj1:j≤1:=by omega
  have hstep:=loadAt_s (R:=d.R) (n:=n) (x:=x0) hj1
  have hfin:∀{w:World} {H2:Heap} (y:Img),load1 d.R n j (loadAt d.R n x0 j)=y→H.le H2→SL W (.pt sp (scells tp dp lp y.1 y.2.1) 58::.ob (TabO tp y.2.2)::.ob (DskO dp d)::.mem H2::F) w →
    ∃(j':Nat) (H':Heap),[Value.int .i64 ((j+1:Nat):Int)]=[.int .i64 j']∧j'≤2∧H.le H'∧(loadAt d.R n x0 j').2.2.length=n∧SL W (.pt sp (scells tp dp lp (loadAt d.R n x0 j').1 (loadAt d.R n x0 j').2.1) 58::.ob (TabO tp (loadAt d.R n x0 j').2.2)::.ob (DskO dp d)::.mem H'::F) w:=λy hy h02 hS=>by
   refine⟨j+1,_,rfl,by omega,h02,?_,?_⟩
   ·rw[hstep];exact load1_len hxl
   ·rw[hstep,hy];exact hS
  generalize hx:loadAt d.R n x0 j=x at *
  refine Gn λw hS=>?_
  refine Cg (zV tp x.2.2) λw hS=>?_
  (refine Cc (qS dp d H' x.2.2.length j hok hN) ?_;clear hS)
  rintro r post ⟨H2,h12,rfl,hq⟩ w hS
  (try simp only[app]at hS)
  rw[hxl]at hq
  have h02:=Heap.le_trans hh h12
  cases hi:imgAt d.R n j with
  | none=>
   rw[hi]at hq
   obtain⟨a,b,rfl⟩:=hq
   refine Gp ?_
   refine⟨λus w=>False,?_,λw h=>h.elim⟩
   refine zN (zu ?_)
   refine Gp ?_
   exact⟨hfin x (by unfold load1;rw[hi]) h02 (SL.into hS Xi),by dsimp only;omega⟩
  | some y=>
   rw[hi]at hq
   obtain⟨v,hT,rfl⟩:=hq
   obtain⟨hmay,hyl⟩:=imgAt_may hi
   have hTs:=(mayImg_iff.1 hmay).2
   refine Gp ?_
   refine⟨λus w=>us=[]∧¬(0≤x.1∧y.1≤x.2.1)∧SL W (.pt sp (scells tp dp lp x.1 x.2.1) 58::.ob (TabO tp x.2.2)::.ob (DskO dp d)::.mem H2::F) w,?_,?_⟩
   ·refine zN (zo ?_)
    refine Gp ?_
    refine zc (λh0=>?_) (λh0=>?_)
    ·refine Gp ?_
     refine zc (λh1=>?_) (λh1=>?_)
     ·refine Gp ?_
      exact⟨hfin x (by unfold load1;rw[hi];simp only;rw[if_pos ⟨h0,h1⟩]) h02 (SL.into hS Xi),by dsimp only;omega⟩
     ·exact⟨rfl,λh=>h1 h.2,SL.into hS Xi⟩
    ·exact⟨rfl,λh=>h0 h.1,SL.into hS Xi⟩
   clear hS
   rintro w ⟨-,hc,hS⟩
   refine Gn λw hS=>?_
   refine zZ hT ?_
   have hS:SL W (_::.ob (TabO tp (y.2.take 0++x.2.2.drop 0))::_) _:=hS
   refine⟨λus w=>∃i:Nat,us=[.int .i64 i]∧i≤y.2.length∧SL W (.ob (TabO tp (y.2.take i++x.2.2.drop i))::.pt sp (scells tp dp lp j y.1) 58::.ob (DskO dp d)::.mem H2::F) w,
    λus _=>match us with|[.int _ i]=>(y.2.length-i).toNat|_=>0,⟨0,rfl,by omega,SL.into hS Xi⟩,?_⟩
   clear hS
   rintro v54 w ⟨i,hus,hil,hS⟩
   cases hus
   refine Gp ?_
   refine zc (λh=>?_) (λh=>?_)
   ·have hil:i<y.2.length:=by omega
    have hnx:=set_next (m:=x.2.2) hil (by omega)
    have htl:i<(y.2.take i++x.2.2.drop i).length:=by rw[List.length_append,List.length_take,List.length_drop];omega
    have hTi:=hTs _ (List.getElem_mem hil)
    refine ZJ hS Xh hT hil λu hu=>?_
    generalize y.2[i]=C at *
    generalize y.2.take i++x.2.2.drop i=T at *
    refine Gp ?_
    refine Cg (qL tp T H2 u i C htl hu hTi.sorted (by have:=hTi.len;omega)) λw hS=>?_
    refine⟨⟨i+1,rfl,by omega,?_⟩,by dsimp only;omega⟩
    rw[← hnx]
    exact SL.into hS Xi
   ·obtain rfl:i=y.2.length:=by omega
    rw[List.take_length,List.drop_eq_nil_of_le (by omega),List.append_nil]at hS
    refine Gp ?_
    exact⟨hfin (j,y.1,y.2) (by unfold load1;rw[hi];simp only;rw[if_neg hc]) h02 (SL.into hS Xi),by dsimp only;omega⟩
 ·obtain rfl:j=2:=by omega
  exact⟨_,⟨H',hh,rfl⟩,hS⟩
def PSrc.redoK(k:PSrc):Option Tabs:=match redoS k.ts.length k.image (entsG k.g.segs) (lowG k.g.segs) k.ts with
 | none=>none
 | some ts=>if k.image≤headG k.g.segs∧lowG k.g.segs≤k.image+1 then some ts else none
theorem ents_cnt{L:List PSeg}(h:SeqG L):headG L-lowG L+1=((entsG L).length:Int):=by
 by_cases hL:L=[]
 ·subst hL;rfl
 ·rw[h.head hL];omega
theorem lowG_rng{L:List PSeg}{N:Nat}(h:∀s∈L,SegOk s N):1≤lowG L∧lowG L≤1099511627776:=by
 cases L with
 | nil=>exact⟨Int.le_refl _,by show (1:Int)≤_;decide⟩
 | cons s r=>exact⟨(h s (.head _)).n0,(h s (.head _)).n1⟩
theorem redoS_cons{n:Nat}{image:Int}{b:List UInt8}{r:List (List UInt8)}{lsn:Int}{ts:Tabs}:redoS n image (b::r) lsn ts=match decTxn b with
  | .error _=>none
  | .ok t=>if t.lsn=lsn∧(∀c∈t.changes,c.table<(n:Int)) then redoS n image r (lsn+1) (if image<lsn then appsTs ts t.changes else ts) else none:=rfl
theorem Qk(sp tp dp lp:Nat)(H:Heap)(k:PSrc){N:Nat}(hg:GOk k.g N)(hN:N≤1000000000)(hs:∀C∈k.ts,SortedR C){L0:Nat}(hn:∀C∈k.ts,C.length≤L0)(hL:L0+16*(entsG k.g.segs).length≤900000)(him:0≤k.image∧k.image≤1099511627776):
  SP 57 [ptrA sp] [.ob (SrcO sp tp dp lp k),.mem H] (λv post=>∃H',H.le H'∧match k.redoK with
   | none=>v= .bool false∧post=[.mem H']
   | some ts=>v= .bool true∧post=[.ob (SrcO sp tp dp lp {k with ts:=ts}),.mem H']):=by
 intro W F w hS;apply vc57;unfold Vc57;(try simp only[app]at hS)
 have hF:∀{w:World} {H':Heap},k.redoK=none→H.le H'→SL W (.mem H'::F) w→∃post,(∃H',H.le H'∧match k.redoK with
   | none=>(.bool false:Value)= .bool false∧post=[.mem H']
   | some ts=>(.bool false:Value)= .bool true∧post=[.ob (SrcO sp tp dp lp {k with ts:=ts}),.mem H'])∧SL W (app post F) w:=λhr hh hS=>by
  rw[hr]
  exact⟨[.mem _],⟨_,hh,rfl,rfl⟩,hS⟩
 have hcnt:=ents_cnt hg.seq
 have hlow:=lowG_rng hg.ok.segs
 have hhd:=hg.hd
 refine Cg (Zz sp tp dp lp k hg hN) λw hS=>?_
 refine⟨λus w=>∃(i:Nat) (T:Tabs) (H2:Heap),us=[.int .i64 (lowG k.g.segs+i)]∧i≤(entsG k.g.segs).length∧redoS k.ts.length k.image (entsG k.g.segs) (lowG k.g.segs) k.ts=redoS k.ts.length k.image ((entsG k.g.segs).drop i) (lowG k.g.segs+i) T∧T.length=k.ts.length∧(∀C∈T,SortedR C)∧(∀C∈T,C.length≤L0+16*i)∧H.le H2∧SL W (.ob (SrcO sp tp dp lp {k with ts:=T})::.mem H2::F) w,
  λus _=>match us with|[.int _ i]=>(headG k.g.segs+1-i).toNat|_=>0,⟨0,k.ts,H,by simp,by omega,by simp,rfl,hs,by simpa using hn,Heap.le_refl H,SL.into hS Xi⟩,?_⟩
 clear hS
 rintro v3 w ⟨i,T,H2,hus,hi,hrd,hTl,hTs,hTn,hh,hS⟩
 cases hus
 refine Cg (zU sp tp dp lp {k with ts:=T} hg hN) λw hS=>?_
 refine zc (λh=>?_) (λh=>?_)
 ·have h:lowG k.g.segs+i≤headG k.g.segs:=h
  have hil:i<(entsG k.g.segs).length:=by omega
  have hread:=hg.seq.read i
  rw[List.getElem?_eq_getElem hil]at hread
  rw[List.drop_eq_getElem_cons hil,redoS_cons]at hrd
  generalize (entsG k.g.segs)[i]=bs at *
  have hlsn:1≤lowG k.g.segs+i∧lowG k.g.segs+i≤1099511627776:=by omega
  generalize hlq:lowG k.g.segs+i=lsn at *
  have hrk:(match decTxn bs with
   | .error _=>none
   | .ok t=>if t.lsn=lsn∧(∀c∈t.changes,c.table<(k.ts.length:Int)) then redoS k.ts.length k.image ((entsG k.g.segs).drop (i+1)) (lsn+1) (if k.image<lsn then appsTs T t.changes else T) else none)=none→k.redoK=none:=λh=>by unfold PSrc.redoK;rw[hrd,h]
  (refine Cc (Zg sp tp dp lp {k with ts:=T} hg hN H2 lsn (by omega)) ?_;clear hS)
  rintro r post hq w hS
  unfold ReadSQ PSrc.readS at hq
  simp only at hq
  rw[hread]at hq
  simp only at hq
  cases hd:decTxn bs with
  | error e=>
   rw[hd]at hq hrk
   obtain⟨hne,H3,h23,rfl,rfl⟩:=hq
   refine Gm λb w hS=>?_
   refine zc (λ_=>?_) (λh=>absurd hne h)
   exact hF (hrk rfl) (Heap.le_trans hh h23) (SL.into hS Xi)
  | ok t=>
   rw[hd]at hq hrk hrd
   obtain⟨x,H3,h23,rfl,hx,rfl⟩:=hq
   have h03:=Heap.le_trans hh h23
   obtain⟨ht1,ht2,ht3,ht4,ht5,ht6,ht7⟩:=mayTx_all (decTxn_may hd)
   (try simp only[app]at hS)
   refine Gp ?_
   refine zT hS λxb w hS=>?_
   refine yj (vs:=encTx x) hS Xu rfl rfl (encTx_one1 (lsn:=x.lsn) (kind:=x.kind) (mark:=x.mark) hx.cv.one hx.sv.one) λw hS=>?_
   unfold encTx at hS
   rw[hx.lsn,hx.kind,hx.mark]at hS
   refine Gn λw hS=>?_
   refine zc (λh=>absurd rfl h) (λ_=>?_)
   refine Gp ?_
   refine zc (λhl=>?_) (λhl=>?_)
   ·exact hF (hrk (by simp only;rw[if_neg λh=>hl h.1])) h03 (SL.into hS Xi)
   have hS:=SrcO.iff.1 (SL.into hS (t:=.ob (SrcO sp tp dp lp {k with ts:=T})::.pt xb [.int .i64 t.lsn,.int .i64 t.kind,x.cv,x.sv,.int .i64 t.mark] 39::.mem H3::F) Xi)
   refine Gp ?_
   refine Cg (zV tp T) λw hS=>?_
   refine Cg (ZN H3 x.cv t.changes T.length hx.cv (by omega)) λw hS=>?_
   rw[hTl]
   refine zD (λhb=>?_) (λhb=>?_)
   ·have hb:=of_decide_eq_false hb
    exact hF (hrk (by simp only;rw[if_neg λh=>hb h.2])) h03 (SL.into hS Xi)
   have hb:=of_decide_eq_true hb
   have hall:t.changes.all (chgIn T.length)=true:=List.all_eq_true.2 λc hc=>decide_eq_true ⟨(mayCh_iff.1 (ht6 c hc)).1,by rw[hTl];exact hb c hc⟩
   simp only at hrd
   rw[if_pos (show t.lsn=lsn∧∀c∈t.changes,c.table<(k.ts.length:Int) from ⟨by omega,hb⟩)]at hrd
   have hlq2:lsn+1=lowG k.g.segs+((i+1:Nat):Int):=by omega
   rw[hlq2]at hrd
   refine Gp ?_
   refine zc (λhi2=>?_) (λhi2=>?_)
   ·rw[if_pos (show k.image<lsn by omega)]at hrd
    refine Gn λw hS=>?_
    refine Cg (ZG tp T H3 x.cv t.changes hx.cv (by omega) hTs (L0+16*i) hTn (by omega)) λw hS=>?_
    rw[if_pos hall]at hS
    rw[hlq2]
    refine⟨⟨i+1,appsTs T t.changes,H3,rfl,by omega,hrd,by rw[appsTs_len];exact hTl,appsTs_sort hTs λc hc=>List.all_eq_true.1 hall c hc,λC hC=>?_,h03,SL.into (SrcO.put {k with ts:=appsTs T t.changes} hS Xp) Xi⟩,by dsimp only;omega⟩
    have:=appsTs_lenR (L0+16*i) (l:=t.changes) hTn (λc hc=>List.all_eq_true.1 hall c hc) C hC
    omega
   ·rw[if_neg (show ¬k.image<lsn by omega)]at hrd
    refine Gp ?_
    rw[hlq2]
    exact⟨⟨i+1,T,H3,rfl,by omega,hrd,hTl,hTs,λC hC=>by have:=hTn C hC;omega,h03,SL.into (SrcO.put {k with ts:=T} hS Xp) Xi⟩,by dsimp only;omega⟩
 ·have h:¬lowG k.g.segs+i≤headG k.g.segs:=h
  obtain rfl:i=(entsG k.g.segs).length:=by omega
  rw[List.drop_length]at hrd
  have hrd:redoS k.ts.length k.image (entsG k.g.segs) (lowG k.g.segs) k.ts=some T:=hrd
  have hR:k.redoK=if k.image≤headG k.g.segs∧lowG k.g.segs≤k.image+1 then some T else none:=by unfold PSrc.redoK;rw[hrd]
  have hS:SL W (.pt sp (scells tp dp lp k.newest k.image) 58::.ob (TabO tp T)::.ob (LogO lp dp k.g)::_) _:=SrcO.iff.1 hS
  refine Gn λw hS=>?_
  have hS:=SrcO.put {k with ts:=T} hS Xp
  refine Cg (zU sp tp dp lp {k with ts:=T} hg hN) λw hS=>?_
  have hS:SL W (.pt sp (scells tp dp lp k.newest k.image) 58::.ob (TabO tp T)::.ob (LogO lp dp k.g)::_) _:=SrcO.iff.1 hS
  refine Gp ?_
  refine zc (λh1=>?_) (λh1=>?_)
  ·have h1:k.image≤headG k.g.segs:=h1
   refine Gp ?_
   have hS:=SrcO.put {k with ts:=T} hS Xp
   refine Cg (Zz sp tp dp lp {k with ts:=T} hg hN) λw hS=>?_
   have hS:SL W (.pt sp (scells tp dp lp k.newest k.image) 58::.ob (TabO tp T)::.ob (LogO lp dp k.g)::_) _:=SrcO.iff.1 hS
   refine Gp ?_
   have hS:=SrcO.put {k with ts:=T} hS Xp
   by_cases h2:lowG k.g.segs≤k.image+1
   ·rw[decide_eq_true (show lowG ({k with ts:=T}:PSrc).g.segs≤k.image+1 from h2)]
    refine⟨[.ob (SrcO sp tp dp lp {k with ts:=T}),.mem H2],⟨H2,hh,?_⟩,SL.into hS Xi⟩
    rw[hR,if_pos ⟨h1,h2⟩]
    exact⟨rfl,rfl⟩
   ·rw[decide_eq_false (show ¬lowG ({k with ts:=T}:PSrc).g.segs≤k.image+1 from h2)]
    exact hF (by rw[hR,if_neg λh=>h2 h.2]) hh (SL.into hS Xi)
  ·exact hF (by rw[hR,if_neg λh=>h1 h.1]) hh (SL.into hS Xi)
def OpenSQ(dp:Nat)(H:Heap)(y:DS × Except Int PSrc)(r:Value)(post:List Chunk):Prop:=match y.2 with
 | .error e=>e≠0∧∃H',H.le H'∧r= .tuple #[.pointer none,.int .i64 e]∧post=[.ob (DskO dp y.1),.mem H']
 | .ok k=>∃sp tp lp H',H.le H'∧r= .tuple #[ptrA sp,.int .i64 0]∧post=[.ob (SrcO sp tp dp lp k),.ob (DskO dp y.1),.mem H']
theorem loadI_may{R:List PF}{n:Nat}{x:Img}(hx:x.2.2.length=n∧(0≤x.2.1∧x.2.1≤1099511627776)∧∀C∈x.2.2,TabOk C)(f:Int):(load1 R n f x).2.2.length=n∧(0≤(load1 R n f x).2.1∧(load1 R n f x).2.1≤1099511627776)∧∀C∈(load1 R n f x).2.2,TabOk C:=by
 refine⟨load1_len hx.1,load1_img hx.2.1,?_⟩
 unfold load1
 cases hi:imgAt R n f with
 | none=>exact hx.2.2
 | some y=>
  simp only
  split
  ·exact hx.2.2
  ·exact (mayImg_iff.1 (imgAt_may hi).1).2
theorem loadI_all(R:List PF)(n:Nat):(loadI R n).2.2.length=n∧(0≤(loadI R n).2.1∧(loadI R n).2.1≤1099511627776)∧∀C∈(loadI R n).2.2,TabOk C:=
 loadI_may (loadI_may (x:=(-1,0,List.replicate n [])) ⟨List.length_replicate,⟨show (0:Int)≤0 by decide,show (0:Int)≤1099511627776 by decide⟩,λC hC=>by rw[(List.mem_replicate.1 hC).2];exact⟨List.Pairwise.nil,by simp,by decide⟩⟩ 0) 1
theorem sopen_specW(H:Heap)(dp:Nat)(d:DS)(tabs size:Int){N B:Nat}(hok:d.Ok B)(hB:B≤140737488355328)(hw:WinLe d.R 16 N)(hN:N≤900000000)(hops:d.ops≤90000)(hn:∀d' g,openG d 16 size=(d',.ok g)→(entsG g.segs).length≤50000):
  SP 12 [ptrA dp,.int .i64 tabs,.int .i64 size] [.ob (DskO dp d),.mem H] (OpenSQ dp H (openS d tabs size)):=by
 intro W F w hS;apply vc12;unfold Vc12;(try simp only[app]at hS)
 have hR:=hok.rlen
 (refine Cc (Qq tabs) ?_;clear hS)
 rintro r post hq w hS
 unfold NewTQ at hq
 by_cases ht:tabs<1∨8<tabs
 ·rw[if_pos ht]at hq
  obtain⟨rfl,rfl⟩:=hq
  have e:openS d tabs size=(d,.error 1):=by unfold openS;rw[if_pos ht]
  rw[e]
  (try simp only[app]at hS);refine Gp ?_
  refine zc (λ_=>?_) (λh=>absurd (by decide) h)
  exact⟨_,⟨by decide,H,Heap.le_refl H,rfl,rfl⟩,SL.into hS Xi⟩
 rw[if_neg ht]at hq
 obtain⟨tp,rfl,rfl⟩:=hq
 obtain⟨n,rfl⟩:∃n:Nat,tabs=n:=⟨tabs.toNat,by omega⟩
 rw[Int.toNat_natCast]at hS
 (try simp only[app]at hS);refine Gp ?_
 refine zc (λh=>absurd rfl h) (λ_=>?_)
 (refine Cc (openL_specW dp d 16 size hok hB hw (by omega) (by omega) (by omega)) ?_;clear hS)
 rintro r post hq w hS
 unfold openS
 rw[if_neg ht]
 unfold OpenQ at hq
 have hdk:=openG_ok (base:=16) (size:=size) hok
 cases hog:openG d 16 size with
 | mk d' o=>
  rw[hog]at hq hdk
  cases o with
  | error e=>
   obtain⟨he,rfl,rfl⟩:=hq
   (try simp only[app]at hS);refine Gp ?_
   refine zc (λ_=>?_) (λh=>absurd he h)
   exact⟨_,⟨he,H,Heap.le_refl H,rfl,rfl⟩,SL.into hS Xi⟩
  | ok g=>
   obtain⟨lp,rfl,rfl⟩:=hq
   have hG:=openG_GOkW hw (by omega) hog
   have hent:=hn d' g hog
   obtain⟨x1,x2,x3⟩:=loadI_all d'.R n
   (try simp only[app]at hS);refine Gp ?_
   refine zc (λh=>absurd rfl h) (λ_=>?_)
   refine Gp ?_
   refine zQ hS λsp w hS=>?_
   (refine Cc (qY sp tp dp lp d' H (-1,0,List.replicate n []) n List.length_replicate (by omega) hdk hB) ?_;clear hS)
   rintro _ post ⟨H2,h02,rfl⟩ w hS
   (try simp only[app]at hS)
   have hli:load1 d'.R n 1 (load1 d'.R n 0 (-1,0,List.replicate n []))=loadI d'.R n:=rfl
   rw[hli]at hS
   simp only[Int.toNat_natCast]
   generalize loadI d'.R n=x at *
   obtain⟨nw,im,ts⟩:=x
   simp only at x1 x2 x3 hS ⊢
   have hS:=SrcO.putN (d:=d') hS Xp
   (refine Cc (Qk sp tp dp lp H2 ⟨g,d',ts,nw,im⟩ hG (by omega) (λC hC=>(x3 C hC).sorted) (L0:=1000) (λC hC=>(x3 C hC).len) (by show 1000+16*(entsG g.segs).length≤900000;omega) x2) ?_;clear hS)
   rintro r post ⟨H3,h23,hq⟩ w hS
   have h03:=Heap.le_trans h02 h23
   have hK:PSrc.redoK ⟨g,d',ts,nw,im⟩=match redoS n im (entsG g.segs) (lowG g.segs) ts with
    | none=>none
    | some ts=>if im≤headG g.segs∧lowG g.segs≤im+1 then some ts else none:=by rw[← x1];rfl
   rw[hK]at hq
   clear hK
   cases hr:redoS n im (entsG g.segs) (lowG g.segs) ts with
   | none=>
    rw[hr]at hq
    obtain⟨rfl,rfl⟩:=hq
    (try simp only[app]at hS)
    refine zN (zu ?_)
    exact⟨_,⟨by decide,H3,h03,rfl,rfl⟩,SL.into hS Xi⟩
   | some ts2=>
    rw[hr]at hq
    simp only at hq
    by_cases hc:im≤headG g.segs∧lowG g.segs≤im+1
    ·rw[if_pos hc]at hq
     obtain⟨rfl,rfl⟩:=hq
     (try simp only[app]at hS)
     refine zN (zo ?_)
     simp only
     rw[if_pos hc]
     exact⟨_,⟨sp,tp,lp,H3,h03,rfl,rfl⟩,SL.into hS Xi⟩
    ·rw[if_neg hc]at hq
     obtain⟨rfl,rfl⟩:=hq
     (try simp only[app]at hS)
     refine zN (zu ?_)
     simp only
     rw[if_neg hc]
     exact⟨_,⟨by decide,H3,h03,rfl,rfl⟩,SL.into hS Xi⟩
theorem Z1(H:Heap)(dp:Nat)(d:DS)(tabs size:Int){N:Nat}(hok:d.Ok N)(hN:N≤900000000)(hops:d.ops≤90000)(hn:∀d' g,openG d 16 size=(d',.ok g)→(entsG g.segs).length≤50000):
  SP 12 [ptrA dp,.int .i64 tabs,.int .i64 size] [.ob (DskO dp d),.mem H] (OpenSQ dp H (openS d tabs size)):=
 sopen_specW H dp d tabs size hok (by omega) (WinLe.all hok.len 16) hN hops hn
structure KIm(i:Nat)(AL:List TxnD)(k:PSrc):Prop where
 len:AL.length=i
 few:Few 2 AL
 live:∃d0 f lo m,SrcL 2 k AL 0 [] d0 f lo m
 off:k.d.off=false
 arm:k.d.arm=0
 ok:SOk k (i*2000)
 ops:k.d.ops≤i*2
 full:∀s∈k.g.segs,s.l≠[]
theorem KIm.init{size:Int}(s0:64≤size)(s1:size≤65536):KIm 0 [] (k00 2 size):=by
 obtain⟨_,hL⟩:=sopen00 (n:=2) (by decide) (by decide) s0 s1
 exact⟨rfl,Few.nil 2,⟨s00,16,0,0,hL⟩,rfl,rfl,sok00 (by decide) (by decide) s0 s1,Nat.le_refl _,by simp[k00]⟩
theorem KIm.commit{i:Nat}{AL:List TxnD}{k:PSrc}(h:KIm i AL k)(hi:i≤900){c:List Chg}{sg:List ByteArray}(hm:mayTx ⟨1,1,c,sg,0⟩=true)(hc:∀x∈c,chgIn 2 x=true)(hf:Few 2 (AL++[⟨(i:Int)+1,1,c,sg,0⟩])):
  ∃k',k.commitS sg c=(k',((i:Int)+1,0))∧KIm (i+1) (AL++[⟨(i:Int)+1,1,c,sg,0⟩]) k':=by
 obtain⟨d0,f,lo,m,hL⟩:=h.live
 have hlen:=h.len
 have hops:=h.ops
 have ha:=h.arm
 have hok:=h.ok.commit sg c
 subst hlen
 rcases hL.commit h.off (by omega) h.few.len hm hc hf.fits h.full with ⟨k',d1,e,hL',o1,a1,a0,p1,z1,fl⟩|⟨k',d1,e,o1,a0,p1,hD⟩
 ·rw[e]at hok
  exact⟨k',e,⟨by simp,hf,⟨d1,f,lo,m,hL'⟩,o1,a0 ha,hok.mono (by omega),by omega,fl⟩⟩
 ·exact absurd ha a0
structure PW(n:Int)(L:List PSeg)(d:DS):Prop where
 off:d.off=false
 arm:d.arm=0
 n0:0≤n
 n16:n≤16
 ex:∃I,(∀x∈I,0≤x.id∧x.id<n)∧d.R=I++L.map segF
 seg:∀x∈L.map segF,16≤x.id∧x.id<4112∧x.b.length≤100000
theorem PW.mono{n m:Int}{L:List PSeg}{d:DS}(h:PW n L d)(hn:n≤m)(hm:m≤16):PW m L d:=by
 obtain⟨I,h1,h2⟩:=h.ex
 have:=h.n0
 exact⟨h.off,h.arm,by omega,hm,⟨I,λx hx=>by have:=h1 x hx;omega,h2⟩,h.seg⟩
theorem PW.get{n:Int}{L:List PSeg}{d:DS}(h:PW n L d){f:Int}(h1:n≤f)(h2:f<16):getK PF.id d.R f=none:=by
 cases e:getK PF.id d.R f with
 | none=>rfl
 | some x=>
  obtain⟨hx,hk⟩:=getK_mem e
  obtain⟨I,hI,hR⟩:=h.ex
  rw[hR]at hx
  rcases List.mem_append.1 hx with hx|hx
  ·have:=hI x hx;omega
  ·have:=h.seg x hx;omega
theorem PW.append{n:Int}{L:List PSeg}{d:DS}(h:PW n L d){f:Int}(h1:n≤f)(h2:f<16)(b:List UInt8):PW (f+1) L (d.append f b).1:=by
 have hg:=h.get h1 h2
 have h0:=h.n0
 have ha:=h.arm
 obtain⟨I,hI,hR⟩:=h.ex
 have hm:may d f=0:=by unfold may;rw[if_neg (by simp[h.off]),if_neg (by omega)]
 unfold DS.append
 rw[if_neg (by simp[hm])]
 refine⟨by simp[DS.cnt,ha],by simp[DS.cnt,ha],by omega,by omega,?_,h.seg⟩
 have hw:Win 0 16 [] (L.map segF) I:=⟨by simp,λx hx=>by have:=hI x hx;omega,λx hx=>(h.seg x hx).1⟩
 have:=hw.app (f:=f) (by omega) h2 b
 rw[List.nil_append,List.nil_append,← hR]at this
 refine⟨appF I f b,λx hx=>?_,this⟩
 unfold appF at hx
 rcases mem_putK hx with rfl|hx
 ·show 0≤f∧f<f+1;omega
 ·have:=hI x hx;omega
theorem DS.Ok.appendF{s:DS}{N:Nat}(h:s.Ok N){f:Int}{b:List UInt8}(hb:((getK PF.id s.R f).getD (newF f)).b.length+b.length≤N):(s.append f b).1.Ok N:=by
 unfold DS.append
 split
 ·exact h
 ·rename_i hm
  have hm:may s f=0:=by simpa using hm
  obtain⟨_,f0,f1⟩:=may_zero hm
  have hs:=getK_safe (f:=f) h.safe
  refine h.cnt.withR (putK_sorted h.sorted _) ?_ ?_ ?_
  ·intro x hx
   rcases mem_putK hx with rfl|hx
   ·exact⟨f0,f1⟩
   ·exact h.ids x hx
  ·intro x hx
   rcases mem_putK hx with rfl|hx
   ·simp only[List.length_append];omega
   ·exact h.safe x hx
  ·intro x hx
   rcases mem_putK hx with rfl|hx
   ·simp only[List.length_append];omega
   ·exact h.len x hx
theorem PW.open{n:Int}{L:List PSeg}{d:DS}(h:PW n L d){f:Int}(hc:Chain f 1 L)(hf:16≤f)(hl:f+L.length≤4112)(he:(entsG L).length≤1000):openG d 16 300=(d,.ok ⟨L,16,300,none⟩):=by
 obtain⟨I,hI,hR⟩:=h.ex
 have hn:=h.n16
 have hw:Win 16 (16+4096) I [] ({d with R:=L.map segF}:DS).R:=⟨λx hx=>by have:=hI x hx;omega,λx hx=>by have:=h.seg x hx;omega,by simp⟩
 have ho:=open_chain (d:={d with R:=L.map segF}) (base:=16) (size:=300) hc rfl h.off (by decide) (by decide) (by decide) (by decide) hf (by omega) (by decide) (by omega)
 have:=(openG_win (size:=300) hw).1
 rw[ho]at this
 have e:inW I [] ({d with R:=L.map segF}:DS)=d:=by
  unfold inW
  simp only[List.append_nil]
  rw[← hR]
 rw[e]at this
 exact this
theorem KIm.pw{i:Nat}{AL:List TxnD}{k:PSrc}(h:KIm i AL k)(hi:i≤40):PW 0 k.g.segs k.d∧∃f,Chain f 1 k.g.segs∧16≤f∧f+k.g.segs.length≤4112∧(entsG k.g.segs).length≤1000∧entsG k.g.segs=AL.map bytesT:=by
 obtain⟨d0,f,lo,m,hL⟩:=h.live
 have hlo:=hL.lotr
 have hlen:=h.len
 obtain rfl:lo=0:=by omega
 have hR:k.d.R=k.g.segs.map segF:=by
  rw[hL.disk]
  show []++d0.R++[]=_
  rw[hL.log.files];simp
 have hb:=hL.log.base
 rw[hL.base]at hb
 have hle:=hL.log.chain.len_le
 have hen:=hL.log.ents
 have hfi:=hL.log.fi
 rw[hL.base]at hfi
 rw[List.drop_zero]at hen
 rw[List.drop_zero,List.length_map]at hfi
 rw[hen,List.length_map]at hle
 have hfile:=hL.file
 have hd0:d0.R=k.g.segs.map segF:=hL.log.files
 refine⟨⟨h.off,h.arm,Int.le_refl _,by decide,⟨[],by simp,by rw[hR];simp⟩,λx hx=>?_⟩,f,hL.log.chain,hb,by omega,by rw[hen,List.length_map];omega,hen⟩
 have h1:=hL.win.m x (by rw[hd0];exact hx)
 have h2:=h.ok.d.len x (by rw[hR];exact hx)
 omega
theorem redoS_rows{n:Nat}{image:Int}:∀(es:List (List UInt8)) (lsn:Int) (T T':Tabs) (N:Nat),redoS n image es lsn T=some T'→T.length=n→(∀C∈T,RowsOk C∧C.length≤N)→T'.length=n∧∀C∈T',RowsOk C∧C.length≤N+16*es.length
 | [],lsn,T,T',N,h,hn,hT=>by
  unfold redoS at h
  cases h
  exact⟨hn,λC hC=>by have:=hT C hC;exact⟨this.1,by have:=this.2;omega⟩⟩
 | b::r,lsn,T,T',N,h,hn,hT=>by
  unfold redoS at h
  split at h
  ·cases h
  ·rename_i t ht
   split at h
   ·rename_i hc
    have hm:=mayTx_all (decTxn_may ht)
    have hin:∀c∈t.changes,chgIn T.length c=true:=λc hcm=>by
     have h1:=mayCh_iff.1 (hm.2.2.2.2.2.1 c hcm)
     have h2:=hc.2 c hcm
     unfold chgIn
     rw[hn];exact decide_eq_true ⟨h1.1,h2⟩
    have key:∀C∈(if image<lsn then appsTs T t.changes else T),RowsOk C∧C.length≤N+16:=by
     split
     ·intro D hD
      have h1:=appsTs_ok (k:=8) (λC hC=>(hT C hC).1) hm.2.2.2.2.2.1 hin D hD
      have h2:=appsTs_lenR N (λC hC=>(hT C hC).2) hin D hD
      exact⟨h1,by omega⟩
     ·intro D hD
      have:=hT D hD
      exact⟨this.1,by have:=this.2;omega⟩
    have hlen:(if image<lsn then appsTs T t.changes else T).length=n:=by
     split
     ·rw[appsTs_len];exact hn
     ·exact hn
    obtain⟨a,b⟩:=redoS_rows r _ _ T' (N+16) h hlen key
    refine⟨a,λC hC=>?_⟩
    have:=b C hC
    rw[List.length_cons]
    exact⟨this.1,by have:=this.2;omega⟩
   ·cases h
theorem openS_rows{d d':DS}{n:Nat}{size:Int}{k:PSrc}(h:openS d n size=(d',.ok k)):k.ts.length=n∧∀C∈k.ts,RowsOk C∧C.length≤1000+16*(entsG k.g.segs).length:=by
 unfold openS at h
 split at h
 ·cases h
 ·split at h
  ·cases h
  ·rename_i d1 g hg
   rw[Int.toNat_natCast]at h
   simp only at h
   obtain⟨x1,_,x3⟩:=loadI_all d1.R n
   split at h
   ·cases h
   ·rename_i ts hr
    split at h
    ·cases h
     exact redoS_rows _ _ _ _ 1000 hr x1 λC hC=>⟨⟨(x3 C hC).sorted,(x3 C hC).rows⟩,(x3 C hC).len⟩
    ·cases h
theorem decTxnR_no{b:List UInt8}{l:List PFd}(h:decF b= .ok l)(h2:¬((txR ⟨l,false⟩).2.bad=false∧(txR ⟨l,false⟩).2.l=[]∧mayTx (txR ⟨l,false⟩).1=true)):decTxn b= .error 3:=by
 unfold decTxn;rw[h];simp only;rw[← decTR_eq];unfold decTR;simp only;rw[if_neg h2]
theorem decTxnR_is{b:List UInt8}{l:List PFd}(h:decF b= .ok l)(h2:(txR ⟨l,false⟩).2.bad=false∧(txR ⟨l,false⟩).2.l=[]∧mayTx (txR ⟨l,false⟩).1=true):decTxn b= .ok (txR ⟨l,false⟩).1:=by
 unfold decTxn;rw[h];simp only;rw[← decTR_eq];unfold decTR;simp only;rw[if_pos h2]
structure TxRR(l:List PFd)(lsn kind mark:Int)(r3:PRd):Prop where
 lsn:(txR ⟨l,false⟩).1.lsn=lsn
 kind:(txR ⟨l,false⟩).1.kind=kind
 mark:(txR ⟨l,false⟩).1.mark=mark
 ch:(txR ⟨l,false⟩).1.changes=(manyP chR (intR 16 r3).1.toNat (intR 16 r3).2).1
 sg:∀r4,(manyP chR (intR 16 r3).1.toNat (intR 16 r3).2).2=r4→(txR ⟨l,false⟩).1.signals=(manyP textP (intR 2 r4).1.toNat (intR 2 r4).2).1∧(txR ⟨l,false⟩).2=(manyP textP (intR 2 r4).1.toNat (intR 2 r4).2).2
theorem TxRR.is(l:List PFd):TxRR l (intR 1099511627776 ⟨l,false⟩).1 (intR 3 (intR 1099511627776 ⟨l,false⟩).2).1 (intR 1099511627776 (intR 3 (intR 1099511627776 ⟨l,false⟩).2).2).1 (intR 1099511627776 (intR 3 (intR 1099511627776 ⟨l,false⟩).2).2).2:=⟨rfl,rfl,rfl,rfl,λr4 h=>by subst h;exact⟨rfl,rfl⟩⟩
theorem qC(X:Chunk)(H:Heap)(v:Value)(bs:List UInt8)(hv:Rdb X v bs)(hN:bs.length≤140737488355328):SP 180 [v] [X,.mem H] (DecTQ X H bs):=by
 intro W F w hS;apply vc180;unfold Vc180;(try simp only[app]at hS)
 refine Gb λzb w hS=>?_
 (refine Cc (yF X v bs hv hN) ?_;clear hS)
 rintro r post hq w hS
 unfold DecQ at hq
 cases hd:decF bs with
 | error e=>
  rw[hd]at hq
  obtain⟨rfl,rfl⟩:=hq
  have he:=decF_er hd
  (try simp only[app]at hS);refine Gp ?_
  refine zc (λ_=>?_) (λh=>absurd he h)
  refine Gn λw hS=>?_
  exact⟨[X,.mem H],by unfold DecTQ;rw[decTxn_er hd];exact⟨he,H,Heap.le_refl H,rfl,rfl⟩,SL.into hS Xi⟩
 | ok l=>
  rw[hd]at hq
  obtain⟨lv,rfl,rfl⟩:=hq
  (try simp only[app]at hS)
  refine Gp ?_
  refine zc (λh=>absurd rfl h) (λ_=>?_)
  obtain⟨la,lc,rfl,_⟩:=OwnSl.at hS (v:=lv) .hd
  refine Gp ?_
  refine zQ hS λrp w hS=>?_
  have hS:=(RRdO.iff (r:=⟨l,false⟩)).2 ⟨_,l,0,⟨Nat.zero_le _,decF_len hd,rfl⟩,hS⟩
  (refine Cc (zK rp ⟨l,false⟩ 1099511627776) ?_;clear hS)
  rintro v1 post ⟨rfl,rfl⟩ w hS
  (try simp only[app]at hS)
  refine Gp ?_
  refine Gb λxb w hS=>?_
  (refine Cc (zK rp _ 3) ?_;clear hS)
  rintro v1 post ⟨rfl,rfl⟩ w hS
  refine Gn λw hS=>?_
  (refine Cc (zK rp _ 1099511627776) ?_;clear hS)
  rintro v1 post ⟨rfl,rfl⟩ w hS
  refine Gn λw hS=>?_
  have hI:=TxRR.is l
  generalize (intR 1099511627776 (intR 3 (intR 1099511627776 ⟨l,false⟩).2).2).1=mark at *
  generalize (intR 1099511627776 (intR 3 (intR 1099511627776 ⟨l,false⟩).2).2).2=r3 at *
  generalize (intR 3 (intR 1099511627776 ⟨l,false⟩).2).1=kind at *
  generalize (intR 1099511627776 ⟨l,false⟩).1=lsn at *
  have hn1:=intR_in (m:=16) (by decide) r3
  have hS:SL W (ChO (.slice none 0 0) []::_) _:=OwnSl.nil hS
  have hS:SL W (SgO (.slice none 0 0) []::_) _:=OwnSl.nil hS
  (refine Cc (zK rp r3 16) ?_;clear hS)
  rintro v1 post ⟨rfl,rfl⟩ w hS
  (try simp only[app]at hS)
  refine⟨λus w=>us=[]∧∃cv,SL W (ChO cv (manyP chR (intR 16 r3).1.toNat (intR 16 r3).2).1::.ob (RRdO rp (manyP chR (intR 16 r3).1.toNat (intR 16 r3).2).2)::SgO (.slice none 0 0) []::.pt xb [.int .i64 lsn,.int .i64 kind,cv,.slice none 0 0,.int .i64 mark] 39::ZTx zb::X::.mem H::F) w,?_,?_⟩
  ·generalize (intR 16 r3).1=n1 at *
   generalize (intR 16 r3).2=r2 at *
   refine⟨λus w=>∃(i k:Nat) (chs:List Chg) (r:PRd) (cv:Value),us=[.int .i64 i]∧n1=((i+k:Nat):Int)∧ManyAt chR n1.toNat r2 chs k r∧SL W (ChO cv chs::.ob (RRdO rp r)::SgO (.slice none 0 0) []::.pt xb [.int .i64 lsn,.int .i64 kind,cv,.slice none 0 0,.int .i64 mark] 39::ZTx zb::X::.mem H::F) w,
    λus _=>match us with|[.int _ i]=>(n1-i).toNat|_=>0,⟨0,n1.toNat,[],r2,.slice none 0 0,rfl,by omega,ManyAt.start _ _ _,SL.into hS Xi⟩,?_⟩
   clear hS
   rintro v8 w ⟨i,k,chs,r,cv,hus,hn,hM,hS⟩
   cases hus
   have hle:=hM.le
   refine Gp ?_
   refine zc (λh=>?_) (λh=>?_)
   ·refine Gp ?_
    refine RRdO.badAt (r:=r) (Has.front hS Xr) ?_
    refine Gp ?_
    refine zD (λhb=>?_) (λhb=>?_)
    ·obtain⟨k,rfl⟩:∃j,k=j+1:=⟨k-1,by omega⟩
     have hM:=hM.step hb
     refine Gn λw hS=>?_
     refine Cg (Qj rp r) λw hS=>?_;refine Gm λb w hS=>?_
     refine yI (n:=chs.length) (xs:=chs) (y:=(chR r).1) (enc:=encChg) hS Xr Xh encChg_len (λx=>encChg_one x) rfl (by omega) (by omega) λu w hS=>?_
     have h1:=OwnSl.one hS
     refine Gn λw hS=>?_
     refine⟨⟨i+1,k,_,_,u,rfl,by omega,hM,?_⟩,by dsimp only;omega⟩
     have hS:=hS.snocL (x:=(chR r).1)
     exact SL.into hS Xi
    ·refine⟨rfl,cv,?_⟩
     rw[hM.stop (.inr hb)];exact SL.into hS Xi
   ·refine⟨rfl,cv,?_⟩
    rw[hM.stop (.inl (by omega))];exact SL.into hS Xi
  ·clear hS
   rintro w ⟨_,cv,hS⟩
   have hch:=hI.ch
   obtain⟨hsgn,hrd⟩:=hI.sg _ rfl
   generalize (manyP chR (intR 16 r3).1.toNat (intR 16 r3).2).1=chs at *
   generalize (manyP chR (intR 16 r3).1.toNat (intR 16 r3).2).2=r4 at *
   have hn2:=intR_in (m:=2) (by decide) r4
   (refine Cc (zK rp r4 2) ?_;clear hS)
   rintro v1 post ⟨rfl,rfl⟩ w hS
   (try simp only[app]at hS)
   refine⟨λus w=>us=[]∧∃sv,SL W (SgO sv (manyP textP (intR 2 r4).1.toNat (intR 2 r4).2).1::.ob (RRdO rp (manyP textP (intR 2 r4).1.toNat (intR 2 r4).2).2)::ChO cv chs::.pt xb [.int .i64 lsn,.int .i64 kind,cv,sv,.int .i64 mark] 39::ZTx zb::X::.mem H::F) w,?_,?_⟩
   ·generalize (intR 2 r4).1=n1 at *
    generalize (intR 2 r4).2=r2 at *
    refine⟨λus w=>∃(i k:Nat) (sgs:List ByteArray) (r:PRd) (sv:Value),us=[.int .i64 i]∧n1=((i+k:Nat):Int)∧ManyAt textP n1.toNat r2 sgs k r∧SL W (SgO sv sgs::.ob (RRdO rp r)::ChO cv chs::.pt xb [.int .i64 lsn,.int .i64 kind,cv,sv,.int .i64 mark] 39::ZTx zb::X::.mem H::F) w,
     λus _=>match us with|[.int _ i]=>(n1-i).toNat|_=>0,⟨0,n1.toNat,[],r2,.slice none 0 0,rfl,by omega,ManyAt.start _ _ _,SL.into hS Xi⟩,?_⟩
    clear hS
    rintro v8 w ⟨i,k,sgs,r,sv,hus,hn,hM,hS⟩
    cases hus
    have hle:=hM.le
    refine Gp ?_
    refine zc (λh=>?_) (λh=>?_)
    ·refine Gp ?_
     refine RRdO.badAt (r:=r) (Has.front hS Xr) ?_
     refine Gp ?_
     refine zD (λhb=>?_) (λhb=>?_)
     ·obtain⟨k,rfl⟩:∃j,k=j+1:=⟨k-1,by omega⟩
      have hM:=hM.step hb
      refine Gn λw hS=>?_
      refine Cg (yY rp r) λw hS=>?_;refine Gm λb w hS=>?_
      refine yI (n:=sgs.length) (xs:=sgs) (y:=(textP r).1) (enc:=λs=>[Value.string s]) hS Xr Xh (λ_=>rfl) (by simp[Value.oneCell']) rfl (by omega) (by omega) λu w hS=>?_
      have h1:=OwnSl.one hS
      refine Gn λw hS=>?_
      refine⟨⟨i+1,k,_,_,u,rfl,by omega,hM,?_⟩,by dsimp only;omega⟩
      have hS:=hS.snocL (x:=(textP r).1)
      exact SL.into hS Xi
     ·refine⟨rfl,sv,?_⟩
      rw[hM.stop (.inr hb)];exact SL.into hS Xi
    ·refine⟨rfl,sv,?_⟩
     rw[hM.stop (.inl (by omega))];exact SL.into hS Xi
   ·clear hS
    rintro w ⟨_,sv,hS⟩
    generalize (manyP textP (intR 2 r4).1.toNat (intR 2 r4).2).1=sgs at *
    generalize (manyP textP (intR 2 r4).1.toNat (intR 2 r4).2).2=r at *
    have hlsn:=hI.lsn
    have hkind:=hI.kind
    have hmark:=hI.mark
    clear hI
    generalize ht:(txR ⟨l,false⟩).1=t at *
    generalize hr:(txR ⟨l,false⟩).2=r' at *
    subst hrd hch hsgn
    obtain⟨H1,h01,hO,hS⟩:=OwnSl.freeze (SL.into hS (t:=.mem H::ChO cv t.changes::SgO sv t.signals::.ob (RRdO rp r')::.pt xb [.int .i64 lsn,.int .i64 kind,cv,sv,.int .i64 mark] 39::ZTx zb::X::F) Xi)
    obtain⟨H2,h12,hN2,hS⟩:=OwnSl.freeze hS
    rw[strs_flat]at hN2
    have hx:TxIs H2 ⟨lsn,kind,cv,sv,mark⟩ t:=⟨hlsn.symm,hkind.symm,hmark.symm,hO.mono h12,hN2⟩
    have h02:=Heap.le_trans h01 h12
    have hc1:=hO.one
    have hc2:=hN2.one
    refine Cg (Yj rp r') λw hS=>?_
    have hno:¬(r'.bad=false∧r'.l=[]∧mayTx t=true)→∀{w:World},SL W (X::.mem H2::F) w→∃post,DecTQ X H bs (.tuple #[agg (encTx zTx),.int .i64 3]) post∧SL W (app post F) w:=λh w hS=>⟨[X,.mem H2],by unfold DecTQ;rw[decTxnR_no hd (by rw[ht,hr];exact h)];exact⟨by decide,H2,h02,rfl,rfl⟩,hS⟩
    refine zD (λhb=>?_) (λhb=>?_)
    ·have hb:=of_decide_eq_false hb
     refine Gn λw hS=>?_
     exact hno (λh=>hb ⟨h.1,h.2.1⟩) (SL.into hS Xi)
    ·have hb:=of_decide_eq_true hb
     refine Gp ?_
     refine Cg (yW H2 ⟨lsn,kind,cv,sv,mark⟩ t hx) λw hS=>?_
     refine zD (λhm=>?_) (λhm=>?_)
     ·refine Gn λw hS=>?_
      exact hno (λh=>by rw[h.2.2]at hm;cases hm) (SL.into hS Xi)
     ·refine Gp ?_
      refine yj (vs:=encTx ⟨lsn,kind,cv,sv,mark⟩) hS Xu rfl rfl (encTx_one1 hc1 hc2) λw hS=>?_
      refine Gp ?_
      exact⟨[X,.mem H2],by unfold DecTQ;rw[decTxnR_is hd (by rw[ht,hr];exact⟨hb.1,hb.2,hm⟩),ht];exact⟨⟨lsn,kind,cv,sv,mark⟩,H2,h02,rfl,hx,rfl⟩,SL.into hS Xi⟩
theorem SL.lend{W w:World}{l:List Chunk}{H:Heap}{b:Nat}{cs:List Value}{t:TypeId}(h:SL W (.mem H::.pt b cs t::l) w):∃H',H.le H'∧(∀o v,cs[o]?=some v→H'.cell b o=some v)∧SL W (.mem H'::l) w∧∀{W':World} {l':List Chunk} {w':World},SL W' (.mem H'::l') w'→SL W' (.mem H::.pt b cs t::l') w':=by
 obtain⟨a1,a2,a3,k,⟨h1,h2,s,e1,h3,h4,s',⟨f,hf,e3⟩,r⟩,m⟩:=h
 have e1:h1=H:=e1
 subst e1 e3
 obtain⟨k',x,y⟩:=s.join s'
 refine⟨k',λb o e=>y.left b o e,λo v e=>?_,⟨a1,a2,a3,k,⟨k',h4,x,rfl,r⟩,m⟩,?_⟩
 ·have:k' b=some (.cells cs.toArray t f):=y.right b _ (by simp[Heap.one])
  simp[Heap.cell,this,e]
 ·rintro W' l' w' ⟨c1,c2,c3,kk,⟨q1,q2,sq,e4,rq⟩,mq⟩
  have e4:q1=k':=e4
  subst e4
  obtain⟨j,u,v⟩:=sq.assoc y
  exact⟨c1,c2,c3,kk,⟨_,j,u,rfl,_,q2,v,⟨f,hf,rfl⟩,rq⟩,mq⟩
theorem s_lend{W w:World}{l F:List Chunk}{H:Heap}{v:Value}{t:TypeId}{sz n:Nat}{cells:List Value}(hS:SL W l w)(hp:Pick [.mem H,.ob (OwnSl v t sz n cells)] l F):
  ∃H',H.le H'∧RdSl H' sz v n cells∧SL W (.mem H'::F) w∧∀{W':World} {l':List Chunk} {w':World},SL W' (.mem H'::l') w'→SL W' (.mem H::.ob (OwnSl v t sz n cells)::l') w':=by
 have h:=hS.pick hp
 rcases OwnSl.open (h.perm (.swap _ _ _)) with ⟨⟨a,rfl⟩,rfl,rfl,hS⟩|⟨b,cap,rest,rfl,hc,hlen,hrest,hS⟩
 ·exact⟨H,Heap.le_refl H,⟨by simp,a,0,rfl,Nat.le_refl _,.inl rfl⟩,hS,λh2=>(OwnSl.nil0 h2).perm (.swap _ _ _)⟩
 ·obtain⟨H',h1,h2,h3,h4⟩:=SL.lend (hS.perm (.swap _ _ _))
  refine⟨H',h1,⟨hlen,_,cap,rfl,hc,.inr ⟨b,0,rfl,λj u hu=>?_⟩⟩,h3,λh5=>?_⟩
  ·rw[Nat.zero_add]
   refine h2 j u ?_
   rw[List.getElem?_append_left (List.getElem?_eq_some_iff.1 hu).1];exact hu
  ·exact (OwnSl.mk hc hlen hrest ((h4 h5).perm (.swap _ _ _))).perm (.swap _ _ _)
theorem Zk(H:Heap)(v:Value)(lsn:Int)(ts:List (List Row))(hv:RdTs H v ts)(hn:ts.length≤140737488351232)(hc:∀C∈ts,C.length≤140737488351232):SP 91 [.int .i64 lsn,v] [.mem H] (Gives (.bool (mayImg lsn ts)) [.mem H]):=by
 intro W F w hS;apply vc91;unfold Vc91;(try simp only[app]at hS)
 have hF:∀{w:World},¬(0≤lsn∧lsn≤1099511627776∧1≤ts.length∧ts.length≤8)→SL W (.mem H::F) w→∃post,Gives (.bool (mayImg lsn ts)) [.mem H] (.bool false) post∧SL W (app post F) w:=λhno hS=>⟨_,⟨by unfold mayImg;rw[decide_eq_false hno];rfl,rfl⟩,hS⟩
 refine Gp ?_
 refine zc (λh=>hF (by omega) hS) (λh1=>?_)
 refine Gp ?_
 refine zc (λh=>hF (by omega) hS) (λh2=>?_)
 refine zZ hv ?_
 refine Gp ?_
 refine zc (λh=>hF (by omega) hS) (λh3=>?_)
 refine zZ hv ?_
 refine Gp ?_
 refine zc (λh=>hF (by omega) hS) (λh4=>?_)
 have hM:mayImg lsn ts=ts.all mayRw:=by unfold mayImg;rw[decide_eq_true (show 0≤lsn∧lsn≤1099511627776∧1≤ts.length∧ts.length≤8 by omega)];rfl
 refine⟨λus w=>∃i:Nat,us=[.int .i64 i]∧i≤ts.length∧(∀j (h:j<ts.length),j<i→mayRw ts[j]=true)∧SL W (.mem H::F) w,λus _=>match us with|[.int _ i]=>(ts.length-i).toNat|_=>0,⟨0,rfl,by omega,λj h hj=>by omega,hS⟩,?_⟩
 clear hS
 rintro v5 w ⟨i,hus,hi,hall,hS⟩
 cases hus
 refine zZ hv ?_
 refine Gp ?_
 refine zc (λh=>?_) (λh=>?_)
 ·have hil:i<ts.length:=by omega
  refine ZJ hS Xh hv hil λcv hcv=>?_
  have hCl:=hc _ (List.getElem_mem hil)
  have hno:∀{w:World},mayRw ts[i]=false→SL W (.mem H::F) w→∃post,Gives (.bool (mayImg lsn ts)) [.mem H] (.bool false) post∧SL W (app post F) w:=λhb hS=>
   ⟨_,⟨by rw[hM,show ts.all mayRw=false from List.all_eq_false.2 ⟨_,List.getElem_mem hil,by rw[hb];decide⟩],rfl⟩,hS⟩
  have hyes:mayRw ts[i]=true→∀j (h:j<ts.length),j<i+1→mayRw ts[j]=true:=λhb j hj hji=>by
   by_cases e:j=i
   ·subst e;exact hb
   ·exact hall j hj (by omega)
  generalize ts[i]=C at *
  refine zm hcv ?_
  refine Gp ?_
  refine zc (λh5=>hno (by unfold mayRw;rw[decide_eq_false (show ¬C.length≤1000 by omega),Bool.and_false]) hS) (λh5=>?_)
  refine⟨λus w=>∃(j:Nat) (k:Int),us=[.int .i64 j]∧j≤C.length∧0≤k∧(∀(h:0<j) (h2:j≤C.length),k=(C[j-1]'(by omega)).key)∧(j=0→k=0)∧riseR 0 C=riseR k (C.drop j)∧SL W (.mem H::F) w,
   λus _=>match us with|[.int _ i]=>(C.length-i).toNat|_=>0,⟨0,0,rfl,by omega,Int.le_refl _,λh=>absurd h (by decide),λ_=>rfl,rfl,hS⟩,?_⟩
  clear hS
  rintro v7 w ⟨j,k,hus,hj,hk0,hkj,hk00,hr,hS⟩
  cases hus
  refine zm hcv ?_
  refine Gp ?_
  refine zc (λh=>?_) (λh=>?_)
  ·have hjl:j<C.length:=by omega
   rw[List.drop_eq_getElem_cons hjl,riseR]at hr
   have hx:C[j]?=some C[j]:=List.getElem?_eq_getElem hjl
   have hFr:∀{w:World},¬(k<C[j].key∧C[j].key≤1099511627776∧C[j].val.size≤32)→SL W (.mem H::F) w→∃post,Gives (.bool (mayImg lsn ts)) [.mem H] (.bool false) post∧SL W (app post F) w:=λhn hS=>
    hno (by unfold mayRw;rw[hr,decide_eq_false hn];rfl) hS
   have hnext:∀{w:World},(k<C[j].key∧C[j].key≤1099511627776∧C[j].val.size≤32)→SL W (.mem H::F) w→∃(j':Nat) (k':Int),[Value.int .i64 ((j+1:Nat):Int)]=[.int .i64 j']∧j'≤C.length∧0≤k'∧(∀(h:0<j') (h2:j'≤C.length),k'=(C[j'-1]'(by omega)).key)∧(j'=0→k'=0)∧riseR 0 C=riseR k' (C.drop j')∧SL W (.mem H::F) w:=λhn hS=>
    ⟨j+1,C[j].key,rfl,by omega,by omega,λ_ _=>rfl,λh=>by omega,by rw[hr,decide_eq_true hn];rfl,hS⟩
   refine Gn λw hS=>?_
   refine zH hS Xh encRow_len hcv hx hjl (i:=0) rfl ?_
   refine Gp ?_
   refine zc (λh=>hFr (by omega) hS) (λh6=>?_)
   refine zH hS Xh encRow_len hcv hx hjl (i:=0) rfl ?_
   refine Gp ?_
   refine zc (λh=>hFr (by omega) hS) (λh7=>?_)
   refine zH hS Xh encRow_len hcv hx hjl (i:=1) rfl ?_
   refine Gp ?_
   refine zc (λh=>hFr (by omega) hS) (λh8=>?_)
   refine Gp ?_
   refine zc (λh9=>?_) (λh9=>?_)
   ·have hjp:j-1<C.length:=by omega
    have hp:=hkj (by omega) hj
    refine zH hS Xh encRow_len hcv hx hjl (i:=0) rfl ?_
    refine Gp ?_
    rw[show ((j:Nat):Int)-1=((j-1:Nat):Int) by omega]
    refine zH hS Xh encRow_len hcv (x:=C[j-1]) (List.getElem?_eq_getElem hjp) hjp (i:=0) rfl ?_
    refine Gp ?_
    refine zc (λh=>hFr (by omega) hS) (λh10=>?_)
    refine Gp ?_
    exact⟨hnext (by omega) (SL.into hS Xi),by dsimp only;omega⟩
   ·have hp:=hk00 (by omega)
    refine Gp ?_
    exact⟨hnext (by omega) (SL.into hS Xi),by dsimp only;omega⟩
  ·have hje:j=C.length:=by omega
   subst hje
   rw[List.drop_length]at hr
   refine Gp ?_
   exact⟨⟨i+1,rfl,by omega,hyes (by unfold mayRw;rw[hr,decide_eq_true (show C.length≤1000 by omega)];rfl),SL.into hS Xi⟩,by dsimp only;omega⟩
 ·refine⟨_,⟨?_,rfl⟩,hS⟩
  rw[hM,show ts.all mayRw=true from List.all_eq_true.2 λC hC=>by
   obtain⟨j,hj,rfl⟩:=List.getElem_of_mem hC
   exact hall j hj (by omega)]
theorem fIB_t{lsn:Int}{ts:List (List Row)}{i:Nat}{C:List Row}{j:Nat}(h:j<C.length):fIB lsn ts i C (j+1)=fIB lsn ts i C j++[iF C[j].key,tF C[j].val]:=by
 rw[fIB_s h,List.append_assoc];rfl
theorem Y3(H:Heap)(v:Value)(lsn:Int)(ts:List (List Row))(hv:RdTs H v ts)(hn:ts.length≤140737488351232)(hc:∀C∈ts,C.length≤140737488351232):SP 32 [.int .i64 lsn,v] [.mem H] (EncImQ H lsn ts):=by
 intro W F w hS;apply vc32;unfold Vc32;(try simp only[app]at hS)
 refine Cg (Zk H v lsn ts hv hn hc) λw hS=>?_
 refine zD (λh=>?_) (λhm=>?_)
 ·exact⟨[.mem H],by unfold EncImQ encImg;rw[if_neg (by rw[h];decide)];exact⟨rfl,rfl⟩,SL.into hS Xi⟩
 obtain⟨hb,hT⟩:=mayImg_iff.1 hm
 have hT1:∀C∈ts,C.length≤1000:=λC hC=>(hT C hC).len
 have h8:ts.length*2001≤8*2001:=Nat.mul_le_mul_right _ (by omega)
 obtain⟨vs,hv1,hv2⟩:=id hv
 refine Cg (zJ lsn) λw hS=>?_
 refine zZ hv ?_
 refine Cg (zJ ts.length) λw hS=>?_
 refine zx hS (fill2F (iF lsn) (iF ts.length)) λb w hS=>?_
 have hS:=OwnSl.full (n:=2) (sz:=3) rfl hS
 have hS:SL W (FdO _ (fIA lsn ts 0)::_) _:=hS
 refine⟨λus w=>∃(i:Nat) (u:Value),us=[u,.int .i64 i]∧i≤ts.length∧SL W (FdO u (fIA lsn ts i)::.mem H::F) w,λus _=>match us with|[_,.int _ i]=>(ts.length-i).toNat|_=>0,⟨0,_,rfl,by omega,SL.into hS Xi⟩,?_⟩
 clear hS
 rintro u v7 w ⟨i,_,hus,hi,hS⟩
 cases hus
 have hAl:=fIA_len (lsn:=lsn) hT1 i
 refine zZ hv ?_
 refine Gp ?_
 refine zc (λh=>?_) (λh=>?_)
 ·have hil:i<ts.length:=by omega
  have hs:=fIA_s (lsn:=lsn) hil
  have hCl:=hT1 _ (List.getElem_mem hil)
  have hil2:i<vs.length:=by rw[hv2.1];exact hil
  have hu:vs[i]?=some vs[i]:=List.getElem?_eq_getElem hil2
  have hcv:=hv2.2 i _ _ hu (List.getElem?_eq_getElem hil)
  generalize vs[i]=cv at *
  generalize ts[i]=C at *
  refine yL hS Xh hv1 hil hu ?_
  refine zm hcv ?_
  refine Cg (zJ C.length) λw hS=>?_;refine Gm λb w hS=>?_
  refine zY (L:=fIA lsn ts i) (M:=[iF C.length]) hS Xr (src_fd1 hS Xh) (by simp;omega) λu3 w hS=>?_
  have hS:SL W (FdO u3 (fIB lsn ts i C 0)::_) _:=hS
  refine⟨λus w=>∃(j:Nat) (u:Value),us=[u,.int .i64 j]∧j≤C.length∧SL W (FdO u (fIB lsn ts i C j)::.mem H::F) w,λus _=>match us with|[_,.int _ i]=>(C.length-i).toNat|_=>0,⟨0,_,rfl,by omega,SL.into hS Xi⟩,?_⟩
  clear hS
  rintro u v8 w ⟨j,_,hus,hj,hS⟩
  cases hus
  have hBl:=fIB_len (lsn:=lsn) hT1 i hCl j
  refine yL hS Xh hv1 hil hu ?_
  refine zm hcv ?_
  refine Gp ?_
  refine zc (λh=>?_) (λh=>?_)
  ·have hjl:j<C.length:=by omega
   have hs2:=fIB_t (lsn:=lsn) (ts:=ts) (i:=i) hjl
   have hx:C[j]?=some C[j]:=List.getElem?_eq_getElem hjl
   generalize C[j]=r at *
   obtain⟨rk,rv⟩:=r
   refine Gn λw hS=>?_
   refine yL hS Xh hv1 hil hu ?_
   refine zH hS Xh encRow_len hcv hx hjl (i:=0) rfl ?_
   refine yN hv1 hil λb1 o1 hb1=>?_
   have hc1:=hb1 0 cv (by omega) (by simpa using hu)
   refine y8 hS Xh hc1 ?_
   refine yN hcv hjl λb2 o2 hb2=>zO ?_
   have hc2:=hb2 1 (.string rv) (by omega) (flat_at encRow_len C j 1 _ _ hx rfl)
   refine y8 hS Xh hc2 ?_
   refine Cg (zJ rk) λw hS=>?_
   refine y8 hS Xh hc1 (Yz ?_)
   refine y8 hS Xh hc2 (Yz ?_)
   refine Cg (y6 rv) λw hS=>?_
   refine zx hS (fill2F (iF rk) (tF rv)) λb w hS=>?_
   refine zY (L:=fIB lsn ts i C j) (M:=[iF rk,tF rv]) hS Xr (src_pt0 (m:=2) (sz:=3) (cap:=2) hS Xh rfl) (by simp;omega) λu5 w hS=>?_
   refine Gp ?_
   refine⟨⟨j+1,_,rfl,by omega,?_⟩,by dsimp only;omega⟩
   rw[hs2]
   exact SL.into hS Xi
  ·obtain rfl:j=C.length:=by omega
   refine Gp ?_
   refine⟨⟨i+1,_,rfl,by omega,?_⟩,by dsimp only;omega⟩
   rw[hs]
   exact SL.into hS Xi
 ·obtain rfl:i=ts.length:=by omega
  rw[fIA_e]at hS hAl
  (refine Cc (yH (FdO u (fdsImg lsn ts)) u (fdsImg lsn ts) Rdn.own (by omega)) ?_;clear hS)
  rintro r post hq w hS
  (try simp only[app]at hS)
  have he:=(imgB_ok hm).1
  have hl:=imgB_len hm
  unfold EncQ at hq
  rw[he]at hq
  obtain⟨bv,rfl,rfl⟩:=hq
  (try simp only[app]at hS);refine Gp ?_
  (refine Cc (Zx _ bv (imgB lsn ts) Rdb.own (by omega)) ?_;clear hS)
  rintro r post hq w hS
  (try simp only[app]at hS)
  unfold PutQ at hq
  rw[if_neg (by omega)]at hq
  obtain⟨ov,rfl,rfl⟩:=hq
  (try simp only[app]at hS);refine Gp ?_
  exact⟨_,by unfold EncImQ encImg;rw[if_pos hm];exact⟨ov,rfl,rfl⟩,SL.into hS Xi⟩
def RDecImQ(X:Chunk)(H:Heap)(b:List UInt8)(u:Value)(post:List Chunk):Prop:=match decImg b with
 | none=>u= .tuple #[.int .i64 0,.slice none 0 0,.int .i64 3]∧∃H',H.le H'∧post=[X,.mem H']
 | some x=>∃v vs H',H.le H'∧Rd2 H' vs x.2∧u= .tuple #[.int .i64 x.1,v,.int .i64 0]∧post=[.ob (OwnSl v 53 1 x.2.length vs),X,.mem H']
theorem imgIR_no{l:List PFd}(h:¬((imgR ⟨l,false⟩).2.bad=false∧(imgR ⟨l,false⟩).2.l=[]∧mayImg (imgR ⟨l,false⟩).1.1 (imgR ⟨l,false⟩).1.2=true)):imgI l=none:=by
 rw[← imgIR_eq];unfold imgIR;simp only;rw[if_neg h]
theorem imgIR_is{l:List PFd}(h:(imgR ⟨l,false⟩).2.bad=false∧(imgR ⟨l,false⟩).2.l=[]∧mayImg (imgR ⟨l,false⟩).1.1 (imgR ⟨l,false⟩).1.2=true):imgI l=some (imgR ⟨l,false⟩).1:=by
 rw[← imgIR_eq];unfold imgIR;simp only;rw[if_pos h]
structure ImRR(l:List PFd)(lsn:Int)(r1:PRd):Prop where
 lsn:(imgR ⟨l,false⟩).1.1=lsn
 ts:(imgR ⟨l,false⟩).1.2=(manyP tabR (intR 8 r1).1.toNat (intR 8 r1).2).1
 rd:(imgR ⟨l,false⟩).2=(manyP tabR (intR 8 r1).1.toNat (intR 8 r1).2).2
theorem ImRR.is(l:List PFd):ImRR l (intR 1099511627776 ⟨l,false⟩).1 (intR 1099511627776 ⟨l,false⟩).2:=⟨rfl,rfl,rfl⟩
theorem tabR_eq(r:PRd):tabR r=manyP rowR (intR 1000 r).1.toNat (intR 1000 r).2:=rfl
theorem Y2(X:Chunk)(H:Heap)(v:Value)(bs:List UInt8)(hv:Rdb X v bs)(hN:bs.length≤140737488355328):SP 178 [v] [X,.mem H] (RDecImQ X H bs):=by
 intro W F w hS;apply vc178;unfold Vc178;(try simp only[app]at hS)
 have hno:decImg bs=none→∀{w:World} {H':Heap},H.le H'→SL W (X::.mem H'::F) w→∃post,RDecImQ X H bs (.tuple #[.int .i64 0,.slice none 0 0,.int .i64 3]) post∧SL W (app post F) w:=λh w H' hh hS=>⟨[X,.mem H'],by unfold RDecImQ;rw[h];exact⟨rfl,H',hh,rfl⟩,hS⟩
 (refine Cc (ZV X v bs hv hN) ?_;clear hS)
 rintro r post hq w hS
 unfold TakeQ at hq
 cases ht:takeR bs with
 | error e=>
  rw[ht]at hq
  obtain⟨rfl,rfl⟩:=hq
  have hd:decImg bs=none:=by unfold decImg;rw[ht]
  have he:e≠0:=by have:=takeR_err ht;omega
  (try simp only[app]at hS);refine Gp ?_
  exact zc (λ_=>hno hd (Heap.le_refl H) (SL.into hS Xi)) (λh=>absurd he h)
 | ok pn=>
  obtain⟨p,n⟩:=pn
  rw[ht]at hq
  obtain⟨pv,rfl,rfl⟩:=hq
  (try simp only[app]at hS);refine Gp ?_
  refine zc (λh=>absurd rfl h) (λ_=>?_)
  refine zE hS Xh hv ?_
  refine Gp ?_
  refine zc (λh=>?_) (λh=>?_)
  ·have hd:decImg bs=none:=by unfold decImg;rw[ht];simp only;rw[if_neg (by omega)]
   exact hno hd (Heap.le_refl H) (SL.into hS Xi)
  have hnb:n=bs.length:=by omega
  have hpl:p.length≤140737488355328:=by have:=takeR_len ht;omega
  (refine Cc (yF _ pv p Rdb.own hpl) ?_;clear hS)
  rintro r post hq w hS
  unfold DecQ at hq
  cases hd:decF p with
  | error e=>
   rw[hd]at hq
   obtain⟨rfl,rfl⟩:=hq
   have he:=decF_er hd
   have hd:decImg bs=none:=by unfold decImg;rw[ht];simp only;rw[if_pos hnb,hd]
   (try simp only[app]at hS);refine Gp ?_
   exact zc (λ_=>hno hd (Heap.le_refl H) (SL.into hS Xi)) (λh=>absurd he h)
  | ok l=>
   rw[hd]at hq
   obtain⟨lv,rfl,rfl⟩:=hq
   have hI:=decImg_eq ht hnb hd
   (try simp only[app]at hS)
   refine Gp ?_
   refine zc (λh=>absurd rfl h) (λ_=>?_)
   obtain⟨la,lc,rfl,_⟩:=OwnSl.at hS (v:=lv) (t:=174) (sz:=3) (n:=l.length) (cells:=(l.map fdcells).flatten) Xh
   have hS:=SL.into hS (t:=FdO (.slice la l.length lc) l::X::.mem H::F) Xi
   refine Gp ?_
   refine zQ hS λrp w hS=>?_
   have hS:=(RRdO.iff (r:=⟨l,false⟩)).2 ⟨_,l,0,⟨Nat.zero_le _,decF_len hd,rfl⟩,hS⟩
   (refine Cc (zK rp ⟨l,false⟩ 1099511627776) ?_;clear hS)
   rintro v1 post ⟨rfl,rfl⟩ w hS
   (try simp only[app]at hS)
   have hR:=ImRR.is l
   generalize (intR 1099511627776 ⟨l,false⟩).1=lsn at *
   generalize (intR 1099511627776 ⟨l,false⟩).2=r1 at *
   have hn1:=intR_in (m:=8) (by decide) r1
   (refine Cc (zK rp r1 8) ?_;clear hS)
   rintro v1 post ⟨rfl,rfl⟩ w hS
   (try simp only[app]at hS)
   have hts:=hR.ts
   have hrd:=hR.rd
   generalize (intR 8 r1).1=n1 at *
   generalize (intR 8 r1).2=r2 at *
   have hS:SL W (.ob (OwnSl (.slice none 0 0) 53 1 ([]:List (List Row)).length [])::_) _:=OwnSl.nil hS
   refine⟨λus w=>∃(i k:Nat) (ts:List (List Row)) (r:PRd) (tv:Value) (vs:List Value) (H':Heap),us=[tv,.int .i64 i]∧n1=((i+k:Nat):Int)∧ManyAt tabR n1.toNat r2 ts k r∧(∀C∈ts,C.length≤1000)∧H.le H'∧Rd2 H' vs ts∧SL W (.ob (OwnSl tv 53 1 ts.length vs)::.ob (RRdO rp r)::X::.mem H'::F) w,
    λus _=>match us with|[_,.int _ i]=>(n1-i).toNat|_=>0,⟨0,n1.toNat,[],r2,.slice none 0 0,[],H,rfl,by omega,ManyAt.start _ _ _,by simp,Heap.le_refl H,Rd2.nil H,SL.into hS Xi⟩,?_⟩
   clear hS
   rintro tv v13 w ⟨i,k,ts,r,_,vs,H',hus,hn,hM,hCl,hh,hR2,hS⟩
   cases hus
   have hle:=hM.le
   have hend:∀{w:World},(k=0∨r.bad=true)→SL W (.ob (OwnSl tv 53 1 ts.length vs)::.ob (RRdO rp r)::X::.mem H'::F) w →
     HCl 246 [.pointer (some ⟨rp,0,none⟩)] w λv87 w_20=>zr v87 λv88=>HIf v88
      (∃post,RDecImQ X H bs (.tuple #[.int .i64 0,.slice none 0 0,.int .i64 3]) post∧SL W (app post F) w_20)
      (HCl 91 [.int .i64 lsn,tv] w_20 λv92 w_21=>zr v92 λv93=>HIf v93
       (∃post,RDecImQ X H bs (.tuple #[.int .i64 0,.slice none 0 0,.int .i64 3]) post∧SL W (app post F) w_21)
       (∃post,RDecImQ X H bs (.tuple #[.int .i64 lsn,tv,.int .i64 0]) post∧SL W (app post F) w_21)):=by
    intro w hk hS
    rw[hM.stop hk]at hts hrd
    have hts:(imgR ⟨l,false⟩).1.2=ts:=hts
    have hrd:(imgR ⟨l,false⟩).2=r:=hrd
    have hlsn:=hR.lsn
    refine Cg (Yj rp r) λw hS=>?_
    refine zD (λhb=>?_) (λhb=>?_)
    ·have hb:=of_decide_eq_false hb
     exact hno (by rw[hI];exact imgIR_no λh=>hb ⟨by rw[← hrd];exact h.1,by rw[← hrd];exact h.2.1⟩) hh (SL.into hS Xi)
    ·have hb:=of_decide_eq_true hb
     obtain⟨H2,h12,hO,hS,hback⟩:=s_lend (H:=H') (v:=tv) hS Xp
     have hT:RdTs H2 tv ts:=⟨vs,hO,hR2.mono h12⟩
     refine Cg (Zk H2 tv lsn ts hT (by omega) (λC hC=>by have:=hCl C hC;omega)) λw hS=>?_
     have hS:=hback (SL.into hS (t:=.mem H2::X::F) Xi)
     refine zD (λhm=>?_) (λhm=>?_)
     ·exact hno (by rw[hI];exact imgIR_no λh=>by rw[hlsn,hts,hm]at h;cases h.2.2) hh (SL.into hS Xi)
     ·have he:=imgIR_is (l:=l) ⟨by rw[hrd];exact hb.1,by rw[hrd];exact hb.2,by rw[hlsn,hts];exact hm⟩
      refine⟨[.ob (OwnSl tv 53 1 ts.length vs),X,.mem H'],?_,SL.into hS Xi⟩
      unfold RDecImQ
      rw[hI,he]
      simp only
      rw[hlsn,hts]
      exact⟨tv,vs,H',hh,hR2,rfl,rfl⟩
   refine Gp ?_
   refine zc (λh=>?_) (λh=>hend (.inl (by omega)) hS)
   refine Gp ?_
   refine RRdO.badAt (r:=r) (Has.front hS Xr) ?_
   refine Gp ?_
   refine zD (λhb=>?_) (λhb=>hend (.inr hb) hS)
   clear hend
   obtain⟨k,rfl⟩:∃j,k=j+1:=⟨k-1,by omega⟩
   have hM:=hM.step hb
   rw[tabR_eq]at hM
   have hn2:=intR_in (m:=1000) (by decide) r
   (refine Cc (zK rp r 1000) ?_;clear hS)
   rintro v1 post ⟨rfl,rfl⟩ w hS
   (try simp only[app]at hS)
   generalize (intR 1000 r).1=n2 at *
   generalize (intR 1000 r).2=r5 at *
   have hS:SL W (RwO (.slice none 0 0) []::_) _:=OwnSl.nil hS
   refine⟨λus w=>∃(a c:Nat) (rs:List Row) (r':PRd) (rv:Value),us=[rv,.int .i64 a]∧n2=((a+c:Nat):Int)∧ManyAt rowR n2.toNat r5 rs c r'∧SL W (RwO rv rs::.ob (RRdO rp r')::.ob (OwnSl tv 53 1 ts.length vs)::X::.mem H'::F) w,
    λus _=>match us with|[_,.int _ i]=>(n2-i).toNat|_=>0,⟨0,n2.toNat,[],r5,.slice none 0 0,rfl,by omega,ManyAt.start _ _ _,SL.into hS Xi⟩,?_⟩
   clear hS
   rintro rv v16 w ⟨a,c,rs,r',_,hus,hn3,hM2,hS⟩
   cases hus
   have hle2:=hM2.le
   have hfin:∀{w:World},(c=0∨r'.bad=true)→SL W (RwO rv rs::.ob (RRdO rp r')::.ob (OwnSl tv 53 1 ts.length vs)::X::.mem H'::F) w →
     ∃H2,H'.le H2∧RdSl H2 2 rv rs.length (rs.map encRow).flatten∧rs.length≤1000∧ManyAt tabR n1.toNat r2 (ts++[rs]) k r'∧SL W (.mem H2::.ob (RRdO rp r')::.ob (OwnSl tv 53 1 ts.length vs)::X::F) w:=λhk hS=>by
    obtain⟨H2,h12,hO,hS⟩:=zz (H:=H') (v:=rv) hS Xp
    refine⟨H2,h12,hO,by omega,?_,SL.into hS Xi⟩
    rw[hM2.stop hk]at hM
    exact hM
   have hstep:∀{w:World} {H2:Heap} {u:Value} {cells:List Value},H'.le H2→RdSl H2 2 rv rs.length (rs.map encRow).flatten→rs.length≤1000→ManyAt tabR n1.toNat r2 (ts++[rs]) k r'→cells=vs++[rv]→SL W (.ob (OwnSl u 53 1 (ts.length+1) cells)::.ob (RRdO rp r')::X::.mem H2::F) w →
     ∃(i' k:Nat) (ts:List (List Row)) (r:PRd) (tv:Value) (vs:List Value) (H':Heap),[u,Value.int .i64 ((i+1:Nat):Int)]=[tv,.int .i64 i']∧n1=((i'+k:Nat):Int)∧ManyAt tabR n1.toNat r2 ts k r∧(∀C∈ts,C.length≤1000)∧H.le H'∧Rd2 H' vs ts∧SL W (.ob (OwnSl tv 53 1 ts.length vs)::.ob (RRdO rp r)::X::.mem H'::F) w:=λh12 hO hl hM e hS=>by
    subst e
    refine⟨i+1,k,ts++[rs],r',_,vs++[rv],_,rfl,by omega,hM,λC hC=>?_,Heap.le_trans hh h12,(hR2.mono h12).snoc hO,?_⟩
    ·rcases List.mem_append.1 hC with hC|hC
     ·exact hCl C hC
     ·rw[List.mem_singleton.1 hC];exact hl
    ·rw[List.length_append,List.length_singleton];exact hS
   refine Gp ?_
   refine zc (λh=>?_) (λh=>?_)
   ·refine Gp ?_
    refine RRdO.badAt (r:=r') (Has.front hS Xr) ?_
    refine Gp ?_
    refine zD (λhb=>?_) (λhb=>?_)
    ·clear hfin hstep
     obtain⟨c,rfl⟩:∃j,c=j+1:=⟨c-1,by omega⟩
     have hM2:=hM2.step hb
     (refine Cc (zK rp r' 1099511627776) ?_;clear hS)
     rintro v1 post ⟨rfl,rfl⟩ w hS
     (try simp only[app]at hS)
     refine Gp ?_
     refine Gb λxb w hS=>?_
     refine Cg (yY rp _) λw hS=>?_;refine Gm λb w hS=>?_
     refine yI (n:=rs.length) (xs:=rs) (y:=(rowR r').1) (enc:=encRow) hS Xr Xh encRow_len (λx=>encRow_one1 x) rfl (by omega) (by omega) λu w hS=>?_
     refine Gp ?_
     refine⟨⟨a+1,c,_,_,u,rfl,by omega,hM2,?_⟩,by dsimp only;omega⟩
     have hS:=hS.snocL (x:=(rowR r').1)
     have hS:SL W (RwO u (rs++[(rowR r').1])::_::.ob (RRdO rp (rowR r').2)::_::.ob (OwnSl tv 53 1 ts.length vs)::X::.mem H'::F) _:=hS
     exact SL.into hS Xi
    ·obtain⟨H2,h12,hO,hl,hM,hS⟩:=hfin (.inr hb) hS
     have hc1:=hO.one
     refine zx hS (fill_v hc1) λb w hS=>?_
     refine zw (n:=ts.length) (m:=1) hS Xr (src_pt0 (cs:=[rv]) hS Xh rfl) rfl rfl (by simpa using hc1) (by omega) (by omega) ?_
     clear hS;intro u w hS
     refine Gp ?_
     exact⟨hstep h12 hO hl hM rfl (SL.into hS Xi),by dsimp only;omega⟩
   ·obtain⟨H2,h12,hO,hl,hM,hS⟩:=hfin (.inl (by omega)) hS
    have hc1:=hO.one
    refine zx hS (fill_v hc1) λb w hS=>?_
    refine zw (n:=ts.length) (m:=1) hS Xr (src_pt0 (cs:=[rv]) hS Xh rfl) rfl rfl (by simpa using hc1) (by omega) (by omega) ?_
    clear hS;intro u w hS
    refine Gp ?_
    exact⟨hstep h12 hO hl hM rfl (SL.into hS Xi),by dsimp only;omega⟩
section
variable {W w:World} {l:List Chunk}
theorem ZX{b o n cap sz:Nat}{t:TypeId}{cells:List Value}{u:Value}{K:Value→Prop}(h:SL W l w)(m:Has (.ob (OwnSl (.slice (some ⟨b,0,none⟩) n cap) t sz n cells)) l)(hn:0<n)(hu:cells[o]?=some u)(hK:K u):
  HLd (.pointer (some ⟨b,o,none⟩)) w K:=by
 obtain⟨a,cap',e,_,h2⟩:=OwnSl.at h m
 cases e
 obtain⟨b',e,h3⟩:=h2 0 hn
 cases e
 exact⟨_,u,rfl,h3 o u hu,hK⟩
theorem qP{v:Value}{t:TypeId}{sz n k:Nat}{kk:IntKind}{cells:List Value}{K:Value→Prop}(h:SL W l w)(m:Has (.ob (OwnSl v t sz n cells)) l)(hk:k≤n)
  (hK:∀u,(∀w' l',SL W l' w'→Has (.ob (OwnSl v t sz n cells)) l'→srcCells w' sz u (n-k) (cells.drop (k*sz)))→K u):HSl sz v (some (.int kk (k:Int))) none none K:=by
 obtain⟨a,cap,rfl,hl,hx⟩:=OwnSl.at h m
 have hcap:n≤cap:=by
  obtain⟨l2,r⟩:=m.rem
  rcases OwnSl.open (h.perm r.perm) with ⟨⟨a',e⟩,rfl,rfl,_⟩|⟨b,cap',rest,e,hc,_⟩
  ·cases e;omega
  ·cases e;exact hc
 refine⟨a,n,cap,k,n,cap,rfl,rfl,rfl,⟨kk,rfl⟩,hk,hcap,Nat.le_refl _,hK _ λw' l' h' m'=>?_⟩
 have hs:=src_own h' m'
 have hld:(cells.drop (k*sz)).length=(n-k)*sz:=by rw[List.length_drop,hl,Nat.mul_sub_right_distrib]
 cases a with
 | none=>
  obtain⟨e1,e2⟩:=hs
  subst e2
  have e:(if cap=k then (none:Option Addr) else Option.map (λx:Addr=>x.add (k*sz)) none)=none:=by split<;>rfl
  rw[e]
  exact⟨rfl,by simp⟩
 | some p=>
  obtain⟨_,e2,e3⟩:=hs
  by_cases hc:cap=k
  ·rw[if_pos hc]
   have hnk:n-k=0:=by omega
   rw[hnk]at hld ⊢
   have:cells.drop (k*sz)=[]:=List.eq_nil_of_length_eq_zero (by simpa using hld)
   rw[this]
   exact⟨rfl,by simp,λj v e=>by simp at e⟩
  ·rw[if_neg hc]
   refine⟨rfl,hld,λj v e=>?_⟩
   rw[List.getElem?_drop]at e
   have:=e3 _ v e
   rwa [Addr.add_add]at *
end
theorem flat_set{α:Type}{enc:α→List Value}{n:Nat}(hn:∀x,(enc x).length=n):∀(xs:List α) (j k:Nat) (hj:j<xs.length) (x:α) (v:Value),k<n→(enc xs[j]).set k v=enc x→((xs.map enc).flatten).set (j*n+k) v=((xs.set j x).map enc).flatten
 | y::xs,0,k,_,x,v,hk,h=>by
  simp only[List.map_cons,List.flatten_cons,List.set_cons_zero,Nat.zero_mul,Nat.zero_add]
  rw[List.set_append_left _ _ (by rw[hn];exact hk)]
  rw[show (enc y).set k v=enc x from h]
 | y::xs,j+1,k,hj,x,v,hk,h=>by
  simp only[List.map_cons,List.flatten_cons,List.set_cons_succ]
  rw[List.set_append_right _ _ (by rw[hn,Nat.add_mul];omega),hn,show (j+1)*n+k-n=j*n+k by rw[Nat.add_mul];omega,flat_set hn xs j k (by simpa using hj) x v hk (by simpa using h)]
abbrev YF:=PF × Value
def idR(y:YF):Int:=y.1.id
theorem idR_fst(y:YF):PF.id (Prod.fst y)=idR y:=rfl
def encRF(y:YF):List Value:=[.int .i64 y.1.id,.int .i64 (y.1.safe:Int),y.2]
theorem encRF_len(y:YF):(encRF y).length=3:=rfl
def RdB(H:Heap)(ys:List YF):Prop:=∀y∈ys,RdSl H 1 y.2 y.1.b.length (y.1.b.map u8c)
theorem RdB.mono{H H':Heap}(hh:H.le H'){ys:List YF}(h:RdB H ys):RdB H' ys:=λy hy=>(h y hy).mono hh
theorem RdB.set{H:Heap}{ys:List YF}(h:RdB H ys){i:Nat}{y:YF}(hy:RdSl H 1 y.2 y.1.b.length (y.1.b.map u8c)):RdB H (ys.set i y):=λz hz=>by
 rcases List.mem_or_eq_of_mem_set hz with hz|rfl
 ·exact h z hz
 ·exact hy
abbrev rcells(fv:Value)(s:DS):List Value:=[fv,.int .i64 s.arm,.bool s.off,.int .i64 (s.ops:Int)]
abbrev FilesO(fv:Value)(ys:List YF):zB:=OwnSl fv 186 3 ys.length (ys.map encRF).flatten
def RDO(H:Heap)(xp:Nat)(s:DS):zB:=HEx λx:Value × List YF=>zW (x.2.map Prod.fst=s.R∧RdB H x.2) [.pt xp (rcells x.1 s) 66,.ob (FilesO x.1 x.2)]
theorem RDO.iff{W w:World}{H:Heap}{xp:Nat}{s:DS}{l:List Chunk}:SL W (.ob (RDO H xp s)::l) w↔∃fv ys,(ys.map Prod.fst=s.R∧RdB H ys)∧SL W (.pt xp (rcells fv s) 66::.ob (FilesO fv ys)::l) w:=by
 unfold RDO
 simp only[SL.ex,SL.fact,List.cons_append,List.nil_append]
 exact⟨λ⟨x,h1,h2⟩=>⟨x.1,x.2,h1,h2⟩,λ⟨fv,ys,h1,h2⟩=>⟨(fv,ys),h1,h2⟩⟩
theorem RDO.mono{W w:World}{H H':Heap}(hh:H.le H'){xp:Nat}{s:DS}{l:List Chunk}(h:SL W (.ob (RDO H xp s)::l) w):SL W (.ob (RDO H' xp s)::l) w:=by
 obtain⟨fv,ys,⟨h1,h2⟩,hS⟩:=RDO.iff.1 h
 exact RDO.iff.2 ⟨fv,ys,⟨h1,h2.mono hh⟩,hS⟩
theorem encRF_at{ys:List YF}{j i o:Nat}(hj:j<ys.length)(ho:o=j*3+i){u:Value}(hu:(encRF ys[j])[i]?=some u):((ys.map encRF).flatten)[o]?=some u:=by
 subst ho;exact flat_at encRF_len ys j i _ u (List.getElem?_eq_getElem hj) hu
theorem y0(xp:Nat)(s:DS)(fv:Value)(ys:List YF)(hs:SortedK PF.id (ys.map Prod.fst))(hn:ys.length≤100000)(f:Int):
  SP 100 [.pointer (some ⟨xp,0,none⟩),.int .i64 f] [.pt xp (rcells fv s) 66,.ob (FilesO fv ys)]
   (Gives (.tuple #[.int .i64 (cntK idR ys f:Int),.bool (isK idR ys f)]) [.pt xp (rcells fv s) 66,.ob (FilesO fv ys)]):=by
 intro W F w hS;apply vc100;unfold Vc100;(try simp only[app]at hS)
 have hs:SortedK idR ys:=(sorted_map idR_fst).1 hs
 refine⟨λus w=>∃i:Nat,us=[.int .i64 i]∧i≤ys.length∧(∀j (h:j<ys.length),j<i→idR ys[j]<f)∧SL W (.pt xp (rcells fv s) 66::.ob (FilesO fv ys)::F) w,
  λus _=>match us with|[.int _ i]=>(ys.length-i).toNat|_=>0,⟨0,rfl,by omega,λj h h0=>by omega,hS⟩,?_⟩
 clear hS
 rintro v6 w ⟨i,hus,hi,hlt,hS⟩
 cases hus
 refine Gp ?_
 refine zt hS (t:=186) (sz:=3) (n:=ys.length) (cells:=(ys.map encRF).flatten) Xh ?_
 refine Gp ?_
 refine zc (λh=>?_) (λh=>?_)
 ·have hil:i<ys.length:=by omega
  obtain⟨a,cap,rfl,_,hx⟩:=OwnSl.at hS (t:=186) (sz:=3) (n:=ys.length) (cells:=(ys.map encRF).flatten) Xh
  obtain⟨b,rfl,_⟩:=hx i hil
  have hid:((ys.map encRF).flatten)[0+i*3+0]?=some (.int .i64 ys[i].1.id):=encRF_at hil (i:=0) (by omega) rfl
  refine Gp ?_
  refine zG hil (zO ?_)
  refine ZX hS (t:=186) (sz:=3) (cells:=(ys.map encRF).flatten) Xh (by omega) hid ?_
  refine Gp ?_
  refine zc (λh2=>?_) (λh2=>?_)
  ·refine Gp ?_
   refine⟨⟨i+1,by simp,by omega,λj h3 h4=>?_,SL.into hS Xi⟩,by dsimp only;omega⟩
   by_cases e:j=i
   ·subst e;exact h2
   ·exact hlt j h3 (by omega)
  ·have hc:cntK idR ys f=i:=cntK_eq hs f hi hlt λ_=>h2
   have hk:isK idR ys f=decide (ys[i].1.id=f):=by
    unfold isK;rw[hc,List.getElem?_eq_getElem hil];rfl
   rw[hc,hk]
   refine Gn λw hS=>?_
   refine zc (λ_=>?_) (λh=>absurd (by omega) h)
   refine Gp ?_
   refine zG hil (zO ?_)
   refine ZX hS (t:=186) (sz:=3) (cells:=(ys.map encRF).flatten) Xh (by omega) hid ?_
   refine Gp ?_
   refine ZX hS (t:=186) (sz:=3) (cells:=(ys.map encRF).flatten) Xh (by omega) hid ?_
   refine Gp ?_
   exact⟨_,⟨rfl,rfl⟩,SL.into hS Xi⟩
 ·have hie:i=ys.length:=by omega
  have hc:cntK idR ys f=i:=cntK_eq hs f hi hlt λh=>by omega
  have hk:isK idR ys f=false:=by
   unfold isK;rw[hc,List.getElem?_eq_none (by omega)]
  rw[hc,hk]
  refine Gn λw hS=>?_
  refine zt hS (t:=186) (sz:=3) (n:=ys.length) (cells:=(ys.map encRF).flatten) Xh ?_
  refine Gp ?_
  refine zc (λh=>absurd h (by omega)) (λ_=>?_)
  exact⟨_,⟨rfl,rfl⟩,SL.into hS Xi⟩
theorem isK_R{s:DS}{ys:List YF}(h:ys.map Prod.fst=s.R)(f:Int):isK PF.id s.R f=isK idR ys f:=by rw[← h];exact isK_map idR_fst ys f
theorem yp(xp:Nat)(s:DS)(fv:Value)(ys:List YF)(he:ys.map Prod.fst=s.R)(hs:SortedK PF.id s.R)(hn:ys.length≤100000)(f:Int)(needs:Bool):
  SP 98 [.pointer (some ⟨xp,0,none⟩),.int .i64 f,.bool needs] [.pt xp (rcells fv s) 66,.ob (FilesO fv ys)]
   (Gives (.int .i64 (if needs then s.find f else may s f)) [.pt xp (rcells fv s) 66,.ob (FilesO fv ys)]):=by
 intro W F w hS;apply vc98;unfold Vc98;(try simp only[app]at hS)
 have hs':SortedK PF.id (ys.map Prod.fst):=by rw[he];exact hs
 have hbad:may s f≠0→(if needs then s.find f else may s f)=may s f:=λh=>by
  unfold DS.find;rw[if_pos h];split<;>rfl
 have hgood:may s f=0→(if needs then s.find f else may s f)=if needs then (if isK idR ys f then 0 else 5) else 0:=λh=>by
  unfold DS.find;rw[if_neg (show ¬may s f≠0 by omega),isK_R he,h]
 generalize (if needs then s.find f else may s f)=r at *
 refine Gp ?_
 refine ZH (λh=>?_) (λh=>?_)
 ·have hm:may s f=8:=by unfold may;rw[if_pos h]
  rw[hbad (by omega),hm]
  (exact⟨_,⟨rfl,rfl⟩,SL.into hS Xi⟩)
 ·refine Gp ?_
  refine zc (λh2=>?_) (λh2=>?_)
  ·have hm:may s f=1:=by unfold may;rw[if_neg (by rw[h];decide),if_pos (.inl h2)]
   rw[hbad (by omega),hm]
   (exact⟨_,⟨rfl,rfl⟩,SL.into hS Xi⟩)
  ·refine Gp ?_
   refine zc (λh3=>?_) (λh3=>?_)
   ·have hm:may s f=1:=by unfold may;rw[if_neg (by rw[h];decide),if_pos (.inr h3)]
    rw[hbad (by omega),hm]
    (exact⟨_,⟨rfl,rfl⟩,SL.into hS Xi⟩)
   ·have hm:may s f=0:=by unfold may;rw[if_neg (by rw[h];decide),if_neg (by omega)]
    rw[hgood hm]
    refine Cg (y0 xp s fv ys hs' hn f) λw hS=>?_
    cases needs with
    | true=>
     refine zu ?_
     cases isK idR ys f with
     | true=>
      refine zN (zo ?_)
      (exact⟨_,⟨rfl,rfl⟩,SL.into hS Xi⟩)
     | false=>
      refine zN (zu ?_)
      (exact⟨_,⟨rfl,rfl⟩,SL.into hS Xi⟩)
    | false=>
     refine zo ?_
     (exact⟨_,⟨rfl,rfl⟩,SL.into hS Xi⟩)
theorem y2(xp:Nat)(s:DS)(fv:Value)(h0:s.off=false)(h1:0≤s.arm)(h2:s.arm≤9223372036854775807)(h3:s.ops≤100000):
  SP 99 [.pointer (some ⟨xp,0,none⟩)] [.pt xp (rcells fv s) 66] (Gives (.bool s.cnt.off) [.pt xp (rcells fv s.cnt) 66]):=by
 intro W F w hS;apply vc99;unfold Vc99;(try simp only[app]at hS)
 refine Gn λw hS=>?_
 refine zc (λh=>?_) (λh=>?_)
 ·refine Gn λw hS=>?_
  refine zc (λh4=>?_) (λh4=>?_)
  ·refine Gn λw hS=>?_
   have e:s.cnt.off=true:=by simp[DS.cnt];omega
   have hS:SL W (.pt xp (rcells fv s.cnt) 66::F) w:=by
    unfold rcells;rw[e]
    simp only[DS.cnt,if_pos h]
    exact hS
   rw[e]
   (exact⟨_,⟨rfl,rfl⟩,SL.into hS Xi⟩)
  ·refine Gp ?_
   have e:s.cnt.off=false:=by simp[DS.cnt];omega
   have hS:SL W (.pt xp (rcells fv s.cnt) 66::F) w:=by
    unfold rcells;rw[e]
    rw[h0]at hS
    simp only[DS.cnt,if_pos h]
    exact hS
   rw[e,h0]
   (exact⟨_,⟨rfl,rfl⟩,SL.into hS Xi⟩)
 ·refine Gp ?_
  have e:s.cnt.off=false:=by simp[DS.cnt];omega
  have hS:SL W (.pt xp (rcells fv s.cnt) 66::F) w:=by
   unfold rcells;rw[e]
   rw[h0]at hS
   simp only[DS.cnt,if_neg h]
   exact hS
  rw[e,h0]
  (exact⟨_,⟨rfl,rfl⟩,SL.into hS Xi⟩)
theorem ym(g:Bool):SP 101 [.bool g] [] (Gives (.int .i64 (if g then 8 else 0)) []):=by
 intro W F w hS;apply vc101;unfold Vc101;(try simp only[app]at hS)
 cases g with
 | true=>refine Gp ?_;(exact⟨_,⟨rfl,rfl⟩,SL.into hS Xi⟩)
 | false=>refine Gp ?_;(exact⟨_,⟨rfl,rfl⟩,SL.into hS Xi⟩)
theorem FilesO.pt{W w:World}{l:List Chunk}{fv:Value}{ys:List YF}(h:SL W (.ob (FilesO fv ys)::l) w)(hn:0<ys.length):∃b cap rest,fv= .slice (some ⟨b,0,none⟩) ys.length cap∧SL W (.pt b ((ys.map encRF).flatten++rest) 186::l) w ∧
  ∀ys' w' l',ys'.length=ys.length→SL W (.pt b ((ys'.map encRF).flatten++rest) 186::l') w'→SL W (.ob (FilesO (.slice (some ⟨b,0,none⟩) ys.length cap) ys')::l') w':=by
 rcases OwnSl.open h with ⟨_,h0,_⟩|⟨b,cap,rest,rfl,hc,hl,hr,hS⟩
 ·omega
 ·refine⟨b,cap,rest,rfl,hS,λys' w' l' hlen h'=>?_⟩
  unfold FilesO
  rw[hlen]
  exact OwnSl.mk hc (by rw[flat_len encRF_len,hlen]) hr h'
theorem encRF_pt{ys:List YF}{rest:List Value}{j i o:Nat}(hj:j<ys.length)(ho:o=j*3+i){u:Value}(hu:(encRF ys[j])[i]?=some u):((ys.map encRF).flatten++rest)[o]?=some u:=by
 have h:=encRF_at hj ho hu
 rw[List.getElem?_append_left (List.getElem?_eq_some_iff.1 h).1];exact h
theorem encRF_set{ys:List YF}{rest:List Value}{j i o:Nat}(hj:j<ys.length)(ho:o=j*3+i)(hi:i<3){v:Value}{y:YF}(hy:(encRF ys[j]).set i v=encRF y):((ys.map encRF).flatten++rest).set o v=((ys.set j y).map encRF).flatten++rest:=by
 subst ho
 rw[List.set_append_left _ _ (by rw[flat_len encRF_len];omega),flat_set encRF_len ys j i hj y v hi hy]
structure AppI(R:List PF)(ys2:List YF)(i:Nat)(f:Int):Prop where
 lt:i<ys2.length
 at_:∀h:i<ys2.length,ys2[i].1=⟨f,((getK PF.id R f).getD (newF f)).safe,((getK PF.id R f).getD (newF f)).b⟩
 put:∀y:YF,y.1.id=f→(ys2.set i y).map Prod.fst=putK PF.id R y.1
 len:ys2.length≤R.length+1
theorem appI_old{R:List PF}{ys:List YF}(he:ys.map Prod.fst=R){f:Int}(hk:isK idR ys f=true):AppI R ys (cntK idR ys f) f:=by
 obtain⟨h1,h2⟩:=isK_true hk
 have hg:getK PF.id R f=some ys[cntK idR ys f].1:=by
  rw[← he,getK_map idR_fst]
  unfold getK;rw[if_pos hk,List.getElem?_eq_getElem h1];rfl
 refine⟨h1,λ_=>?_,λy hy=>?_,by rw[← he,List.length_map];omega⟩
 ·rw[hg]
  have h3:∀p:PF,p.id=f→p=⟨f,p.safe,p.b⟩:=by rintro ⟨a,b,c⟩ rfl;rfl
  exact h3 _ h2
 ·have hi:isK PF.id R y.1.id=true:=by rw[hy,← he,isK_map idR_fst];exact hk
  rw[putK_is hi,hy,← he,cntK_map idR_fst,List.map_set]
theorem appI_new{R:List PF}{ys:List YF}(he:ys.map Prod.fst=R){f:Int}(hk:isK idR ys f=false)(v:Value):AppI R (ys.take (cntK idR ys f)++[(newF f,v)]++ys.drop (cntK idR ys f)) (cntK idR ys f) f:=by
 have hle:=cntK_le (key:=idR) ys f
 have hg:getK PF.id R f=none:=by
  rw[← he,getK_map idR_fst]
  unfold getK;rw[if_neg (by rw[hk];decide)];rfl
 have hl:(ys.take (cntK idR ys f)).length=cntK idR ys f:=by rw[List.length_take];omega
 refine⟨by simp;omega,λh=>?_,λy hy=>?_,by rw[← he];simp;omega⟩
 ·rw[hg]
  rw[List.getElem_append_left (by simp;omega),List.getElem_append_right (by omega)]
  simp[hl];rfl
 ·have hi:isK PF.id R y.1.id=false:=by rw[hy,← he,isK_map idR_fst];exact hk
  unfold putK
  rw[hi,hy,← he,cntK_map idR_fst]
  rw[List.append_assoc,List.set_append_right _ _ (by omega),hl,Nat.sub_self]
  simp
theorem nilF_rd(H:Heap)(f:Int):RdSl H 1 (.slice none 0 0) (newF f).b.length ((newF f).b.map u8c):=RdSl.nil H 1
theorem encRF_one{H:Heap}{ys:List YF}(hB:RdB H ys):∀v∈(ys.map encRF).flatten,v.oneCell'=true:=by
 intro v hv
 obtain⟨l,hl,hv⟩:=List.mem_flatten.1 hv
 obtain⟨y,hy,rfl⟩:=List.mem_map.1 hl
 simp only[encRF,List.mem_cons,List.not_mem_nil,or_false]at hv
 rcases hv with rfl|rfl|rfl
 ·rfl
 ·rfl
 ·exact (hB y hy).one
theorem rappend_specF(H:Heap)(xp:Nat)(s:DS)(N:Nat)(hok:s.Ok N)(hops:s.ops≤100000)(hR:s.R.length≤90000)(f:Int)(bv:Value)(bs:List UInt8)(hb:RdSl H 1 bv bs.length (bs.map u8c))(hN:((getK PF.id s.R f).getD (newF f)).b.length+bs.length≤140737488355328):
  SP 35 [.pointer (some ⟨xp,0,none⟩),.int .i64 f,bv] [.ob (RDO H xp s),.mem H] (λv post=>v= .int .i64 (s.append f bs).2∧∃H',H.le H'∧post=[.ob (RDO H' xp (s.append f bs).1),.mem H']):=by
 intro W F w hS;apply vc35;unfold Vc35;(try simp only[app]at hS)
 obtain⟨fv,ys,⟨he,hrb⟩,hS⟩:=RDO.iff.1 hS
 have hyl:ys.length=s.R.length:=by rw[← he,List.length_map]
 (refine Cc (yp xp s fv ys he hok.sorted (by omega) f false) ?_;clear hS)
 rintro v post ⟨rfl,rfl⟩ w hS
 (try simp only[app]at hS)
 simp only[Bool.false_eq_true,if_false]
 unfold DS.append
 refine Gp ?_
 refine zc (λh=>?_) (λh=>?_)
 ·rw[if_pos h]
  exact⟨_,⟨rfl,H,Heap.le_refl H,rfl⟩,RDO.iff.2 ⟨fv,ys,⟨he,hrb⟩,SL.into hS Xi⟩⟩
 ·rw[if_neg h]
  have hm:may s f=0:=by omega
  obtain⟨h0,hf0,hf1⟩:=may_zero hm
  refine Cg (y2 xp s fv h0 hok.arm0 hok.arm1 hops) λw hS=>?_
  refine Cg (y0 xp s.cnt fv ys (by rw[he];exact hok.sorted) (by omega) f) λw hS=>?_
  have hcl:=cntK_le (key:=idR) ys f
  have hAo:=appI_old he (f:=f)
  have hAn:=λhk=>appI_new he (f:=f) hk (.slice none 0 0)
  generalize hci:cntK idR ys f=i at *
  refine⟨λus w=>us=[]∧∃fv2 ys2,AppI s.R ys2 i f∧RdB H ys2∧SL W (.pt xp (rcells fv2 s.cnt) 66::.ob (FilesO fv2 ys2)::.mem H::F) w,?_,?_⟩
  ·cases hk:isK idR ys f with
   | true=>
    refine zN (zo ?_)
    exact⟨rfl,fv,ys,hAo hk,hrb,SL.into hS Xi⟩
   | false=>
    refine zN (zu ?_)
    refine Gm λb w hS=>?_
    have hS:=OwnSl.full (n:=0) (sz:=3) rfl hS
    refine QH hS (t:=186) (sz:=3) (n:=ys.length) (cells:=(ys.map encRF).flatten) Xh hcl ?_
    intro a cap hsrc
    have h1c:=encRF_one hrb
    refine zw (n:=0) (m:=i) hS .hd (hsrc _ _ hS Xh) (by rw[List.length_take,flat_len encRF_len];exact Nat.min_eq_left (Nat.mul_le_mul_right _ hcl)) rfl (λv hv=>h1c v (List.mem_of_mem_take hv)) (by omega) (by omega) ?_
    clear hS;intro v1 w hS
    rw[Nat.zero_add,List.nil_append,flat_take_n encRF_len]at hS
    refine y7 rfl ?_
    refine zx hS rfl ?_
    clear hS;intro b2 w hS
    refine zw (n:=i) (m:=1) (cells:=((ys.take i).map encRF).flatten) hS Xr (src_pt0 (cs:=encRF (newF f,Value.slice none 0 0)) hS .hd rfl) rfl rfl (by simp[encRF,Value.oneCell']) (by omega) (by omega) ?_
    clear hS;intro v2 w hS
    refine Gp ?_
    refine qP hS (t:=186) (sz:=3) (n:=ys.length) (cells:=(ys.map encRF).flatten) Xh hcl ?_
    intro u hsrc2
    refine zw (n:=i+1) (m:=ys.length-i) (cells:=((ys.take i).map encRF).flatten++encRF (newF f,Value.slice none 0 0)) hS Xr (hsrc2 _ _ hS Xh) (by rw[List.length_drop,flat_len encRF_len,Nat.mul_sub_right_distrib]) rfl (λv hv=>h1c v (List.mem_of_mem_drop hv)) (by omega) (by omega) ?_
    clear hS;intro v3 w hS
    have hone:=hS.ownOne .hd
    refine Gn λw hS=>?_
    rw[flat_drop_n encRF_len]at hS
    have e1:((ys.take i).map encRF).flatten++encRF (newF f,Value.slice none 0 0)++((ys.drop i).map encRF).flatten=((ys.take i++[(newF f,Value.slice none 0 0)]++ys.drop i).map encRF).flatten:=by simp
    have e2:i+1+(ys.length-i)=(ys.take i++[(newF f,Value.slice none 0 0)]++ys.drop i).length:=by simp;omega
    rw[e1,e2]at hS
    refine⟨v3,ys.take i++[(newF f,Value.slice none 0 0)]++ys.drop i,hAn hk,λy hy=>?_,SL.into hS Xi⟩
    rcases List.mem_append.1 hy with hy|hy
    ·rcases List.mem_append.1 hy with hy|hy
     ·exact hrb y (List.mem_of_mem_take hy)
     ·rw[List.mem_singleton]at hy;subst hy;exact nilF_rd H f
    ·exact hrb y (List.mem_of_mem_drop hy)
  ·clear hS hAo hAn hci hcl
   rintro w ⟨-,fv2,ys2,hA,hB,hS⟩
   have hi:=hA.lt
   have hat:=hA.at_ hi
   have hold:=hB _ (List.getElem_mem hi)
   have hlen2:=hA.len
   obtain⟨b0,cap,rest,rfl,hS,hback⟩:=FilesO.pt (SL.into hS (t:=.ob (FilesO fv2 ys2)::.pt xp (rcells fv2 s.cnt) 66::.mem H::F) Xi) (by omega)
   have hcell:((ys2.map encRF).flatten++rest)[0+i*3+2]?=some ys2[i].2:=encRF_pt hi (i:=2) (by omega) rfl
   have hb1:ys2[i].1.b.length+bs.length≤140737488355328:=by rw[hat];exact hN
   refine Gn λw hS=>?_
   refine zG hi (zO (yb hS Xh hcell ?_))
   refine Gm λb w hS=>?_
   refine yb hS Xh hcell ?_
   refine Gp ?_
   have hS:=OwnSl.full (n:=0) (sz:=1) rfl hS
   refine zw (n:=0) (m:=ys2[i].1.b.length) hS .hd (src_rd hS Xh hold) (by simp) rfl (u8c_one _) (by omega) (by omega) ?_
   clear hS;intro v1 w hS
   rw[Nat.zero_add,List.nil_append]at hS
   refine Gp ?_
   refine zw (n:=ys2[i].1.b.length) (m:=bs.length) (cells:=ys2[i].1.b.map u8c) hS Xr (src_rd hS Xh hb) (by simp) rfl (u8c_one _) (by omega) (by omega) ?_
   clear hS;intro v2 w hS
   have hone:=hS.ownOne .hd
   refine Gp ?_
   refine zG hi (zO ?_)
   refine ZZ hS Xu hcell hone ?_
   clear hS;intro w hS
   have e1:ys2[i].1.b.map u8c++bs.map u8c=(ys2[i].1.b++bs).map u8c:=by rw[List.map_append]
   have e2:ys2[i].1.b.length+bs.length=(ys2[i].1.b++bs).length:=by rw[List.length_append]
   rw[e1,e2]at hS
   rw[encRF_set (y:=(⟨f,ys2[i].1.safe,ys2[i].1.b++bs⟩,v2)) hi (i:=2) (by omega) (by omega) (by
    rw[show ys2[i]=((⟨f,ys2[i].1.safe,ys2[i].1.b⟩:PF),ys2[i].2) from Prod.ext (by rw[hat]) rfl];rfl)]at hS
   obtain⟨H',h01,hR2,hS⟩:=zz (H:=H) (v:=v2) (n:=(ys2[i].1.b++bs).length) (sz:=1) (t:=5) (cells:=(ys2[i].1.b++bs).map u8c) hS Xp
   refine Cg (ym s.cnt.off) λw hS=>?_
   refine⟨_,⟨by unfold DS.err;rfl,H',h01,rfl⟩,RDO.iff.2 ⟨Value.slice (some ⟨b0,0,none⟩) ys2.length cap,ys2.set i (⟨f,ys2[i].1.safe,ys2[i].1.b++bs⟩,v2),⟨?_,(hB.mono h01).set hR2⟩,?_⟩⟩
   ·show _=appF s.R f bs
    rw[hA.put _ rfl]
    unfold appF
    simp only[hat]
   ·have:=hback (ys2.set i (⟨f,ys2[i].1.safe,ys2[i].1.b++bs⟩,v2)) w (.pt xp (rcells (.slice (some ⟨b0,0,none⟩) ys2.length cap) s.cnt) 66::.mem H'::F) (by simp) (SL.into hS Xi)
    exact SL.into this Xi
theorem Yu(H:Heap)(xp:Nat)(s:DS)(N:Nat)(hok:s.Ok N)(hops:s.ops≤100000)(hR:s.R.length≤90000)(f:Int)(bv:Value)(bs:List UInt8)(hb:RdSl H 1 bv bs.length (bs.map u8c))(hN:N+bs.length≤140737488355328):
  SP 35 [.pointer (some ⟨xp,0,none⟩),.int .i64 f,bv] [.ob (RDO H xp s),.mem H] (λv post=>v= .int .i64 (s.append f bs).2∧∃H',H.le H'∧post=[.ob (RDO H' xp (s.append f bs).1),.mem H']):=
 rappend_specF H xp s N hok hops hR f bv bs hb (by have:=getK_len (f:=f) hok.len;omega)
theorem find_zero{s:DS}{f:Int}(h:s.find f=0):may s f=0∧isK PF.id s.R f=true:=by
 unfold DS.find at h
 by_cases hm:may s f=0
 ·rw[if_neg (show ¬may s f≠0 from λe=>e hm)]at h
  refine⟨hm,?_⟩
  by_cases hk:isK PF.id s.R f=true
  ·exact hk
  ·rw[if_neg hk]at h;cases h
 ·rw[if_pos hm]at h;exact absurd h hm
theorem getK_ys{R:List PF}{ys:List YF}(he:ys.map Prod.fst=R){f:Int}(hk:isK idR ys f=true):∃h:cntK idR ys f<ys.length,getK PF.id R f=some ys[cntK idR ys f].1∧ys[cntK idR ys f].1.id=f:=by
 obtain⟨h1,h2⟩:=isK_true hk
 refine⟨h1,?_,h2⟩
 rw[← he,getK_map idR_fst]
 unfold getK;rw[if_pos hk,List.getElem?_eq_getElem h1];rfl
theorem qB(H:Heap)(xp:Nat)(s:DS)(N:Nat)(hok:s.Ok N)(hops:s.ops≤100000)(hR:s.R.length≤100000)(f:Int):
  SP 252 [.pointer (some ⟨xp,0,none⟩),.int .i64 f] [.ob (RDO H xp s),.mem H] (Gives (.int .i64 (s.sync f).2) [.ob (RDO H xp (s.sync f).1),.mem H]):=by
 intro W F w hS;apply vc252;unfold Vc252;(try simp only[app]at hS)
 obtain⟨fv,ys,⟨he,hrb⟩,hS⟩:=RDO.iff.1 hS
 have hyl:ys.length=s.R.length:=by rw[← he,List.length_map]
 (refine Cc (yp xp s fv ys he hok.sorted (by omega) f true) ?_;clear hS)
 rintro v post ⟨rfl,rfl⟩ w hS
 (try simp only[app]at hS)
 simp only[if_true]
 unfold DS.sync
 refine Gp ?_
 refine zc (λh=>?_) (λh=>?_)
 ·rw[if_pos h]
  exact⟨_,⟨rfl,rfl⟩,RDO.iff.2 ⟨fv,ys,⟨he,hrb⟩,SL.into hS Xi⟩⟩
 ·rw[if_neg h]
  obtain⟨hm,hk⟩:=find_zero (s:=s) (f:=f) (by omega)
  rw[isK_R he]at hk
  obtain⟨h0,hf0,hf1⟩:=may_zero hm
  refine Cg (y2 xp s fv h0 hok.arm0 hok.arm1 hops) λw hS=>?_
  by_cases hc:s.cnt.off=true
  ·rw[if_pos hc,hc]
   refine zo ?_
   refine Cg (ym true) λw hS=>?_
   exact⟨_,⟨rfl,rfl⟩,RDO.iff.2 ⟨fv,ys,⟨he,hrb⟩,SL.into hS Xi⟩⟩
  ·rw[if_neg hc,(by simpa using hc:s.cnt.off=false)]
   refine zu ?_
   refine Cg (y0 xp s.cnt fv ys (by rw[he];exact hok.sorted) (by omega) f) λw hS=>?_
   obtain⟨hi,hg,hid⟩:=getK_ys he hk
   have hA:=appI_old he hk
   generalize cntK idR ys f=i at *
   obtain⟨b0,cap,rest,rfl,hS,hback⟩:=FilesO.pt (SL.into hS (t:=.ob (FilesO fv ys)::.pt xp (rcells fv s.cnt) 66::.mem H::F) Xi) (by omega)
   have hcell:((ys.map encRF).flatten++rest)[0+i*3+2]?=some ys[i].2:=encRF_pt hi (i:=2) (by omega) rfl
   have hcell1:((ys.map encRF).flatten++rest)[0+i*3+1]?=some (.int .i64 (ys[i].1.safe:Int)):=encRF_pt hi (i:=1) (by omega) rfl
   have hold:=hrb _ (List.getElem_mem hi)
   refine zG hi (zO (yb hS Xh hcell ?_))
   refine zm hold ?_
   refine zG hi (zO ?_)
   refine ZZ hS Xu hcell1 rfl ?_
   clear hS;intro w hS
   rw[encRF_set (y:=(⟨f,ys[i].1.b.length,ys[i].1.b⟩,ys[i].2)) hi (i:=1) (by omega) (by omega) (by rw[← hid];rfl)]at hS
   refine Cg (ym false) λw hS=>?_
   refine⟨_,⟨rfl,rfl⟩,RDO.iff.2 ⟨Value.slice (some ⟨b0,0,none⟩) ys.length cap,ys.set i (⟨f,ys[i].1.b.length,ys[i].1.b⟩,ys[i].2),⟨?_,hrb.set hold⟩,?_⟩⟩
   ·show _=updF s.R f _
    rw[hA.put _ rfl,updF_some hg]
   ·have:=hback (ys.set i (⟨f,ys[i].1.b.length,ys[i].1.b⟩,ys[i].2)) w (.pt xp (rcells (.slice (some ⟨b0,0,none⟩) ys.length cap) s.cnt) 66::.mem H::F) (by simp) (SL.into hS Xi)
    exact SL.into this Xi
theorem Yi(H:Heap)(xp:Nat)(s:DS)(N:Nat)(hok:s.Ok N)(hN:N≤140737488355328)(hops:s.ops≤100000)(hR:s.R.length≤100000)(f n:Int):
  SP 176 [.pointer (some ⟨xp,0,none⟩),.int .i64 f,.int .i64 n] [.ob (RDO H xp s),.mem H] (λv post=>v= .int .i64 (s.cut f n).2∧∃H',H.le H'∧post=[.ob (RDO H' xp (s.cut f n).1),.mem H']):=by
 intro W F w hS;apply vc176;unfold Vc176;(try simp only[app]at hS)
 obtain⟨fv,ys,⟨he,hrb⟩,hS⟩:=RDO.iff.1 hS
 have hyl:ys.length=s.R.length:=by rw[← he,List.length_map]
 (refine Cc (yp xp s fv ys he hok.sorted (by omega) f true) ?_;clear hS)
 rintro v post ⟨rfl,rfl⟩ w hS
 (try simp only[app]at hS)
 simp only[if_true]
 unfold DS.cut
 refine Gp ?_
 refine zc (λh=>?_) (λh=>?_)
 ·rw[if_pos h]
  exact⟨_,⟨rfl,H,Heap.le_refl H,rfl⟩,RDO.iff.2 ⟨fv,ys,⟨he,hrb⟩,SL.into hS Xi⟩⟩
 ·rw[if_neg h]
  obtain⟨hm,hk⟩:=find_zero (s:=s) (f:=f) (by omega)
  rw[isK_R he]at hk
  obtain⟨h0,hf0,hf1⟩:=may_zero hm
  refine Cg (y0 xp s fv ys (by rw[he];exact hok.sorted) (by omega) f) λw hS=>?_
  obtain⟨hi,hg,hid⟩:=getK_ys he hk
  have hA:=appI_old he hk
  generalize cntK idR ys f=i at *
  have hlenF:lenF s.R f=ys[i].1.b.length:=by unfold lenF;rw[hg]
  have hold:=hrb _ (List.getElem_mem hi)
  have hb1:ys[i].1.b.length≤N:=hok.len _ (by rw[← he];exact List.mem_map.2 ⟨_,List.getElem_mem hi,rfl⟩)
  rw[hlenF]
  refine zc (λh3=>?_) (λh3=>?_)
  ·rw[if_pos (.inl h3)]
   exact⟨_,⟨rfl,H,Heap.le_refl H,rfl⟩,RDO.iff.2 ⟨fv,ys,⟨he,hrb⟩,SL.into hS Xi⟩⟩
  ·obtain⟨b0,cap,rest,rfl,hS,hback⟩:=FilesO.pt (SL.into hS (t:=.ob (FilesO fv ys)::.pt xp (rcells fv s) 66::.mem H::F) Xi) (by omega)
   have hcell:((ys.map encRF).flatten++rest)[0+i*3+2]?=some ys[i].2:=encRF_pt hi (i:=2) (by omega) rfl
   refine Gp ?_
   refine zG hi (zO (yb hS Xh hcell ?_))
   refine zm hold ?_
   refine Gp ?_
   refine zc (λh4=>?_) (λh4=>?_)
   ·rw[if_pos (.inr h4)]
    have:=hback ys w (.pt xp (rcells (.slice (some ⟨b0,0,none⟩) ys.length cap) s) 66::.mem H::F) rfl (SL.into hS Xi)
    exact⟨_,⟨rfl,H,Heap.le_refl H,rfl⟩,RDO.iff.2 ⟨_,ys,⟨he,hrb⟩,SL.into this Xi⟩⟩
   ·rw[if_neg (by omega)]
    obtain⟨k,rfl⟩:∃k:Nat,n=(k:Int):=⟨n.toNat,by omega⟩
    rw[Int.toNat_natCast]
    refine Cg (y2 xp s (.slice (some ⟨b0,0,none⟩) ys.length cap) h0 hok.arm0 hok.arm1 hops) λw hS=>?_
    by_cases hc:s.cnt.off=true
    ·rw[if_pos hc,hc]
     refine zo ?_
     refine Cg (ym true) λw hS=>?_
     have:=hback ys w (.pt xp (rcells (.slice (some ⟨b0,0,none⟩) ys.length cap) s.cnt) 66::.mem H::F) rfl (SL.into hS Xi)
     exact⟨_,⟨rfl,H,Heap.le_refl H,rfl⟩,RDO.iff.2 ⟨_,ys,⟨he,hrb⟩,SL.into this Xi⟩⟩
    ·rw[if_neg hc,(by simpa using hc:s.cnt.off=false)]
     refine zu ?_
     refine Gn λw hS=>?_
     refine zG hi (zO (yb hS Xh hcell ?_))
     refine qH hold (k:=k) (by omega) ?_
     intro v' hcut
     refine Gm λb w hS=>?_
     refine yb hS Xh hcell ?_
     refine Gp ?_
     have hS:=OwnSl.full (n:=0) (sz:=1) rfl hS
     refine zw (n:=0) (m:=k) hS .hd (src_rd hS Xh hcut) (by rw[List.length_take,List.length_map];omega) rfl (λv hv=>u8c_one _ v (List.mem_of_mem_take hv)) (by omega) (by omega) ?_
     clear hS;intro v2 w hS
     have hone:=hS.ownOne .hd
     rw[Nat.zero_add,List.nil_append]at hS
     refine Gp ?_
     refine zG hi (zO ?_)
     refine ZZ hS Xu hcell hone ?_
     clear hS;intro w hS
     rw[encRF_set (y:=(⟨f,ys[i].1.safe,ys[i].1.b.take k⟩,v2)) hi (i:=2) (by omega) (by omega) (by rw[← hid];rfl)]at hS
     have hi':i<(ys.set i (⟨f,ys[i].1.safe,ys[i].1.b.take k⟩,v2)).length:=by simpa using hi
     have hcell1:(((ys.set i (⟨f,ys[i].1.safe,ys[i].1.b.take k⟩,v2)).map encRF).flatten++rest)[0+i*3+1]?=some (.int .i64 (ys[i].1.safe:Int)):=encRF_pt hi' (i:=1) (by omega) (by simp[encRF])
     refine Gn λw hS=>?_
     refine zG hi (zO (yb hS Xh hcell1 ?_))
     refine Gp ?_
     refine zG hi (zO ?_)
     refine ZZ hS Xu hcell1 rfl ?_
     clear hS;intro w hS
     have emin:min (ys[i].1.safe:Int) (k:Int)=((min ys[i].1.safe k:Nat):Int):=by omega
     rw[emin]at hS
     rw[encRF_set (y:=(⟨f,min ys[i].1.safe k,ys[i].1.b.take k⟩,v2)) hi' (i:=1) (by omega) (by omega) (by simp[encRF]),List.set_set]at hS
     have e1:(ys[i].1.b.map u8c).take (k*1)=(ys[i].1.b.take k).map u8c:=by rw[Nat.mul_one,List.map_take]
     have e2:(ys[i].1.b.take k).length=k:=by rw[List.length_take];omega
     rw[e1]at hS
     obtain⟨H',h01,hR2,hS⟩:=zz (H:=H) (v:=v2) (n:=k) (sz:=1) (t:=5) (cells:=(ys[i].1.b.take k).map u8c) hS Xp
     refine Cg (ym false) λw hS=>?_
     refine⟨_,⟨rfl,H',h01,rfl⟩,RDO.iff.2 ⟨Value.slice (some ⟨b0,0,none⟩) ys.length cap,ys.set i (⟨f,min ys[i].1.safe k,ys[i].1.b.take k⟩,v2),⟨?_,(hrb.mono h01).set (by rw[e2];exact hR2)⟩,?_⟩⟩
     ·show _=updF s.R f _
      rw[hA.put _ rfl,updF_some hg];rfl
     ·have:=hback (ys.set i (⟨f,min ys[i].1.safe k,ys[i].1.b.take k⟩,v2)) w (.pt xp (rcells (.slice (some ⟨b0,0,none⟩) ys.length cap) s.cnt) 66::.mem H'::F) (by simp) (SL.into hS Xi)
      exact SL.into this Xi
theorem Zl(H:Heap)(xp:Nat)(s:DS)(N:Nat)(hok:s.Ok N)(hops:s.ops≤100000)(hR:s.R.length≤100000)(f:Int):
  SP 174 [.pointer (some ⟨xp,0,none⟩),.int .i64 f] [.ob (RDO H xp s),.mem H] (Gives (.int .i64 (s.remove f).2) [.ob (RDO H xp (s.remove f).1),.mem H]):=by
 intro W F w hS;apply vc174;unfold Vc174;(try simp only[app]at hS)
 obtain⟨fv,ys,⟨he,hrb⟩,hS⟩:=RDO.iff.1 hS
 have hyl:ys.length=s.R.length:=by rw[← he,List.length_map]
 (refine Cc (yp xp s fv ys he hok.sorted (by omega) f true) ?_;clear hS)
 rintro v post ⟨rfl,rfl⟩ w hS
 (try simp only[app]at hS)
 simp only[if_true]
 unfold DS.remove
 refine Gp ?_
 refine zc (λh=>?_) (λh=>?_)
 ·rw[if_pos h]
  exact⟨_,⟨rfl,rfl⟩,RDO.iff.2 ⟨fv,ys,⟨he,hrb⟩,SL.into hS Xi⟩⟩
 ·rw[if_neg h]
  obtain⟨hm,hk⟩:=find_zero (s:=s) (f:=f) (by omega)
  rw[isK_R he]at hk
  obtain⟨h0,hf0,hf1⟩:=may_zero hm
  refine Cg (y2 xp s fv h0 hok.arm0 hok.arm1 hops) λw hS=>?_
  by_cases hc:s.cnt.off=true
  ·rw[if_pos hc,hc]
   refine zo ?_
   refine Cg (ym true) λw hS=>?_
   exact⟨_,⟨rfl,rfl⟩,RDO.iff.2 ⟨fv,ys,⟨he,hrb⟩,SL.into hS Xi⟩⟩
  ·rw[if_neg hc,(by simpa using hc:s.cnt.off=false)]
   refine zu ?_
   refine Cg (y0 xp s.cnt fv ys (by rw[he];exact hok.sorted) (by omega) f) λw hS=>?_
   obtain⟨hi,hg,hid⟩:=getK_ys he hk
   have hdel:delK idR ys f=ys.eraseIdx (cntK idR ys f):=by unfold delK;rw[if_pos hk]
   have hdelm:=delK_map idR_fst ys f
   rw[he,hdel]at hdelm
   generalize cntK idR ys f=i at *
   have h1c:=encRF_one hrb
   refine QH hS (t:=186) (sz:=3) (n:=ys.length) (cells:=(ys.map encRF).flatten) Xh (Nat.le_of_lt hi) ?_
   intro a cap hsrc
   refine Gp ?_
   refine qP hS (t:=186) (sz:=3) (n:=ys.length) (cells:=(ys.map encRF).flatten) Xh hi ?_
   intro u hsrc2
   refine Gm λb w hS=>?_
   have hS:=OwnSl.full (n:=0) (sz:=3) rfl hS
   refine zw (n:=0) (m:=i) hS .hd (hsrc _ _ hS Xh) (by rw[List.length_take,flat_len encRF_len];exact Nat.min_eq_left (Nat.mul_le_mul_right _ (Nat.le_of_lt hi))) rfl (λv hv=>h1c v (List.mem_of_mem_take hv)) (by omega) (by omega) ?_
   clear hS;intro v1 w hS
   rw[Nat.zero_add,List.nil_append,flat_take_n encRF_len]at hS
   refine Gp ?_
   refine zw (n:=i) (m:=ys.length-(i+1)) (cells:=((ys.take i).map encRF).flatten) hS Xr (hsrc2 _ _ hS Xh) (by rw[List.length_drop,flat_len encRF_len,Nat.mul_sub_right_distrib]) rfl (λv hv=>h1c v (List.mem_of_mem_drop hv)) (by omega) (by omega) ?_
   clear hS;intro v3 w hS
   have hone:=hS.ownOne .hd
   refine Gn λw hS=>?_
   rw[flat_drop_n encRF_len]at hS
   have e1:((ys.take i).map encRF).flatten++((ys.drop (i+1)).map encRF).flatten=((ys.eraseIdx i).map encRF).flatten:=by rw[List.eraseIdx_eq_take_drop_succ];simp
   have e2:i+(ys.length-(i+1))=(ys.eraseIdx i).length:=by rw[List.length_eraseIdx,if_pos hi];omega
   rw[e1,e2]at hS
   refine Cg (ym false) λw hS=>?_
   exact⟨_,⟨rfl,rfl⟩,RDO.iff.2 ⟨v3,ys.eraseIdx i,⟨hdelm,λy hy=>hrb y (List.mem_of_mem_eraseIdx hy)⟩,SL.into hS Xi⟩⟩
def RSetO(H:Heap)(r:Nat)(ts:Tabs):zB:=HEx λx:Value × List Value=>zW (Rd2 H x.2 ts∧ts.length≤8)
 [.pt r [x.1] 157,.ob (OwnSl x.1 53 1 ts.length x.2)]
section
variable {W w:World} {l F:List Chunk} {H H':Heap} {r:Nat} {ts:Tabs}
theorem RSetO.iff:SL W (.ob (RSetO H r ts)::l) w↔∃(v:Value) (vs:List Value),(Rd2 H vs ts∧ts.length≤8)∧SL W (.pt r [v] 157::.ob (OwnSl v 53 1 ts.length vs)::l) w:=by
 unfold RSetO
 simp only[SL.ex,SL.fact,List.cons_append,List.nil_append]
 constructor
 ·rintro ⟨⟨v,vs⟩,h1,h2⟩;exact⟨v,vs,h1,h2⟩
 ·rintro ⟨v,vs,h1,h2⟩;exact⟨⟨v,vs⟩,h1,h2⟩
theorem RSetO.mono(hh:H.le H')(h:SL W (.ob (RSetO H r ts)::l) w):SL W (.ob (RSetO H' r ts)::l) w:=by
 obtain⟨v,vs,hA,hS⟩:=RSetO.iff.1 h
 exact RSetO.iff.2 ⟨v,vs,⟨hA.1.mono hh,hA.2⟩,hS⟩
theorem RSetO.monoP(hh:H.le H')(hS:SL W l w)(k:Rem (.ob (RSetO H r ts)) l F):SL W (.ob (RSetO H' r ts)::F) w:=RSetO.mono hh (hS.perm k.perm)
theorem RSetO.put{v:Value}{vs:List Value}(ts:Tabs)(h:Rd2 H vs ts)(h8:ts.length≤8)(hS:SL W l w)(k:Pick [.pt r [v] 157,.ob (OwnSl v 53 1 ts.length vs)] l F):SL W (.ob (RSetO H r ts)::F) w:=RSetO.iff.2 ⟨v,vs,⟨h,h8⟩,hS.pick k⟩
end
theorem newsetR_ok(H:Heap)(n:Nat)(h1:1≤n)(h2:n≤8):SP 75 [.int .i64 n] [] (λv post=>∃r:Nat,v=ptrA r∧post=[.ob (RSetO H r (List.replicate n []))]):=by
 intro W w F hS
 refine zR.mono (newset_ok H n h1 h2 W w F hS) ?_
 rintro v w' ⟨post,⟨r,rfl,rfl⟩,hS⟩
 obtain⟨bv,vs,hA,hS⟩:=SetO.iff.1 hS
 have hS:=OwnSl.full (n:=(List.replicate n ([]:List Row)).length) (sz:=1) (by rw[hA.1.1,Nat.mul_one]) (hS.perm (.swap _ _ _))
 exact⟨_,⟨r,rfl,rfl⟩,RSetO.iff.2 ⟨_,vs,hA,hS.perm (.swap _ _ _)⟩⟩
theorem ZO(H:Heap)(r:Nat)(ts:Tabs)(t:Int):SP 77 [ptrA r,.int .i64 t] [.ob (RSetO H r ts)] (Gives (.bool (decide (0≤t∧t<(ts.length:Int)))) [.ob (RSetO H r ts)]):=by
 intro W F w hS;apply vc77;unfold Vc77;(try simp only[app]at hS)
 refine Gp ?_
 refine zc (λh=>?_) (λh=>?_)
 ·obtain⟨v,vs,hA,hS⟩:=RSetO.iff.1 hS
  refine Gp ?_
  refine zt hS Xh ?_
  refine Gp ?_
  have hS:=RSetO.put ts hA.1 hA.2 hS Xp
  rw[show (decide (t<(ts.length:Int)))=decide (0≤t∧t<(ts.length:Int)) by simp[h]]
  exact⟨_,⟨rfl,rfl⟩,SL.into hS Xi⟩
 ·rw[decide_eq_false (show ¬(0≤t∧t<(ts.length:Int)) by omega)]
  exact⟨_,⟨rfl,rfl⟩,SL.into hS Xi⟩
def AppQ(H:Heap)(r:Nat)(ts:Tabs)(l:List Chg)(u:Value)(post:List Chunk):Prop:=if l.all (chgIn ts.length)=true then u= .bool true∧∃H',H.le H'∧post=[.mem H',.ob (RSetO H' r (appsTs ts l))] else u= .bool false∧post=[.mem H,.ob (RSetO H r ts)]
theorem appTs_at{ts:Tabs}{c:Chg}{t:Nat}(ht:t<ts.length)(hc:c.table=t):appTs ts c=ts.set t (rowApp ts[t] c):=by
 unfold appTs
 rw[hc,Int.toNat_natCast,tabAt_nat ts t ht]
theorem yO(H:Heap)(r:Nat)(ts:Tabs)(v:Value)(l:List Chg)(hv:RdSl H 4 v l.length (l.map encChg).flatten){L0:Nat}(hL:∀C∈ts,C.length≤L0)(hn:L0+l.length≤1000000):
  SP 78 [ptrA r,v] [.mem H,.ob (RSetO H r ts)] (AppQ H r ts l):=by
 intro W F w hS;apply vc78;unfold Vc78;(try simp only[app]at hS)
 refine⟨λus w=>∃i:Nat,us=[.int .i64 i]∧i≤l.length∧(∀j (h:j<l.length),j<i→chgIn ts.length l[j]=true)∧SL W (.mem H::.ob (RSetO H r ts)::F) w,λus _=>match us with|[.int _ i]=>(l.length-i).toNat|_=>0,⟨0,rfl,by omega,λj h hj=>by omega,hS⟩,?_⟩
 clear hS
 rintro v5 w ⟨i,hus,hi,hall,hS⟩
 cases hus
 refine zm hv ?_
 refine Gp ?_
 refine zc (λh=>?_) (λh=>?_)
 ·have hil:i<l.length:=by omega
  refine zH hS Xh encChg_len hv (x:=l[i]) (List.getElem?_eq_getElem hil) hil (i:=0) rfl ?_
  refine Cg (ZO H r ts l[i].table) λw hS=>?_
  refine zD (λhe=>?_) (λhe=>?_)
  ·have hno:¬l.all (chgIn ts.length)=true:=λh=>by
    have:=List.all_eq_true.1 h _ (List.getElem_mem hil)
    unfold chgIn at this
    rw[he]at this;cases this
   exact⟨[.mem H,.ob (RSetO H r ts)],by unfold AppQ;rw[if_neg hno];exact⟨rfl,rfl⟩,SL.into hS Xi⟩
  ·refine Gp ?_
   refine⟨⟨i+1,rfl,by omega,λj hj hji=>?_,SL.into hS Xi⟩,by dsimp only;omega⟩
   by_cases e:j=i
   ·subst e;exact he
   ·exact hall j hj (by omega)
 ·have hA:∀c∈l,chgIn ts.length c=true:=λc hc=>by
   obtain⟨j,hj,rfl⟩:=List.getElem_of_mem hc
   exact hall j hj (by omega)
  have hAll:l.all (chgIn ts.length)=true:=List.all_eq_true.2 hA
  refine⟨λus w=>∃(i:Nat) (H2:Heap),us=[.int .i64 i]∧i≤l.length∧H.le H2∧SL W (.mem H2::.ob (RSetO H2 r (appsTs ts (l.take i)))::F) w,λus _=>match us with|[.int _ i]=>(l.length-i).toNat|_=>0,⟨0,H,rfl,by omega,Heap.le_refl H,hS⟩,?_⟩
  clear hS h hi hall i
  rintro v6 w ⟨i,H2,hus,hi,hH,hS⟩
  cases hus
  have hv2:=hv.mono hH
  refine zm hv2 ?_
  refine Gp ?_
  refine zc (λh=>?_) (λh=>?_)
  ·have hil:i<l.length:=by omega
   have hx:l[i]?=some l[i]:=List.getElem?_eq_getElem hil
   have hci:=of_decide_eq_true (hA _ (List.getElem_mem hil))
   have hsn:appsTs ts (l.take (i+1))=appTs (appsTs ts (l.take i)) l[i]:=by rw[List.take_succ_eq_append_getElem hil,appsTs_snoc]
   have hTl:=appsTs_len ts (l.take i)
   have hTn:∀C∈appsTs ts (l.take i),C.length≤1000000:=λC hC=>by
    have:=appsTs_lenR L0 hL (λc hc=>hA c (List.mem_of_mem_take hc)) C hC
    rw[List.length_take]at this
    omega
   generalize appsTs ts (l.take i)=T at *
   generalize l[i]=c at *
   obtain⟨table,key,gone,val⟩:=c
   simp only at hci
   obtain⟨t,rfl⟩:∃t:Nat,table=t:=⟨table.toNat,by omega⟩
   have ht:t<T.length:=by omega
   rw[appTs_at ht rfl]at hsn
   have hCn:=hTn _ (List.getElem_mem ht)
   have hTt:T[t]?=some T[t]:=List.getElem?_eq_getElem ht
   refine zH hS Xh encChg_len hv2 hx hil (i:=0) rfl ?_
   refine zH hS Xh encChg_len hv2 hx hil (i:=2) rfl ?_
   obtain⟨sv,vs,hR,hS⟩:=RSetO.iff.1 (SL.into hS (t:=.ob (RSetO H2 r T)::.mem H2::F) Xi)
   have htv:t<vs.length:=by rw[hR.1.1];exact ht
   have hvt:vs[t]?=some vs[t]:=List.getElem?_eq_getElem htv
   have hC:=hR.1.2 t vs[t] T[t] hvt hTt
   generalize T[t]=C at *
   generalize vs[t]=cv at *
   have hback:∀{w:World} {H3:Heap} {u:Value} {C':List Row},H2.le H3→RdSl H3 2 u C'.length (C'.map encRow).flatten→appsTs ts (l.take (i+1))=T.set t C'→SL W (.ob (OwnSl sv 53 1 T.length (vs.set t u))::.pt r [sv] 157::.mem H3::F) w →
     ∃(i':Nat) (H2:Heap),[Value.int .i64 ((i+1:Nat):Int)]=[.int .i64 i']∧i'≤l.length∧H.le H2∧SL W (.mem H2::.ob (RSetO H2 r (appsTs ts (l.take i')))::F) w:=λ{w H3 u C'} h23 hu e hS=>by
    refine⟨i+1,_,rfl,by omega,Heap.le_trans hH h23,?_⟩
    rw[e]
    have hS:=(RSetO.iff (H:=H3) (r:=r) (ts:=T.set t C')).2 ⟨sv,vs.set t u,⟨(hR.1.mono h23).set hu,by rw[List.length_set];exact hR.2⟩,by rw[List.length_set];exact SL.into hS (t:=.pt r [sv] 157::.ob (OwnSl sv 53 1 T.length (vs.set t u))::.mem H3::F) Xi⟩
    exact SL.into hS Xi
   cases gone with
   | true=>
    refine zu ?_
    refine Gn λw hS=>?_
    refine zM hS Xh ht hvt ?_
    refine zH hS Xh encChg_len hv2 hx hil (i:=1) rfl ?_
    (refine Cc (Y5 H2 cv C key hC hCn) ?_;clear hS)
    rintro v3 post ⟨u,bb,H3,h23,rfl,hR3,rfl⟩ w hS
    (try simp only[app]at hS)
    have h1:=hR3.one
    refine Gp ?_
    refine y5 (SL.into hS (t:=.ob (OwnSl sv 53 1 T.length vs)::.pt r [sv] 157::.mem H3::F) Xi) ht h1 λw hS=>?_
    refine Gp ?_
    exact⟨hback h23 hR3 hsn hS,by dsimp only;omega⟩
   | false=>
    refine zo ?_
    refine Gn λw hS=>?_
    refine zM hS Xh ht hvt ?_
    refine zH hS Xh encChg_len hv2 hx hil (i:=1) rfl ?_
    refine zH hS Xh encChg_len hv2 hx hil (i:=3) rfl ?_
    (refine Cc (Y6 H2 cv C key val hC hCn) ?_;clear hS)
    rintro v3 post ⟨u,bb,H3,h23,rfl,hR3,rfl⟩ w hS
    (try simp only[app]at hS)
    have h1:=hR3.one
    refine Gp ?_
    refine y5 (SL.into hS (t:=.ob (OwnSl sv 53 1 T.length vs)::.pt r [sv] 157::.mem H3::F) Xi) ht h1 λw hS=>?_
    refine Gp ?_
    exact⟨hback h23 hR3 hsn hS,by dsimp only;omega⟩
  ·obtain rfl:i=l.length:=by omega
   rw[List.take_length]at hS
   exact⟨[.mem H2,.ob (RSetO H2 r (appsTs ts l))],by unfold AppQ;rw[if_pos hAll];exact⟨rfl,H2,hH,rfl⟩,hS⟩
theorem qf(H:Heap)(r:Nat)(ts:Tabs)(hn:∀C∈ts,C.length≤1000000):
  SP 248 [ptrA r] [.mem H,.ob (RSetO H r ts)] (λu post=>∃(r2:Nat) (H':Heap),H.le H'∧u=ptrA r2∧post=[.mem H',.ob (RSetO H' r ts),.ob (RSetO H' r2 ts)]):=by
 intro W F w hS;apply vc248;unfold Vc248;(try simp only[app]at hS)
 obtain⟨sv,vs,hR,hS⟩:=RSetO.iff.1 (SL.into hS (t:=.ob (RSetO H r ts)::.mem H::F) Xi)
 have h8:=hR.2
 refine Gp ?_
 refine zt hS (v:=sv) (t:=53) (sz:=1) (n:=ts.length) (cells:=vs) Xh ?_
 refine s_mk hS (by omega) (by omega) (by omega) ?_
 clear hS;intro bv w hS
 have hz:zrow [.slice none 0 0] ts.length=List.replicate ts.length (.slice none 0 0:Value):=by simp[zrow]
 rw[hz]at hS
 have hS:=OwnSl.full (n:=ts.length) (sz:=1) (by simp) hS
 generalize hbv:(Value.slice (some ⟨bv,0,none⟩) ts.length ts.length)=nv at *
 have h1:nv.oneCell'=true:=by rw[← hbv];rfl
 refine y7 (fill_v h1) ?_
 refine⟨_,rfl,zT hS ?_⟩
 clear hS;intro r2 w hS
 refine⟨λus w=>∃(i:Nat) (H2:Heap) (us2:List Value),us=[.int .i64 i]∧i≤ts.length∧H.le H2∧Rd2 H2 us2 (ts.take i++List.replicate (ts.length-i) [])∧SL W (.pt r2 [nv] 157::.ob (OwnSl nv 53 1 ts.length us2)::.pt r [sv] 157::.ob (OwnSl sv 53 1 ts.length vs)::.mem H2::F) w,
  λus _=>match us with|[.int _ i]=>(ts.length-i).toNat|_=>0,⟨0,H,List.replicate ts.length (.slice none 0 0),rfl,by omega,Heap.le_refl H,⟨by simp,λi v C h1 h2=>by
   rw[List.take_zero,List.nil_append,List.getElem?_replicate]at h2
   rw[List.getElem?_replicate]at h1
   split at h1
   ·cases h1;split at h2
    all_goals first|(cases h2;exact RdSl.nil H 2)|(cases h2)
   ·cases h1⟩,SL.into hS Xi⟩,?_⟩
 clear hS
 rintro v4 w ⟨i,H2,us2,hus,hi,hH,hR2,hS⟩
 cases hus
 refine Gp ?_
 refine zt hS (v:=sv) (t:=53) (sz:=1) (n:=ts.length) (cells:=vs) Xh ?_
 refine Gp ?_
 refine zc (λh=>?_) (λh=>?_)
 ·have hil:i<ts.length:=by omega
  have htv:i<vs.length:=by rw[hR.1.1];exact hil
  have hvt:vs[i]?=some vs[i]:=List.getElem?_eq_getElem htv
  have hC:=(hR.1.2 i vs[i] ts[i] hvt (List.getElem?_eq_getElem hil)).mono hH
  have hCn:=hn _ (List.getElem_mem hil)
  have htk:(ts.take i++List.replicate (ts.length-i) ([]:List Row)).set i ts[i]=ts.take (i+1)++List.replicate (ts.length-(i+1)) []:=by
   rw[List.set_append_right _ _ (by rw[List.length_take];omega),List.length_take,Nat.min_eq_left hi,Nat.sub_self,show ts.length-i=(ts.length-(i+1))+1 by omega,List.replicate_succ,List.set_cons_zero,List.take_succ_eq_append_getElem hil,List.append_assoc];rfl
  generalize ts[i]=C at *
  generalize vs[i]=cv at *
  refine Gn λw hS=>?_
  obtain⟨sa,sc,rfl,hsl,hsx⟩:=OwnSl.at hS (v:=sv) (t:=53) (sz:=1) (n:=ts.length) (cells:=vs) Xh
  obtain⟨sb,rfl,_⟩:=hsx i hil
  have hcell:vs[0+i*1]?=some cv:=by rw[Nat.zero_add,Nat.mul_one];exact hvt
  refine zG hil ?_
  refine ZX hS (t:=53) (sz:=1) (cells:=vs) Xh (by omega) hcell ?_
  refine zx hS (cells:=[]) rfl ?_
  clear hS;intro b1 w hS
  refine Gp ?_
  refine ZX hS (t:=53) (sz:=1) (cells:=vs) Xh (by omega) hcell (Yz ?_)
  have hS:=OwnSl.full (n:=0) (sz:=2) (b:=b1) (t:=52) (cells:=[]) rfl hS
  refine zw (n:=0) (m:=C.length) hS Xr (src_rd hS Xh hC) (flat_len encRow_len _) rfl (recs_one encRow_one _) (by omega) (by omega) ?_
  clear hS;intro u w hS
  rw[List.nil_append,Nat.zero_add]at hS
  obtain⟨H3,h23,hO,hS⟩:=zz (H:=H2) (v:=u) (n:=C.length) (sz:=2) (t:=52) (cells:=(C.map encRow).flatten) hS Xp
  have h1:=hO.one
  refine Gp ?_
  refine y5 (SL.into hS (t:=.ob (OwnSl nv 53 1 ts.length us2)::.pt r2 [nv] 157::.pt r [.slice (some ⟨sb,0,none⟩) ts.length sc] 157::.ob (OwnSl (.slice (some ⟨sb,0,none⟩) ts.length sc) 53 1 ts.length vs)::.mem H3::F) Xi) hil h1 λw hS=>?_
  refine Gp ?_
  refine⟨⟨i+1,H3,us2.set i u,rfl,by omega,Heap.le_trans hH h23,?_,SL.into hS Xi⟩,by dsimp only;omega⟩
  rw[← htk]
  exact (hR2.mono h23).set hO
 ·obtain rfl:i=ts.length:=by omega
  rw[List.take_length,Nat.sub_self,List.replicate_zero,List.append_nil]at hR2
  have hS:=RSetO.put (H:=H2) ts (hR.1.mono hH) hR.2 hS (r:=r) (v:=sv) (vs:=vs) Xp
  have hS:=RSetO.put (H:=H2) ts hR2 hR.2 hS (r:=r2) (v:=nv) (vs:=us2) Xp
  exact⟨_,⟨r2,H2,hH,rfl,rfl⟩,SL.into hS Xi⟩
theorem qi(H:Heap)(r:Nat)(ts:Tabs)(v:Value)(l:List Chg)(hv:RdSl H 4 v l.length (l.map encChg).flatten){L0:Nat}(hL:∀C∈ts,C.length≤L0)(hn:L0+l.length≤1000000):
  SP 182 [ptrA r,v] [.mem H,.ob (RSetO H r ts)] (λu post=>∃H',H.le H'∧u= .bool (fitsTs ts l)∧post=[.mem H',.ob (RSetO H' r ts)]):=by
 intro W F w hS;apply vc182;unfold Vc182;(try simp only[app]at hS)
 (refine Cc (qf H r ts (λC hC=>by have:=hL C hC;omega)) ?_;clear hS)
 rintro _ post ⟨r2,H1,h01,rfl,rfl⟩ w hS
 (try simp only[app]at hS)
 (refine Cc (yO H1 r2 ts v l (hv.mono h01) hL hn) ?_;clear hS)
 rintro u post hq w hS
 unfold AppQ at hq
 by_cases ha:l.all (chgIn ts.length)=true
 ·rw[if_pos ha]at hq
  obtain⟨rfl,H2,h12,rfl⟩:=hq
  (try simp only[app]at hS)
  refine zN (zo ?_)
  have hS:=RSetO.monoP h12 hS (r:=r) (ts:=ts) Xr
  have hf:fitsTs ts l=(appsTs ts l).all λC=>decide (C.length≤1000):=by unfold fitsTs;rw[ha];rfl
  obtain⟨sv,vs,hR,hS⟩:=RSetO.iff.1 (SL.into hS (t:=.ob (RSetO H2 r2 (appsTs ts l))::.ob (RSetO H2 r ts)::.mem H2::F) Xi)
  generalize appsTs ts l=T at *
  refine⟨λus w=>∃i:Nat,us=[.int .i64 i]∧i≤T.length∧(∀j (h:j<T.length),j<i→T[j].length≤1000)∧SL W (.pt r2 [sv] 157::.ob (OwnSl sv 53 1 T.length vs)::.ob (RSetO H2 r ts)::.mem H2::F) w,λus _=>match us with|[.int _ i]=>(T.length-i).toNat|_=>0,⟨0,rfl,by omega,λj h hj=>by omega,hS⟩,?_⟩
  clear hS
  rintro v6 w ⟨i,hus,hi,hall,hS⟩
  cases hus
  refine Gp ?_
  refine zt hS (v:=sv) (t:=53) (sz:=1) (n:=T.length) (cells:=vs) Xh ?_
  refine Gp ?_
  refine zc (λh=>?_) (λh=>?_)
  ·have hil:i<T.length:=by omega
   have htv:i<vs.length:=by rw[hR.1.1];exact hil
   have hvt:vs[i]?=some vs[i]:=List.getElem?_eq_getElem htv
   have hC:=hR.1.2 i vs[i] T[i] hvt (List.getElem?_eq_getElem hil)
   refine Gp ?_
   refine zM hS Xh hil hvt ?_
   refine zm hC ?_
   refine Gp ?_
   refine zc (λh2=>?_) (λh2=>?_)
   ·refine⟨[.mem H2,.ob (RSetO H2 r ts)],⟨H2,Heap.le_trans h01 h12,?_,rfl⟩,SL.into hS Xi⟩
    rw[hf,show T.all (λC=>decide (C.length≤1000))=false from List.all_eq_false.2 ⟨_,List.getElem_mem hil,by rw[decide_eq_true_eq];omega⟩]
   ·refine Gp ?_
    refine⟨⟨i+1,rfl,by omega,λj hj hji=>?_,SL.into hS Xi⟩,by dsimp only;omega⟩
    by_cases e:j=i
    ·subst e;omega
    ·exact hall j hj (by omega)
  ·refine⟨[.mem H2,.ob (RSetO H2 r ts)],⟨H2,Heap.le_trans h01 h12,?_,rfl⟩,SL.into hS Xi⟩
   rw[hf,show T.all (λC=>decide (C.length≤1000))=true from List.all_eq_true.2 λC hC=>by
    obtain⟨j,hj,rfl⟩:=List.getElem_of_mem hC
    exact decide_eq_true (hall j hj (by omega))]
 ·rw[if_neg ha]at hq
  obtain⟨rfl,rfl⟩:=hq
  (try simp only[app]at hS)
  refine zN (zu ?_)
  refine⟨[.mem H1,.ob (RSetO H1 r ts)],⟨H1,h01,?_,rfl⟩,SL.into hS Xi⟩
  unfold fitsTs
  rw[Bool.eq_false_iff.2 ha]
  rfl
theorem ZU(H:Heap)(r:Nat)(ts:Tabs)(t:Int)(hn:∀C∈ts,C.length≤1000000):
  SP 106 [ptrA r,.int .i64 t] [.mem H,.ob (RSetO H r ts)] (λu post=>post=[RwO u (tabAt ts t),.mem H,.ob (RSetO H r ts)]):=by
 intro W F w hS;apply vc106;unfold Vc106;(try simp only[app]at hS)
 refine Cg (ZO H r ts t) λw hS=>?_
 refine zD (λh=>?_) (λh=>?_)
 ·have h:=of_decide_eq_false h
  have e:tabAt ts t=[]:=by
   unfold tabAt
   split
   ·rfl
   ·rw[List.getElem?_eq_none (by omega)];rfl
  rw[e]
  have hS:SL W (RwO (.slice none 0 0) []::_) _:=OwnSl.nil hS
  exact⟨_,rfl,SL.into hS Xi⟩
 ·have h:=of_decide_eq_true h
  obtain⟨n,rfl⟩:∃n:Nat,t=n:=⟨t.toNat,by omega⟩
  have hil:n<ts.length:=by omega
  rw[tabAt_nat ts n hil]
  have hCn:=hn _ (List.getElem_mem hil)
  obtain⟨sv,vs,hR,hS⟩:=RSetO.iff.1 (SL.into hS (t:=.ob (RSetO H r ts)::.mem H::F) Xi)
  have htv:n<vs.length:=by rw[hR.1.1];exact hil
  have hvt:vs[n]?=some vs[n]:=List.getElem?_eq_getElem htv
  have hC:=hR.1.2 n vs[n] ts[n] hvt (List.getElem?_eq_getElem hil)
  generalize vs[n]=cv at *
  refine zx hS (cells:=[]) rfl ?_
  clear hS;intro b1 w hS
  refine Gp ?_
  refine zM hS Xh hil hvt ?_
  have hS:=RSetO.put ts hR.1 hR.2 hS (r:=r) (v:=sv) (vs:=vs) Xp
  have hS:=OwnSl.full (n:=0) (sz:=2) (b:=b1) (t:=52) (cells:=[]) rfl (SL.into hS (t:=.pt b1 [] 52::.ob (RSetO H r ts)::.mem H::F) Xi)
  refine zw (n:=0) (m:=ts[n].length) hS Xr (src_rd hS Xh hC) (flat_len encRow_len _) rfl (recs_one encRow_one _) (by omega) (by omega) ?_
  clear hS;intro u w hS
  rw[List.nil_append,Nat.zero_add]at hS
  have hS:SL W (RwO u ts[n]::_) _:=hS
  exact⟨_,rfl,SL.into hS Xi⟩
theorem afterR_snoc(C:List Row)(key:Int)(n:Nat)(i:Nat)(hi:i<C.length)(h:((C.take i).filter λr=>decide (key<r.key)).length<n):((C.take (i+1)).filter λr=>decide (key<r.key))=((C.take i).filter λr=>decide (key<r.key))++(if key<C[i].key then [C[i]] else []):=by
 rw[List.take_succ_eq_append_getElem hi,List.filter_append]
 congr 1
 by_cases hk:key<C[i].key
 ·rw[if_pos hk,List.filter_cons_of_pos (by simpa using hk),List.filter_nil]
 ·rw[if_neg hk,List.filter_cons_of_neg (by simpa using hk),List.filter_nil]
theorem YI(H:Heap)(v:Value)(C:List Row)(key:Int)(n:Nat)(hC:RdSl H 2 v C.length (C.map encRow).flatten)(hn:C.length≤1000000):
  SP 189 [v,.int .i64 key,.int .i64 n] [.mem H] (λu post=>post=[RwO u (afterR C key n),.mem H]):=by
 intro W F w hS;apply vc189;unfold Vc189;(try simp only[app]at hS)
 have hS:SL W (RwO (.slice none 0 0) []::_) _:=OwnSl.nil hS
 refine⟨λus w=>∃(i:Nat) (u:Value),us=[u,.int .i64 i]∧i≤C.length∧((C.take i).filter λr=>decide (key<r.key)).length≤n∧SL W (RwO u ((C.take i).filter λr=>decide (key<r.key))::.mem H::F) w,
  λus _=>match us with|[_,.int _ i]=>(C.length-i).toNat|_=>0,⟨0,_,rfl,by omega,by simp,hS⟩,?_⟩
 clear hS
 rintro u v8 w ⟨i,_,hus,hi,hle,hS⟩
 cases hus
 have hfl:=List.length_filter_le (λr:Row=>decide (key<r.key)) (C.take i)
 rw[List.length_take]at hfl
 refine zm hC ?_
 refine Gp ?_
 have hspl:C.filter (λr=>decide (key<r.key))=(C.take i).filter (λr=>decide (key<r.key))++(C.drop i).filter (λr=>decide (key<r.key)):=by rw[← List.filter_append,List.take_append_drop]
 have hend:∀{w:World},(i=C.length∨((C.take i).filter λr=>decide (key<r.key)).length=n)→SL W (RwO u ((C.take i).filter λr=>decide (key<r.key))::.mem H::F) w→∃post,post=[RwO u (afterR C key n),.mem H]∧SL W (app post F) w:=λhh hS=>by
  have e:afterR C key n=(C.take i).filter λr=>decide (key<r.key):=by
   unfold afterR
   rw[Int.toNat_natCast,hspl]
   rcases hh with rfl|hh
   ·rw[List.drop_length,List.filter_nil,List.append_nil,List.take_of_length_le hle]
   ·rw[List.take_append_of_le_length (by omega),List.take_of_length_le hle]
  rw[e]
  exact⟨_,rfl,hS⟩
 refine zc (λh=>?_) (λh=>hend (.inl (by omega)) hS)
 refine zt hS Xh ?_
 refine Gp ?_
 refine zc (λh2=>?_) (λh2=>hend (.inr (by omega)) hS)
 have hil:i<C.length:=by omega
 have hx:C[i]?=some C[i]:=List.getElem?_eq_getElem hil
 have hsn:=afterR_snoc C key n i hil (by omega)
 refine zH hS Xh encRow_len hC hx hil (i:=0) rfl ?_
 refine Gp ?_
 refine zc (λh3=>?_) (λh3=>?_)
 ·rw[if_pos (show key<C[i].key by omega)]at hsn
  refine z8 hS Xh encRow_len hC hx hil ?_
  generalize C[i]=r at *
  obtain⟨rk,rv⟩:=r
  rw[encRow_eq]
  refine Gm λb w hS=>?_
  refine yI (n:=((C.take i).filter λr=>decide (key<r.key)).length) (xs:=(C.take i).filter λr=>decide (key<r.key)) (y:=⟨rk,rv⟩) (enc:=encRow) hS Xr Xh encRow_len (λx=>encRow_one1 x) rfl (by omega) (by omega) λu2 w hS=>?_
  have hS:=hS.snocL (x:=(⟨rk,rv⟩:Row))
  refine Gp ?_
  rw[← hsn]at hS
  refine⟨⟨i+1,u2,rfl,by omega,?_,SL.into hS Xi⟩,by dsimp only;omega⟩
  rw[hsn,List.length_append,List.length_singleton];omega
 ·rw[if_neg (show ¬key<C[i].key by omega),List.append_nil]at hsn
  refine Gp ?_
  refine⟨⟨i+1,u,rfl,by omega,by rw[hsn];exact hle,by rw[hsn];exact SL.into hS Xi⟩,by dsimp only;omega⟩
theorem qy(X:Chunk)(v:Value)(q:List UInt8)(hq:Rdb X v q)(hN:q.length≤10000000000):SP 173 [v] [X] (ReadQ2 X q):=by
 intro W F w hS;apply vc173;unfold Vc173;(try simp only[app]at hS)
 (refine Cc (qz X v q hq hN) ?_;clear hS)
 rintro r post ⟨u,es,he,rfl,rfl⟩ w hS;(try simp only[app]at hS)
 have hr:=readS_es he
 have hno:∀{w:World},readS q=none→SL W (X::F) w→∃post,ReadQ2 X q (.tuple #[.int .i64 0,.slice none 0 0,.int .i64 0,.int .i64 3]) post∧SL W (app post F) w:=λh hS=>⟨[X],by unfold ReadQ2;rw[h];exact⟨rfl,rfl⟩,hS⟩
 refine Gp ?_
 refine zt hS (v:=u) (t:=62) (sz:=1) (n:=es.length) (cells:=vals es) Xh ?_
 refine Gp ?_
 refine zc (λh=>?_) (λh=>?_)
 ·have:es=[]:=List.eq_nil_of_length_eq_zero (by omega)
  subst this
  exact hno hr (SL.into hS Xi)
 ·obtain⟨e,es,rfl⟩:∃e es',es=e::es':=by
   cases es with
   | nil=>simp at h
   | cons e es=>exact⟨e,es,rfl⟩
  have hr:readS q=(hdOf e.2).map λk=>(k,byts es,(scanA q).2):=hr
  refine zM (j:=0) hS (v:=u) (t:=62) (n:=(e::es).length) (cells:=vals (e::es)) Xh (by simp) (u:=e.1) rfl ?_
  have hS:=zg.take (t:=0) (x:=e) (SL.into hS (t:=.ob (zg BEntO (e::es))::.ob (OwnSl u 62 1 (e::es).length (vals (e::es)))::X::F) Xi) rfl
  have e3:(e::es).eraseIdx 0=es:=rfl
  rw[e3]at hS
  have hR:Rdb (.ob (BEntO e)) e.1 e.2:=Rdb.own
  have hel:e.2.length≤1048576:=(scanA_ok2 (q.length+1) q (by omega)).1 e.2 (by rw[← he];simp[byts])
  (refine Cc (yF (.ob (BEntO e)) e.1 e.2 hR (by omega)) ?_;clear hS)
  intro r post hQ w hS
  unfold DecQ at hQ
  unfold hdOf at hr
  cases hd:decF e.2 with
  | error k=>
   rw[hd]at hQ hr
   obtain⟨rfl,rfl⟩:=hQ
   (try simp only[app]at hS);refine Gp ?_
   have hk:k≠0:=by
    intro hk
    rw[decF_eq]at hd
    split at hd
    ·cases hd
    ·rename_i h0
     cases hd;exact h0 hk
   refine zc (λ_=>?_) (λh=>absurd hk h)
   exact hno hr (SL.into hS Xi)
  | ok l=>
   rw[hd]at hQ hr
   obtain⟨y,rfl,rfl⟩:=hQ
   (try simp only[app]at hS);refine Gp ?_
   refine zc (λh=>absurd rfl h) (λ_=>?_)
   refine zt hS (v:=y) (t:=174) (sz:=3) (n:=l.length) (cells:=(l.map fdcells).flatten) Xh ?_
   refine Gp ?_
   refine zc (λh1=>?_) (λh1=>?_)
   ·have:hdF l=none:=by
     match l,h1 with
     | [],_=>rfl
     | [x],h1=>simp at h1
     | _::_::_,_=>rfl
    simp only[this,Option.map_none]at hr
    exact hno hr (SL.into hS Xi)
   ·obtain⟨x,rfl⟩:∃x,l=[x]:=List.length_eq_one_iff.1 (by omega)
    have hx:hdF [x]=if x.kind=1∧1≤x.n∧x.n≤1099511627776 then some x.n else none:=rfl
    simp only[hx]at hr
    refine zA (j:=0) (i:=0) (x:=x) (xs:=[x]) hS (v:=y) (t:=174) (sz:=3) (n:=1) Xh fdcells_len rfl (by omega) (u:=.int .i64 x.kind) rfl ?_
    refine Gp ?_
    refine zc (λh2=>?_) (λh2=>?_)
    ·rw[if_neg (by omega)]at hr
     exact hno hr (SL.into hS Xi)
    ·refine zA (j:=0) (i:=1) (x:=x) (xs:=[x]) hS (v:=y) (t:=174) (sz:=3) (n:=1) Xh fdcells_len rfl (by omega) (u:=.int .i64 x.n) rfl ?_
     refine Gp ?_
     refine zc (λh3=>?_) (λh3=>?_)
     ·rw[if_neg (by omega)]at hr
      exact hno hr (SL.into hS Xi)
     ·refine zA (j:=0) (i:=1) (x:=x) (xs:=[x]) hS (v:=y) (t:=174) (sz:=3) (n:=1) Xh fdcells_len rfl (by omega) (u:=.int .i64 x.n) rfl ?_
      refine Gp ?_
      refine zc (λh4=>?_) (λh4=>?_)
      ·rw[if_neg (by omega)]at hr
       exact hno hr (SL.into hS Xi)
      ·rw[if_pos ⟨by omega,by omega,by omega⟩]at hr
       refine Gn λw hS=>?_
       refine zA (j:=0) (i:=1) (x:=x) (xs:=[x]) hS (v:=y) (t:=174) (sz:=3) (n:=1) Xh fdcells_len rfl (by omega) (u:=.int .i64 x.n) rfl ?_
       have hS:=OwnSo.of (SL.into hS (t:=.ob (OwnSl u 62 1 (e::es).length (vals (e::es)))::.ob (zg BEntO es)::X::F) Xi)
       refine YC (k:=1) hS (by simp) ?_
       clear hS;intro z hS
       have e1:(e::es).length-1=es.length:=by simp
       have e2:(vals (e::es)).drop (1*1)=vals es:=rfl
       rw[e1,e2]at hS
       refine⟨[.ob (OwnSo z 62 1 es.length (vals es)),.ob (zg BEntO es),X],?_,SL.into hS Xi⟩
       unfold ReadQ2
       rw[hr]
       exact⟨z,es,rfl,rfl,rfl⟩
def ownY(base:Int)(ys:List YF):List YF:=ys.filter λy=>decide (base≤y.1.id∧y.1.id<base+4096)
theorem ownY_ids{base:Int}{ys:List YF}{R:List PF}(h:ys.map Prod.fst=R):(ownY base ys).map (λy=>y.1.id)=idsG base R:=by
 subst h
 unfold idsG ownY
 rw[List.map_map,List.filter_map]
 rfl
theorem ownY_mem{base:Int}{ys:List YF}{y:YF}(h:y∈ownY base ys):y∈ys:=(List.mem_filter.1 h).1
theorem Ql(H:Heap)(xp:Nat)(s:DS)(fv:Value)(ys:List YF)(hrb:RdB H ys)(base:Int)(b0:0≤base)(b1:base≤12288)(hyl:ys.length≤100000):
  SP 172 [.pointer (some ⟨xp,0,none⟩),.int .i64 base] [.pt xp (rcells fv s) 66,.ob (FilesO fv ys)]
   (λv post=>post=[.ob (FilesO v (ownY base ys)),.pt xp (rcells fv s) 66,.ob (FilesO fv ys)]):=by
 intro W F w hS;apply vc172;unfold Vc172;(try simp only[app]at hS)
 have hS0:SL W (.ob (FilesO (.slice none 0 0) (ownY base (ys.take 0)))::.pt xp (rcells fv s) 66::.ob (FilesO fv ys)::F) w:=OwnSl.nil hS
 refine⟨λvs w=>∃(u:Value) (i:Nat),i≤ys.length∧vs=[u,.int .i64 i]∧SL W (.ob (FilesO u (ownY base (ys.take i)))::.pt xp (rcells fv s) 66::.ob (FilesO fv ys)::F) w,
  λvs _=>match vs with|[_,.int _ i]=>(ys.length-i).toNat|_=>0,⟨_,0,by omega,rfl,hS0⟩,?_⟩
 clear hS hS0
 rintro v5 v6 w ⟨u,i,hi,hvs,hS⟩
 cases hvs
 refine Gp ?_
 refine zt hS (v:=fv) (t:=186) (sz:=3) (n:=ys.length) (cells:=(ys.map encRF).flatten) Xh ?_
 refine Gp ?_
 refine zc (λh=>?_) (λh=>?_)
 ·have hil:i<ys.length:=by omega
  have hx:ys[i]?=some ys[i]:=List.getElem?_eq_getElem hil
  have hstep:ownY base (ys.take (i+1))=ownY base (ys.take i)++if base≤ys[i].1.id∧ys[i].1.id<base+4096 then [ys[i]] else []:=by
   unfold ownY
   rw[List.take_add_one,hx,List.filter_append]
   congr 1
   simp only[Option.toList_some,List.filter_cons,List.filter_nil,decide_eq_true_eq]
  have hol:(ownY base (ys.take i)).length≤100000:=by
   unfold ownY
   have:=List.length_filter_le (λy:YF=>decide (base≤y.1.id∧y.1.id<base+4096)) (ys.take i)
   rw[List.length_take]at this;omega
  have hone:=(hrb _ (List.getElem_mem hil)).one
  generalize ys[i]=y at *
  refine Gp ?_
  refine zA (i:=0) hS (v:=fv) (t:=186) Xh encRF_len hx hil (u:=.int .i64 y.1.id) rfl ?_
  refine Gp ?_
  refine zc (λh1=>?_) (λh1=>?_)
  ·refine Gp ?_
   refine zA (i:=0) hS (v:=fv) (t:=186) Xh encRF_len hx hil (u:=.int .i64 y.1.id) rfl ?_
   refine Gp ?_
   refine zc (λh2=>?_) (λh2=>?_)
   ·rw[if_pos ⟨by omega,h2⟩]at hstep
    refine Gp ?_
    refine yM hS (v:=fv) (t:=186) Xh encRF_len hx hil ?_
    refine zx (cells:=encRF y) hS rfl ?_
    clear hS;intro p w hS
    have h1c:∀v∈encRF y,v.oneCell'=true:=by
     intro v hv
     simp only[encRF,List.mem_cons,List.not_mem_nil,or_false]at hv
     rcases hv with rfl|rfl|rfl
     ·rfl
     ·rfl
     ·exact hone
    refine zw (m:=1) (cs:=encRF y) hS Xr (src_pt0 hS .hd rfl) rfl rfl h1c (by omega) (by omega) ?_
    clear hS;intro u' w hS
    refine Gp ?_
    have e1:(ownY base (ys.take i)).length+1=(ownY base (ys.take (i+1))).length:=by rw[hstep,List.length_append];rfl
    have e2:((ownY base (ys.take i)).map encRF).flatten++encRF y=((ownY base (ys.take (i+1))).map encRF).flatten:=by rw[hstep];simp
    rw[e1,e2]at hS
    exact⟨⟨u',i+1,by omega,rfl,SL.into hS Xi⟩,by dsimp only;omega⟩
   ·rw[if_neg (by omega),List.append_nil]at hstep
    refine Gp ?_
    exact⟨⟨_,i+1,by omega,rfl,by rw[hstep];exact hS⟩,by dsimp only;omega⟩
  ·rw[if_neg (by omega),List.append_nil]at hstep
   refine Gp ?_
   exact⟨⟨_,i+1,by omega,rfl,by rw[hstep];exact hS⟩,by dsimp only;omega⟩
 ·obtain rfl:i=ys.length:=by omega
  rw[List.take_length]at hS
  exact⟨_,rfl,hS⟩
def tornI(t:Option PTorn):Int:=match t with
 | none=>-1
 | some x=>x.file
abbrev rlcells(sv:Value)(xp:Nat)(base size t:Int):List Value:=[.pointer (some ⟨xp,0,none⟩),.int .i64 base,.int .i64 size,sv,.int .i64 t]
abbrev RowR(sv:Value)(xs:List XSeg):Chunk:=.ob (OwnSo sv 259 4 xs.length (xs.map xcells).flatten)
def RLogO(lp xp:Nat)(g:PLog):zB:=HEx λx:Value × List XSeg=>zW (x.2.map XSeg.pl=g.segs) [.pt lp (rlcells x.1 xp g.base g.size (tornI g.torn)) 254,RowR x.1 x.2,.ob (zg XSegO x.2)]
theorem RLogO.iff{W w:World}{lp xp:Nat}{g:PLog}{l:List Chunk}:SL W (.ob (RLogO lp xp g)::l) w↔∃sv xs,xs.map XSeg.pl=g.segs∧SL W (.pt lp (rlcells sv xp g.base g.size (tornI g.torn)) 254::RowR sv xs::.ob (zg XSegO xs)::l) w:=by
 unfold RLogO
 simp only[SL.ex,SL.fact,List.cons_append,List.nil_append]
 exact⟨λ⟨x,h1,h2⟩=>⟨x.1,x.2,h1,h2⟩,λ⟨a,b,h1,h2⟩=>⟨(a,b),h1,h2⟩⟩
theorem RLogO.close{W w:World}{lp xp:Nat}{g:PLog}{l F:List Chunk}{sv:Value}{xs:List XSeg}(h:SL W l w)(hx:xs.map XSeg.pl=g.segs)(k:Into (.pt lp (rlcells sv xp g.base g.size (tornI g.torn)) 254::RowR sv xs::.ob (zg XSegO xs)::F) l):SL W (app [.ob (RLogO lp xp g)] F) w:=
 RLogO.iff.2 ⟨sv,xs,hx,h.into k⟩
theorem RLogO.closeN{W w:World}{lp xp:Nat}{L:List PSeg}{base size:Int}{l F:List Chunk}{sv:Value}{xs:List XSeg}(h:SL W l w)(hx:xs.map XSeg.pl=L)(k:Into (.pt lp (rlcells sv xp base size (-1)) 254::RowR sv xs::.ob (zg XSegO xs)::F) l):SL W (app [.ob (RLogO lp xp ⟨L,base,size,none⟩)] F) w:=
 RLogO.iff.2 ⟨sv,xs,hx,h.into k⟩
theorem RLogO.openN{W w:World}{lp xp:Nat}{L:List PSeg}{base size:Int}{F:List Chunk}(h:SL W (.ob (RLogO lp xp ⟨L,base,size,none⟩)::F) w):∃sv xs,xs.map XSeg.pl=L∧SL W (.pt lp (rlcells sv xp base size (-1)) 254::RowR sv xs::.ob (zg XSegO xs)::F) w:=RLogO.iff.1 h
section
variable {W w:World} {l:List Chunk}
theorem s_segRo{v:Value}{xs:List XSeg}{j:Nat}{k:IntKind}{K:Value→Prop}(h:SL W l w)(m:Has (RowR v xs) l)(hj:j<xs.length)(hK:K (.agg (xcells xs[j]).toArray)):zh 4 v (.int k (j:Int)) λp=>zk 4 p w K:=by
 refine yq h m hj λb o hb=>⟨⟨b,o,none⟩,xcells xs[j],rfl,rfl,λi u hu=>?_,hK⟩
 rw[Addr.add_lit]
 have hi:i<4:=(List.getElem?_eq_some_iff.1 hu).1
 exact hb i u hi (flat_get xcells_len hj hu)
theorem yi{v u:Value}{xs:List XSeg}{i j:Nat}{k:IntKind}{K:Value→Prop}(h:SL W l w)(m:Has (RowR v xs) l)(hj:j<xs.length)(hu:(xcells xs[j])[i]?=some u)(hK:K u):zh 4 v (.int k (j:Int)) λp=>zd i p λq=>HLd q w K:=by
 refine yq h m hj λb o hb=>?_
 refine zO ?_
 have hi:i<4:=(List.getElem?_eq_some_iff.1 hu).1
 exact⟨_,u,rfl,hb i u hi (flat_get xcells_len hj hu),hK⟩
end
theorem z6(lp xp:Nat)(sv:Value)(xs:List XSeg)(base size t:Int)(hl:xs.length≤1000000000000000):SP 175 [.pointer (some ⟨lp,0,none⟩)] [.pt lp (rlcells sv xp base size t) 254,RowR sv xs]
  (Gives (.int .i64 ((xs.length:Int)-1)) [.pt lp (rlcells sv xp base size t) 254,RowR sv xs]):=by
 intro W F w hS;apply vc175;unfold Vc175;(try simp only[app]at hS)
 refine Gp ?_
 refine zP hS (v:=sv) (t:=259) (sz:=4) (n:=xs.length) (cells:=(xs.map xcells).flatten) Xh ?_
 refine Gp ?_
 exact⟨_,⟨rfl,rfl⟩,hS⟩
theorem yz(lp xp:Nat)(g:PLog){M:Nat}(hg:g.Ok M)(hM:M≤1000000000000):SP 87 [.pointer (some ⟨lp,0,none⟩)] [.ob (RLogO lp xp g)] (Gives (.int .i64 (lowG g.segs)) [.ob (RLogO lp xp g)]):=by
 intro W F w hS;apply vc87;unfold Vc87;(try simp only[app]at hS)
 obtain⟨sv,xs,hx,hS⟩:=RLogO.iff.1 hS
 obtain⟨h1,h2,_,_⟩:=hg.xs hx
 refine Gp ?_
 refine zP hS (v:=sv) (t:=259) (sz:=4) (n:=xs.length) (cells:=(xs.map xcells).flatten) Xh ?_
 refine Gp ?_
 refine zc (λh0=>?_) (λh0=>?_)
 ·have:xs=[]:=List.eq_nil_of_length_eq_zero (by omega)
  have e:lowG g.segs=1:=by rw[← hx,this];rfl
  rw[e]
  exact⟨_,⟨rfl,rfl⟩,RLogO.close hS hx Xi⟩
 ·cases xs with
  | nil=>simp at h0
  | cons x xs=>
   have e:lowG g.segs=x.first:=by rw[← hx];rfl
   rw[e]
   refine Gp ?_
   refine yi (j:=0) (i:=1) hS Xh (by simp) (u:=.int .i64 x.first) rfl ?_
   exact⟨_,⟨rfl,rfl⟩,RLogO.close hS hx Xi⟩
theorem yV(lp xp:Nat)(sv:Value)(xs:List XSeg)(base size t:Int){M:Nat}(h1:∀s∈xs.map XSeg.pl,SegOk s M)(h2:xs.length≤1000000000000)(hM:M≤1000000000000):SP 86 [.pointer (some ⟨lp,0,none⟩)] [.pt lp (rlcells sv xp base size t) 254,RowR sv xs] (Gives (.int .i64 (headG (xs.map XSeg.pl))) [.pt lp (rlcells sv xp base size t) 254,RowR sv xs]):=by
 intro W F w hS;apply vc86;unfold Vc86;(try simp only[app]at hS)
 refine Gp ?_
 refine zP hS (v:=sv) (t:=259) (sz:=4) (n:=xs.length) (cells:=(xs.map xcells).flatten) Xh ?_
 refine Gp ?_
 refine zc (λh0=>?_) (λh0=>?_)
 ·have:xs=[]:=List.eq_nil_of_length_eq_zero (by omega)
  have e:headG (xs.map XSeg.pl)=0:=by rw[this];rfl
  rw[e]
  exact⟨_,⟨rfl,rfl⟩,SL.into hS Xi⟩
 ·refine Gn λw hS=>?_
  have hj:xs.length-1<xs.length:=by omega
  have hg2:headG (xs.map XSeg.pl)=(xs[xs.length-1]'hj).first-1+((xs[xs.length-1]'hj).es.length:Nat):=by
   unfold headG
   rw[List.getLast?_map,List.getLast?_eq_getElem?,List.getElem?_eq_getElem hj]
   show (xs[xs.length-1]'hj).pl.next-1=_
   rw[xseg_next];omega
  have hok:=h1 _ (List.mem_map.2 ⟨_,List.getElem_mem hj,rfl⟩)
  have e:((xs.length:Nat):Int)-1=((xs.length-1:Nat):Int):=by omega
  have k1:1≤(xs[xs.length-1]'hj).first:=hok.n0
  have k2:(xs[xs.length-1]'hj).first≤1099511627776:=hok.n1
  have k3:(xs[xs.length-1]'hj).es.length≤M:=by have:=hok.ln;simpa [XSeg.pl,byts_len] using this
  have hseg:∀{w:World} {l:List Chunk} {K:Value→Prop},SL W l w→Has (RowR sv xs) l→K (.agg #[.int .i64 (xs[xs.length-1]'hj).file,.int .i64 (xs[xs.length-1]'hj).first,.int .i64 ((xs[xs.length-1]'hj).size:Nat),.slice (xs[xs.length-1]'hj).a (xs[xs.length-1]'hj).es.length (xs[xs.length-1]'hj).c])→zh 4 sv (.int .i64 ((xs.length-1:Nat):Int)) λp=>zk 4 p w K:=λhS m hK=>s_segRo hS m hj hK
  have hsegP:∀{w:World} {l:List Chunk} {K:Value→Prop},SL W l w→Has (RowR sv xs) l→(∀p,(∀(w':World) (l':List Chunk) (K':Value→Prop),SL W l' w'→Has (RowR sv xs) l'→K' (.agg #[.int .i64 (xs[xs.length-1]'hj).file,.int .i64 (xs[xs.length-1]'hj).first,.int .i64 ((xs[xs.length-1]'hj).size:Nat),.slice (xs[xs.length-1]'hj).a (xs[xs.length-1]'hj).es.length (xs[xs.length-1]'hj).c])→zk 4 p w' K')→K p)→zh 4 sv (.int .i64 ((xs.length-1:Nat):Int)) K:=by
   intro w l K hS m hK
   obtain⟨l2,r⟩:=m.rem
   rcases OwnSo.open (hS.perm r.perm) with ⟨_,h00,_⟩|⟨b,pre,cap,rest,hsv,hc,hl,hr,_⟩
   ·omega
   ·rw[hsv]
    refine zG hj (hK _ λw' l' K' hS' m' hK'=>?_)
    obtain⟨l3,r3⟩:=m'.rem
    rcases OwnSo.open (hS'.perm r3.perm) with ⟨_,h00,_⟩|⟨b',pre',cap',rest',hsv',hc',hl',hr',hS3⟩
    ·omega
    ·rw[hsv]at hsv'
     simp only[Value.slice.injEq,Option.some.injEq,Addr.mk.injEq,true_and,and_true]at hsv'
     obtain⟨⟨rfl,hpl⟩,rfl⟩:=hsv'
     rw[hpl]
     refine⟨_,_,rfl,rfl,λi u hu=>?_,hK'⟩
     rw[Addr.add_lit]
     refine hS3.cell .hd ?_
     have hi:i<4:=(List.getElem?_eq_some_iff.1 hu).1
     have:=flat_get xcells_len hj (i:=i) (u:=u) hu
     rw[Nat.add_assoc,List.getElem?_append_right (by omega),Nat.add_sub_cancel_left,List.getElem?_append_left (List.getElem?_eq_some_iff.1 this).1]
     exact this
  rw[hg2]
  generalize xs[xs.length-1]'hj=x at *
  refine⟨?_,?_⟩
  ·refine Cg (z6 lp xp sv xs base size t (by omega)) λw hS=>?_
   rw[e]
   refine hsegP hS Xh λp hp=>?_
   refine hp _ _ _ hS Xh ?_
   refine Gm λb w hS=>?_
   refine hp _ _ _ hS Xh ?_
   refine Gn λw hS=>?_
   exact⟨_,⟨rfl,rfl⟩,SL.into hS Xi⟩
  ·refine Gm λb w hS=>?_
   refine Cg (z6 lp xp sv xs base size t (by omega)) λw hS=>?_
   rw[e]
   refine hseg hS Xh ?_
   refine Gn λw hS=>?_
   exact⟨_,⟨rfl,rfl⟩,SL.into hS Xi⟩
theorem zL(lp xp:Nat)(g:PLog){M:Nat}(hg:g.Ok M)(hM:M≤1000000000000):SP 86 [.pointer (some ⟨lp,0,none⟩)] [.ob (RLogO lp xp g)] (Gives (.int .i64 (headG g.segs)) [.ob (RLogO lp xp g)]):=by
 intro W F w hS
 obtain⟨sv,xs,hx,hS⟩:=RLogO.iff.1 hS
 obtain⟨h1,h2,_,_⟩:=hg.xs hx
 (refine Cc (yV lp xp sv xs g.base g.size (tornI g.torn) h1 (by omega) hM) ?_;clear hS)
 rintro v post ⟨rfl,rfl⟩ w hS;(try simp only[app]at hS)
 rw[hx]
 exact⟨_,⟨rfl,rfl⟩,RLogO.close hS hx Xi⟩
theorem Y7(lp xp:Nat)(g:PLog)(n:Int){M:Nat}(hg:GOk g M)(hM:M≤1000000000000)(hn : -9000000000000000000≤n∧n≤9000000000000000000):
  SP 179 [.pointer (some ⟨lp,0,none⟩),.int .i64 n] [.ob (RLogO lp xp g)] (ReadLQ [.ob (RLogO lp xp g)] (readG g.segs n)):=by
 intro W F w hS;apply vc179;unfold Vc179;(try simp only[app]at hS)
 refine Cg (yz lp xp g hg.ok hM) λw hS=>?_
 refine zc (λh1=>?_) (λh1=>?_)
 ·rw[readG_low g.segs n hg.seq (λs _=>by omega) h1]
  exact⟨_,⟨rfl,rfl⟩,hS⟩
 ·skip
  refine Cg (zL lp xp g hg.ok hM) λw hS=>?_
  refine zc (λh2=>?_) (λh2=>?_)
  ·rw[readG_high g.segs n hg.seq h2]
   exact⟨_,⟨rfl,rfl⟩,hS⟩
  ·have hfr:findR g.segs n=readG g.segs n:=findR_eq g.segs n hg.seq λs hs=>by
    cases hL:g.segs with
    | nil=>rw[hL]at hs;cases hs
    | cons a r=>
     rw[hL]at hs h1
     cases hs
     have:¬n<s.first:=h1
     omega
   rw[← hfr]
   obtain⟨sv,xs,hx,hS⟩:=RLogO.iff.1 hS
   obtain⟨hok,hl,_,_⟩:=hg.ok.xs hx
   have hseq:SeqG (xs.map XSeg.pl):=by rw[hx];exact hg.seq
   have hhd0:∀s,((xs.drop 0).map XSeg.pl).head?=some s→s.first≤n:=by
    intro s hs
    rw[List.drop_zero]at hs
    cases xs with
    | nil=>cases hs
    | cons a r=>
     cases hs
     have:¬n<lowG g.segs:=h1
     rw[← hx]at this
     have:¬n<a.pl.first:=this
     omega
   rw[← hx]
   refine⟨λvs w=>∃i:Nat,i≤xs.length∧vs=[.int .i64 i]∧findR (xs.map XSeg.pl) n=findR ((xs.drop i).map XSeg.pl) n∧(∀s,((xs.drop i).map XSeg.pl).head?=some s→s.first≤n)∧SL W (.pt lp (rlcells sv xp g.base g.size (tornI g.torn)) 254::RowR sv xs::.ob (zg XSegO xs)::F) w,
    λvs _=>match vs with|[.int _ i]=>xs.length-i.toNat|_=>0,⟨0,by omega,rfl,rfl,hhd0,SL.into hS Xi⟩,?_⟩
   clear hS hhd0
   rintro v6 w ⟨i,hi,hv,hr,hlo,hS⟩
   cases hv
   rw[hr]
   refine Gp ?_
   refine zP hS (v:=sv) (t:=259) (sz:=4) (n:=xs.length) (cells:=(xs.map xcells).flatten) Xh ?_
   refine Gp ?_
   refine zc (λh0=>?_) (λh0=>?_)
   ·have hj:i<xs.length:=by omega
    have hxj:xs[i]?=some xs[i]:=List.getElem?_eq_getElem hj
    have hok:=hok _ (List.mem_map.2 ⟨_,List.getElem_mem hj,rfl⟩)
    have hdr:(xs.drop i).map XSeg.pl=xs[i].pl::(xs.drop (i+1)).map XSeg.pl:=by rw[List.drop_eq_getElem_cons hj];rfl
    have hsd:=hseq.drop i
    rw[← List.map_drop,hdr]at hsd
    rw[hdr]at hlo ⊢
    have hlo0:=hlo _ rfl
    have hstep:findR (xs[i].pl::(xs.drop (i+1)).map XSeg.pl) n=if n-xs[i].pl.first<xs[i].pl.l.length then xs[i].pl.l[(n-xs[i].pl.first).toNat]? else findR ((xs.drop (i+1)).map XSeg.pl) n:=rfl
    rw[hstep]
    have hnext:¬n-xs[i].pl.first<xs[i].pl.l.length→∀s,((xs.drop (i+1)).map XSeg.pl).head?=some s→s.first≤n:=by
     intro h s hs
     cases hL:(xs.drop (i+1)).map XSeg.pl with
     | nil=>rw[hL]at hs;cases hs
     | cons a r=>
      rw[hL]at hs hsd
      cases hs
      have:=hsd.1
      simp only[PSeg.next]at this
      omega
    have k1:=hok.n0
    have k2:=hok.n1
    refine Gp ?_
    refine yi (i:=1) hS Xh hj (u:=.int .i64 xs[i].first) rfl ?_
    have e1:xs[i].pl.first=xs[i].first:=rfl
    have e2:xs[i].pl.l.length=xs[i].es.length:=by simp[XSeg.pl,byts_len]
    have e3:xs[i].pl.l=byts xs[i].es:=rfl
    rw[e1]at k1 k2 hlo0
    refine Gp ?_
    refine yi (i:=3) hS Xh hj (u:=.slice xs[i].a xs[i].es.length xs[i].c) rfl ?_
    refine Gp ?_
    refine zc (λh3=>?_) (λh3=>?_)
    ·rw[if_pos (by rw[e1,e2];exact h3)]
     obtain⟨j,hjn⟩:=Int.eq_ofNat_of_zero_le (show 0≤n-xs[i].first by omega)
     have hjl:j<xs[i].es.length:=by omega
     refine Gm λb w hS=>?_
     have hS:=OwnSl.full (n:=0) (sz:=1) rfl hS
     refine yi (i:=3) hS Xh hj (u:=.slice xs[i].a xs[i].es.length xs[i].c) rfl ?_
     rw[e1,hjn]
     have hS:=zg.take (SL.into hS (t:=.ob (zg XSegO xs)::.ob (OwnSl (.slice (some ⟨b,0,none⟩) 0 0) 5 1 0 [])::.pt lp (rlcells sv xp g.base g.size (tornI g.torn)) 254::RowR sv xs::F) Xi) hxj
     have hS:=XSegO.iff.1 hS
     unfold XSeg.lv at hS
     refine yq (j:=j) hS .hd hjl λp o hb=>?_
     have hej:xs[i].es[j]?=some xs[i].es[j]:=List.getElem?_eq_getElem hjl
     have hval:(vals xs[i].es)[j*1+0]?=some xs[i].es[j].1:=by simp[vals,hjl]
     refine⟨_,_,rfl,hb 0 _ (by omega) hval,?_⟩
     have hS:=zg.take (SL.into hS (t:=.ob (zg BEntO xs[i].es)::.ob (OwnSo (.slice xs[i].a xs[i].es.length xs[i].c) 62 1 xs[i].es.length (vals xs[i].es))::.ob (zg XSegO (xs.eraseIdx i))::.ob (OwnSl (.slice (some ⟨b,0,none⟩) 0 0) 5 1 0 [])::.pt lp (rlcells sv xp g.base g.size (tornI g.torn)) 254::RowR sv xs::F) Xi) hej
     have hbl:xs[i].es[j].2.length≤1048576:=hok.bl _ (List.mem_map.2 ⟨_,List.getElem_mem hjl,rfl⟩)
     have hby:xs[i].pl.l[((j:Int)).toNat]?=some xs[i].es[j].2:=by rw[e3];simp[byts,hjl]
     rw[hby]
     have hR:Rdb (.ob (BEntO xs[i].es[j])) xs[i].es[j].1 xs[i].es[j].2:=Rdb.own
     refine zw (t:=5) (sz:=1) (n:=0) (cells:=[]) (m:=xs[i].es[j].2.length) (cs:=xs[i].es[j].2.map u8c) hS Xr (hR.src hS .hd) (by simp) rfl (u8c_one _) (by omega) (by omega) ?_
     clear hS;intro u w hS
     rw[Nat.zero_add,List.nil_append]at hS
     have hS:=zg.back (SL.into hS (t:=.ob (BEntO xs[i].es[j])::.ob (zg BEntO (xs[i].es.eraseIdx j))::.ob (OwnSo (.slice xs[i].a xs[i].es.length xs[i].c) 62 1 xs[i].es.length (vals xs[i].es))::.ob (OwnSl u 5 1 xs[i].es[j].2.length (xs[i].es[j].2.map u8c))::.ob (zg XSegO (xs.eraseIdx i))::.pt lp (rlcells sv xp g.base g.size (tornI g.torn)) 254::RowR sv xs::F) Xi) hej
     have hS:=(XSegO.iff (x:=xs[i])).2 (SL.into hS (t:=.ob (OwnSo (.slice xs[i].a xs[i].es.length xs[i].c) 62 1 xs[i].es.length (vals xs[i].es))::.ob (zg BEntO xs[i].es)::.ob (OwnSl u 5 1 xs[i].es[j].2.length (xs[i].es[j].2.map u8c))::.ob (zg XSegO (xs.eraseIdx i))::.pt lp (rlcells sv xp g.base g.size (tornI g.torn)) 254::RowR sv xs::F) Xi)
     have hS:=zg.back (SL.into hS (t:=.ob (XSegO xs[i])::.ob (zg XSegO (xs.eraseIdx i))::.ob (OwnSl u 5 1 xs[i].es[j].2.length (xs[i].es[j].2.map u8c))::.pt lp (rlcells sv xp g.base g.size (tornI g.torn)) 254::RowR sv xs::F) Xi) hxj
     have hS:=RLogO.close (lp:=lp) (xp:=xp) (F:=.ob (OwnSl u 5 1 xs[i].es[j].2.length (xs[i].es[j].2.map u8c))::F) hS hx Xi
     exact⟨_,⟨u,rfl,rfl⟩,SL.into hS Xi⟩
    ·rw[if_neg (by rw[e1,e2];exact h3)]
     refine Gp ?_
     exact⟨⟨i+1,by omega,rfl,rfl,hnext (by rw[e1,e2];exact h3),SL.into hS Xi⟩,by simp only[Int.toNat_natCast];omega⟩
   ·have:xs.drop i=[]:=List.drop_eq_nil_of_le (by omega)
    rw[this]
    exact⟨_,⟨rfl,rfl⟩,RLogO.close hS hx Xi⟩
def ROpenQ(H:Heap)(xp:Nat)(y:DS × Except Int PLog)(r:Value)(post:List Chunk):Prop:=match y.2 with
 | .error e=>e≠0∧r= .tuple #[.pointer none,.int .i64 e]∧∃H',H.le H'∧post=[.ob (RDO H' xp y.1),.mem H']
 | .ok g=>∃(lp:Nat) (H':Heap),H.le H'∧r= .tuple #[.pointer (some ⟨lp,0,none⟩),.int .i64 0]∧post=[.ob (RLogO lp xp g),.ob (RDO H' xp y.1),.mem H']
structure RAt(R:List PF)(ids:List Int)(i:Nat)(L:List PSeg)(wh:Bool)(next:Int)(M:Nat):Prop where
 le:i≤ids.length
 eq:loadsG R ids none [] true=loadsG R (ids.drop i) (if i=0 then none else ids[i-1]?) L wh
 len:(wh=true∧L.length=i)∨(wh=false∧i=ids.length∧L.length+1=i)
 next:0<i→wh=true→next=headG L+1
 ok:∀s∈L,SegOk s M
theorem ropen_specW(H:Heap)(xp:Nat)(s:DS)(base size:Int){N B:Nat}(hok:s.Ok B)(hB:B≤140737488355328)(hw:WinLe s.R base N)(hN:N≤1000000000)(hR:s.R.length≤100000)(hops:s.ops≤100000):
  SP 84 [.pointer (some ⟨xp,0,none⟩),.int .i64 base,.int .i64 size] [.ob (RDO H xp s),.mem H] (ROpenQ H xp (openG s base size)):=by
 intro W F w hS;apply vc84;unfold Vc84;(try simp only[app]at hS)
 have hE:∀{w:World} {e:Int},openG s base size=(s,.error e)→e≠0→SL W (.ob (RDO H xp s)::.mem H::F) w→∃post,ROpenQ H xp (openG s base size) (.tuple #[.pointer none,.int .i64 e]) post∧SL W (app post F) w:=λh he hS=>⟨[.ob (RDO H xp s),.mem H],by rw[h];exact⟨he,rfl,H,Heap.le_refl H,rfl⟩,hS⟩
 by_cases hbd:base<0∨12288<base∨size<64∨65536<size
 ·have e:openG s base size=(s,.error 1):=by unfold openG;rw[if_pos hbd]
  refine Gp ?_
  refine zc (λh=>hE e (by decide) hS) (λh1=>?_)
  refine Gp ?_
  refine zc (λh=>hE e (by decide) hS) (λh2=>?_)
  refine Gp ?_
  refine zc (λh=>hE e (by decide) hS) (λh3=>?_)
  refine Gp ?_
  refine zc (λh=>hE e (by decide) hS) (λh4=>by omega)
 ·refine Gp ?_
  refine zc (λh=>by omega) (λ_=>?_)
  refine Gp ?_
  refine zc (λh=>by omega) (λ_=>?_)
  refine Gp ?_
  refine zc (λh=>by omega) (λ_=>?_)
  refine Gp ?_
  refine zc (λh=>by omega) (λ_=>?_)
  obtain⟨fv,ys,⟨he,hrb⟩,hS⟩:=RDO.iff.1 hS
  have hyl:ys.length=s.R.length:=by rw[← he,List.length_map]
  have hcl:∀{w:World} {l F':List Chunk},SL W l w→Pick [.pt xp (rcells fv s) 66,.ob (FilesO fv ys)] l F'→SL W (.ob (RDO H xp s)::F') w:=λh k=>RDO.iff.2 ⟨fv,ys,⟨he,hrb⟩,h.pick k⟩
  refine Gp ?_
  refine ZH (λho=>?_) (λho=>?_)
  ·have e:openG s base size=(s,.error 8):=by unfold openG;rw[if_neg hbd,if_pos ho]
   exact hE e (by decide) (SL.into (hcl hS Xp) Xi)
  ·have eo:openG s base size=match loadsG s.R (idsG base s.R) none [] true with
    | none=>(s,.error 3)
    | some (L,whole)=>if (beginG L s (idsG base s.R) whole).2≠0 then ((beginG L s (idsG base s.R) whole).1,.error (beginG L s (idsG base s.R) whole).2) else ((beginG L s (idsG base s.R) whole).1,.ok ⟨L,base,size,none⟩):=by
    unfold openG;rw[if_neg hbd,if_neg (by rw[ho];decide)];rfl
   have hi:∀f∈idsG base s.R,base≤f∧f<base+4096:=λf hf=>idsG_mem hf
   have hil:=idsG_len base s.R
   have hids:=ownY_ids (base:=base) he
   refine Gp ?_
   refine⟨_,rfl,zT hS ?_⟩
   clear hS;intro lp w hS
   (refine Cc (Ql H xp s fv ys hrb base (by omega) (by omega) (by omega)) ?_;clear hS)
   rintro ov post rfl w hS;(try simp only[app]at hS)
   have hS:=OwnSo.nil0 (a:=none) (t:=259) (sz:=4) hS
   have hS:=zg.nil (A:=XSegO) hS
   have hS:=SL.into hS (t:=.pt lp (rlcells (.slice none 0 0) xp base size (-1)) 254::.ob (OwnSo (.slice none 0 0) 259 4 0 [])::.ob (zg XSegO [])::.ob (FilesO ov (ownY base ys))::.pt xp (rcells fv s) 66::.ob (FilesO fv ys)::.mem H::F) Xi
   have hS:=(RLogO.iff (g:=⟨[],base,size,none⟩)).2 ⟨_,[],rfl,hS⟩
   have hzm:∀y∈ownY base ys,y∈ys:=λy hy=>ownY_mem hy
   generalize hzs:ownY base ys=zs at *
   generalize hidd:idsG base s.R=ids at *
   have hzl:zs.length=ids.length:=by rw[← hids,List.length_map]
   have hget:∀j (h:j<zs.length) (h':j<ids.length),ids[j]=zs[j].1.id:=λj h h'=>by
    have:ids[j]?=some zs[j].1.id:=by rw[← hids,List.getElem?_map,List.getElem?_eq_getElem h];rfl
    rw[List.getElem?_eq_getElem h']at this
    exact Option.some.inj this
   have hgK:∀j (h:j<zs.length),getK PF.id s.R zs[j].1.id=some zs[j].1:=λj h=>getK_of hok.sorted (by rw[← he];exact List.mem_map.2 ⟨_,hzm _ (List.getElem_mem h),rfl⟩)
   have hE3:∀{w:World} {l F':List Chunk},loadsG s.R ids none [] true=none→SL W (.ob (RDO H xp s)::.mem H::F) w→∃post,ROpenQ H xp (openG s base size) (.tuple #[.pointer none,.int .i64 3]) post∧SL W (app post F) w:=λh hS=>hE (by rw[eo,h]) (by decide) hS
   have hRA0:RAt s.R ids 0 [] true 0 (N+100000):=⟨Nat.zero_le _,rfl,.inl ⟨rfl,rfl⟩,λh=>by omega,by simp⟩
   refine⟨λvs w=>∃(i:Nat) (next:Int) (L:List PSeg) (wh:Bool),vs=[.int .i64 next,.int .i64 i]∧RAt s.R ids i L wh next (N+100000)∧SL W (.ob (RLogO lp xp ⟨L,base,size,none⟩)::.ob (FilesO ov zs)::.pt xp (rcells fv s) 66::.ob (FilesO fv ys)::.mem H::F) w,
    λvs _=>match vs with|[_,.int _ i]=>(ids.length-i).toNat|_=>0,⟨0,0,[],true,rfl,hRA0,SL.into hS Xi⟩,?_⟩
   clear hS hRA0
   rintro v10 v11 w ⟨i,next,L,wh,hvs,hA,hS⟩
   cases hvs
   have hile:=hA.le
   have hLl:L.length≤100000:=by rcases hA.len with ⟨_,h⟩|⟨_,_,h⟩<;>omega
   have hLO:(⟨L,base,size,none⟩:PLog).Ok (N+100000):=⟨hA.ok,by show 0≤base;omega,by show base≤12288;omega,by show 64≤size;omega,by show size≤65536;omega,by show L.length≤_;omega⟩
   refine zt hS (v:=ov) (t:=186) (sz:=3) (n:=zs.length) (cells:=(zs.map encRF).flatten) Xh ?_
   refine Gp ?_
   refine zc (λh1=>?_) (λh1=>?_)
   ·have hiz:i<zs.length:=by omega
    have hii:i<ids.length:=by omega
    have hwh:wh=true∧L.length=i:=by
     rcases hA.len with h|⟨_,h,_⟩
     ·exact h
     ·omega
    obtain⟨rfl,hLi⟩:=hwh
    have hx:zs[i]?=some zs[i]:=List.getElem?_eq_getElem hiz
    have hid:=hget i hiz hii
    have hgk:=hgK i hiz
    have hyB:=hrb _ (hzm _ (List.getElem_mem hiz))
    have hfi:=hi _ (List.getElem_mem hii)
    have heq:=hA.eq
    rw[List.drop_eq_getElem_cons hii,loadsG_cons,hid]at heq
    rw[hid]at hfi
    have hyN:zs[i].1.b.length≤N:=hw.at_ hfi _ hgk
    have hgap:0<i→∀h:i-1<zs.length,gapG (if i=0 then none else ids[i-1]?) zs[i].1.id=decide (zs[i].1.id≠zs[i-1].1.id+1):=λh0 h=>by
     rw[if_neg (by omega),List.getElem?_eq_getElem (show i-1<ids.length by omega),hget (i-1) h (by omega)];rfl
    have hgap0:i=0→gapG (if i=0 then none else ids[i-1]?) zs[i].1.id=false:=λh=>by rw[if_pos h];rfl
    have hlast:(ids.drop (i+1)).isEmpty=decide (i+1=ids.length):=by
     rw[Bool.eq_iff_iff,decide_eq_true_iff,List.isEmpty_iff,List.drop_eq_nil_iff]
     omega
    rw[hlast]at heq
    have hload:loadG L s.R zs[i].1.id (decide (i+1=ids.length))=match readS zs[i].1.b with
     | none=>((false,decide (i+1=ids.length)),L)
     | some (first,l,n)=>if ((decide (i+1=ids.length)=false∧(n≠zs[i].1.b.length∨l.length=0))∨(0<L.length∧first≠headG L+1)∨1099511627776<first+l.length-1) then ((true,false),L)
      else ((true,true),L++[⟨zs[i].1.id,first,n,l⟩]):=by
     unfold loadG
     rw[hgk];rfl
    have hlok:=loadG_ok (L:=L) (f:=zs[i].1.id) (last:=decide (i+1=ids.length)) (M:=N+100000) (hw.at_ hfi) (by omega) (by omega) (by omega) hA.ok
    have hpid:∀h:i-1<zs.length,(zs[i-1]?)=some zs[i-1]:=λh=>List.getElem?_eq_getElem h
    have hpr:∀h:i-1<zs.length,base≤zs[i-1].1.id∧zs[i-1].1.id<base+4096:=λh=>by
     have:=hi _ (List.getElem_mem (show i-1<ids.length by omega))
     rwa [hget (i-1) h (by omega)]at this
    refine yM hS (v:=ov) (t:=186) Xh encRF_len hx hiz ?_
    generalize zs[i]=y at *
    obtain⟨yf,yv⟩:=y
    simp only at *
    obtain⟨_,ya,yc,rfl,_,_⟩:=id hyB
    refine zT hS ?_
    clear hS;intro fb w hS
    refine yj (vs:=[.int .i64 yf.id,.int .i64 (yf.safe:Int),.slice ya yf.b.length yc]) hS Xu rfl rfl (by simp[Value.oneCell']) ?_
    clear hS;intro w hS
    by_cases hg:gapG (if i=0 then none else ids[i-1]?) yf.id=true
    ·
     have hno:loadsG s.R ids none [] true=none:=by
      rw[heq]
      split
      ·rfl
      ·first|rfl|rw[if_pos hg]
     refine⟨λvs w=>False,?_,λw h=>h.elim⟩
     refine Gn λw hS=>?_
     refine zc (λh2=>?_) (λh2=>?_)
     ·have hj0:i-1<zs.length:=by omega
      refine Gp ?_
      have e:((i:Nat):Int)-1=((i-1:Nat):Int):=by omega
      rw[e]
      have hp2:=hpr hj0
      refine zA (i:=0) hS (v:=ov) (t:=186) Xh encRF_len (hpid hj0) hj0 (u:=.int .i64 zs[i-1].1.id) rfl ?_
      refine Gp ?_
      have hgv:=hgap (by omega) hj0
      rw[hg]at hgv
      refine zc (λh3=>?_) (λh3=>absurd (of_decide_eq_true hgv.symm) h3)
      exact hE3 (l:=[]) (F':=[]) hno (SL.into (hcl hS Xp) Xi)
     ·rw[hgap0 (by omega)]at hg;cases hg
    ·rw[if_neg hg]at heq
     refine⟨λvs w=>vs=[]∧SL W (.pt fb [.int .i64 yf.id,.int .i64 (yf.safe:Int),.slice ya yf.b.length yc] 186::.ob (RLogO lp xp ⟨L,base,size,none⟩)::.ob (FilesO ov zs)::.pt xp (rcells fv s) 66::.ob (FilesO fv ys)::.mem H::F) w,?_,?_⟩
     ·refine Gn λw hS=>?_
      refine zc (λh2=>?_) (λh2=>⟨rfl,SL.into hS Xi⟩)
      have hj0:i-1<zs.length:=by omega
      refine Gp ?_
      have e:((i:Nat):Int)-1=((i-1:Nat):Int):=by omega
      rw[e]
      have hp2:=hpr hj0
      refine zA (i:=0) hS (v:=ov) (t:=186) Xh encRF_len (hpid hj0) hj0 (u:=.int .i64 zs[i-1].1.id) rfl ?_
      refine Gp ?_
      have hgv:=hgap (by omega) hj0
      refine zc (λh3=>absurd (by rw[hgv];exact decide_eq_true h3) hg) (λh3=>?_)
      exact⟨rfl,SL.into hS Xi⟩
     ·clear hS
      rintro w ⟨-,hS⟩
      refine Gp ?_
      have hyr:Rdb (.mem H) (.slice ya yf.b.length yc) yf.b:=Rdb.rd hyB
      (refine Cc (qy (.mem H) _ yf.b hyr (by omega)) ?_;clear hS)
      rintro r post hQ w hS
      unfold ReadQ2 at hQ
      cases hr:readS yf.b with
      | none=>
       rw[hr]at hQ hload
       obtain⟨rfl,rfl⟩:=hQ
       simp only at hload
       rw[hload]at heq
       (try simp only[app]at hS);refine Gp ?_
       refine⟨λvs w=>vs=[.bool false]∧SL W (.pt fb [.int .i64 yf.id,.int .i64 (yf.safe:Int),.slice ya yf.b.length yc] 186::.ob (RLogO lp xp ⟨L,base,size,none⟩)::.ob (FilesO ov zs)::.pt xp (rcells fv s) 66::.ob (FilesO fv ys)::.mem H::F) w,?_,?_⟩
       ·refine Gp ?_
        refine zc (λh=>absurd h (by decide)) (λ_=>⟨rfl,SL.into hS Xi⟩)
       ·clear hS
        rintro v17 w ⟨hvs,hS⟩
        cases hvs
        refine⟨λvs w=>vs=[.bool (decide (i+1≠ids.length))]∧SL W (.pt fb [.int .i64 yf.id,.int .i64 (yf.safe:Int),.slice ya yf.b.length yc] 186::.ob (RLogO lp xp ⟨L,base,size,none⟩)::.ob (FilesO ov zs)::.pt xp (rcells fv s) 66::.ob (FilesO fv ys)::.mem H::F) w,?_,?_⟩
        ·refine zt hS (v:=ov) (t:=186) (sz:=3) (n:=zs.length) (cells:=(zs.map encRF).flatten) Xh ?_
         refine Gp ?_
         refine zc (λh=>?_) (λh=>?_)
         ·rw[decide_eq_true (show i+1≠ids.length by omega)]
          refine zN ?_
          refine zu ?_
          exact⟨rfl,SL.into hS Xi⟩
         ·rw[decide_eq_false (show ¬i+1≠ids.length by omega)]
          refine Gp ?_
          refine zc (λh=>absurd h (by decide)) (λ_=>⟨rfl,SL.into hS Xi⟩)
        ·clear hS
         rintro v114 w ⟨hvs,hS⟩
         cases hvs
         refine zc (λhb=>?_) (λhb=>?_)
         ·rw[decide_eq_false (show ¬i+1=ids.length from hb),if_pos rfl]at heq
          exact hE3 (l:=[]) (F':=[]) heq (SL.into (hcl hS Xp) Xi)
         ·have hb':i+1=ids.length:=Classical.not_not.1 hb
          rw[decide_eq_true hb',if_neg (by simp)]at heq
          refine Gp ?_
          refine zc (λ_=>?_) (λh=>absurd (by decide) h)
          refine Gp ?_
          refine⟨⟨i+1,next,L,false,rfl,⟨by omega,?_,.inr ⟨rfl,hb',by omega⟩,λ_ h=>(by cases h),hA.ok⟩,SL.into hS Xi⟩,by dsimp only;omega⟩
          rw[heq,if_neg (by omega),Nat.add_sub_cancel,List.getElem?_eq_getElem hii,hid]
      | some q=>
       obtain⟨first,l,n⟩:=q
       have hrk:=readS_ok hr
       obtain⟨r1,r2,r3,r4,r5⟩:=hrk
       rw[hr]at hQ hload
       obtain⟨u,es,hes,rfl,rfl⟩:=hQ
       simp only at hload
       (try simp only[app]at hS)
       have hel:l.length=es.length:=by rw[← hes,byts_len]
       obtain⟨ua,uc,rfl,_⟩:=OwnSo.at hS (v:=u) .hd
       refine Gp ?_
       refine⟨λvs w=>vs=[.bool (decide (n=yf.b.length∧0<es.length))]∧SL W (.pt fb [.int .i64 yf.id,.int .i64 (yf.safe:Int),.slice ya yf.b.length yc] 186::.ob (OwnSo (.slice ua es.length uc) 62 1 es.length (vals es))::.ob (zg BEntO es)::.ob (RLogO lp xp ⟨L,base,size,none⟩)::.ob (FilesO ov zs)::.pt xp (rcells fv s) 66::.ob (FilesO fv ys)::.mem H::F) w,?_,?_⟩
       ·refine Gp ?_
        refine zc (λ_=>?_) (λh=>absurd rfl h)
        refine Gp ?_
        refine zc (λh=>?_) (λh=>?_)
        ·refine Gp ?_
         refine⟨?_,SL.into hS Xi⟩
         congr 2
         rw[Bool.eq_iff_iff,decide_eq_true_iff,decide_eq_true_iff];omega
        ·refine⟨?_,SL.into hS Xi⟩
         rw[decide_eq_false (show ¬(n=yf.b.length∧0<es.length) by omega)]
       ·clear hS
        rintro v17 w ⟨hvs,hS⟩
        cases hvs
        refine⟨λvs w=>vs=[.bool (decide ((i+1≠ids.length∧¬(n=yf.b.length∧0<es.length))∨(0<i∧first≠next)))]∧SL W (.pt fb [.int .i64 yf.id,.int .i64 (yf.safe:Int),.slice ya yf.b.length yc] 186::.ob (OwnSo (.slice ua es.length uc) 62 1 es.length (vals es))::.ob (zg BEntO es)::.ob (RLogO lp xp ⟨L,base,size,none⟩)::.ob (FilesO ov zs)::.pt xp (rcells fv s) 66::.ob (FilesO fv ys)::.mem H::F) w,?_,?_⟩
        ·have hq2:∀b:Bool,(b=decide ((i+1≠ids.length∧¬(n=yf.b.length∧0<es.length))∨(0<i∧first≠next)))→[Value.bool b]=[.bool (decide ((i+1≠ids.length∧¬(n=yf.b.length∧0<es.length))∨(0<i∧first≠next)))]:=λb h=>by rw[h]
         refine zt hS (v:=ov) (t:=186) (sz:=3) (n:=zs.length) (cells:=(zs.map encRF).flatten) Xh ?_
         refine Gp ?_
         refine zc (λh=>?_) (λh=>?_)
         ·refine zN ?_
          by_cases hw:n=yf.b.length∧0<es.length
          ·rw[decide_eq_true hw]
           refine zo ?_
           refine Gp ?_
           refine zc (λ_=>?_) (λh=>absurd rfl h)
           refine Gp ?_
           refine zc (λh2=>?_) (λh2=>?_)
           ·refine Gp ?_
            refine⟨hq2 _ ?_,SL.into hS Xi⟩
            rw[Bool.eq_iff_iff,decide_eq_true_iff,decide_eq_true_iff]
            constructor
            ·intro h;exact .inr ⟨by omega,h⟩
            ·rintro (⟨_,h⟩|⟨_,h⟩)
             ·exact absurd hw h
             ·exact h
           ·refine⟨hq2 _ ?_,SL.into hS Xi⟩
            refine (decide_eq_false ?_).symm
            rintro (⟨_,h⟩|⟨h,_⟩)
            ·exact absurd hw h
            ·omega
          ·rw[decide_eq_false hw]
           refine zu ?_
           exact⟨hq2 _ (decide_eq_true (.inl ⟨by omega,hw⟩)).symm,SL.into hS Xi⟩
         ·refine Gp ?_
          refine zc (λ_=>?_) (λh=>absurd rfl h)
          refine Gp ?_
          refine zc (λh2=>?_) (λh2=>?_)
          ·refine Gp ?_
           refine⟨hq2 _ ?_,SL.into hS Xi⟩
           rw[Bool.eq_iff_iff,decide_eq_true_iff,decide_eq_true_iff]
           constructor
           ·intro h;exact .inr ⟨by omega,h⟩
           ·rintro (⟨h,_⟩|⟨_,h⟩)
            ·omega
            ·exact h
          ·refine⟨hq2 _ ?_,SL.into hS Xi⟩
           refine (decide_eq_false ?_).symm
           rintro (⟨h,_⟩|⟨h,_⟩)<;>omega
        ·clear hS
         rintro v114 w ⟨hvs,hS⟩
         cases hvs
         have hnx:0<i→next=headG L+1:=λh=>hA.next h rfl
         refine zc (λhb=>?_) (λhb=>?_)
         ·rw[hload,if_pos (c:=(decide (i+1=ids.length)=false∧(n≠yf.b.length∨l.length=0))∨(0<L.length∧first≠headG L+1)∨1099511627776<first+l.length-1) (by
           rcases hb with ⟨h1,h2⟩|⟨h1,h2⟩
           ·exact .inl ⟨decide_eq_false h1,by rw[hel];omega⟩
           ·exact .inr (.inl ⟨by omega,by rw[← hnx h1];exact h2⟩)),if_pos rfl]at heq
          exact hE3 (l:=[]) (F':=[]) heq (SL.into (hcl hS Xp) Xi)
         ·refine Gp ?_
          refine zc (λh=>absurd rfl h) (λ_=>?_)
          refine Gp ?_
          refine zc (λhmx=>?_) (λhmx=>?_)
          ·rw[hload,if_pos (c:=(decide (i+1=ids.length)=false∧(n≠yf.b.length∨l.length=0))∨(0<L.length∧first≠headG L+1)∨1099511627776<first+l.length-1) (.inr (.inr (by rw[hel];omega))),if_pos rfl]at heq
           exact hE3 (l:=[]) (F':=[]) heq (SL.into (hcl hS Xp) Xi)
          ·have hcond:¬((decide (i+1=ids.length)=false∧(n≠yf.b.length∨l.length=0))∨(0<L.length∧first≠headG L+1)∨1099511627776<first+l.length-1):=by
            rintro (⟨h1,h2⟩|⟨h1,h2⟩|h)
            ·exact hb (.inl ⟨of_decide_eq_false h1,by rw[hel]at h2;omega⟩)
            ·exact hb (.inr ⟨by omega,by rw[hnx (by omega)];exact h2⟩)
            ·rw[hel]at h;omega
           rw[hload,if_neg hcond,if_neg (by simp)]at heq
           rw[hload,if_neg hcond]at hlok
           simp only at heq hlok
           obtain⟨sv,xs,hx2,hS⟩:=RLogO.openN (SL.into hS (t:=.ob (RLogO lp xp ⟨L,base,size,none⟩)::.pt fb [.int .i64 yf.id,.int .i64 (yf.safe:Int),.slice ya yf.b.length yc] 186::.ob (OwnSo (.slice ua es.length uc) 62 1 es.length (vals es))::.ob (zg BEntO es)::.ob (FilesO ov zs)::.pt xp (rcells fv s) 66::.ob (FilesO fv ys)::.mem H::F) Xi)
           have hxl:xs.length=L.length:=by
            have:=congrArg List.length hx2
            rwa [List.length_map]at this
           refine Gm λb w hS=>?_
           have hone0:=OwnSo.one hS (v:=sv) (t:=259) (sz:=4) (n:=xs.length) (cells:=(xs.map xcells).flatten) Xh
           refine y4 (t:=259) (sz:=4) (n:=xs.length) (cells:=(xs.map xcells).flatten) (m:=1) (cs:=[.int .i64 yf.id,.int .i64 first,.int .i64 n,.slice ua es.length uc]) hS Xr (src_pt0 hS .hd rfl) rfl rfl (by simp[Value.oneCell']) (by omega) (by omega) ?_
           clear hS;intro sv' w hS
           have hone:=OwnSo.one hS (v:=sv') .hd
           refine Gn λw hS=>?_
           have hS:=(XSegO.iff (x:=⟨yf.id,first,n,es,ua,uc⟩)).2 (SL.into hS (t:=.ob (OwnSo (.slice ua es.length uc) 62 1 es.length (vals es))::.ob (zg BEntO es)::.ob (zg XSegO xs)::.pt lp (rlcells sv' xp base size (-1)) 254::.ob (OwnSo sv' 259 4 (xs.length+1) ((xs.map xcells).flatten++[.int .i64 yf.id,.int .i64 first,.int .i64 n,.slice ua es.length uc]))::.ob (FilesO ov zs)::.pt xp (rcells fv s) 66::.ob (FilesO fv ys)::.mem H::F) Xi)
           have hS:=zg.snoc (hS.into (t:=.ob (zg XSegO xs)::.ob (XSegO ⟨yf.id,first,n,es,ua,uc⟩)::.pt lp (rlcells sv' xp base size (-1)) 254::.ob (OwnSo sv' 259 4 (xs.length+1) ((xs.map xcells).flatten++[.int .i64 yf.id,.int .i64 first,.int .i64 n,.slice ua es.length uc]))::.ob (FilesO ov zs)::.pt xp (rcells fv s) 66::.ob (FilesO fv ys)::.mem H::F) Xi)
           have e1:xs.length+1=(xs++[(⟨yf.id,first,n,es,ua,uc⟩:XSeg)]).length:=by simp
           have e2:(xs.map xcells).flatten++[.int .i64 yf.id,.int .i64 first,.int .i64 n,.slice ua es.length uc]=((xs++[(⟨yf.id,first,n,es,ua,uc⟩:XSeg)]).map xcells).flatten:=by simp[xcells,XSeg.lv]
           rw[e1,e2]at hS
           have hx3:(xs++[(⟨yf.id,first,n,es,ua,uc⟩:XSeg)]).map XSeg.pl=L++[⟨yf.id,first,n,l⟩]:=by
            have:xs.map XSeg.pl=L:=hx2
            rw[List.map_append,this];simp[XSeg.pl,hes]
           have hS:=RLogO.closeN (L:=L++[⟨yf.id,first,n,l⟩]) (base:=base) (size:=size) (lp:=lp) (xp:=xp) (F:=.ob (FilesO ov zs)::.pt xp (rcells fv s) 66::.ob (FilesO fv ys)::.mem H::F) hS hx3 Xi
           have hnew:headG (L++[⟨yf.id,first,n,l⟩])+1=first+es.length:=by
            rw[headG_snoc];simp only[PSeg.next,hel];omega
           refine⟨⟨i+1,first+es.length,L++[⟨yf.id,first,n,l⟩],true,rfl,⟨by omega,?_,.inl ⟨rfl,by simp;omega⟩,λ_ _=>hnew.symm,hlok.1⟩,SL.into hS Xi⟩,by dsimp only;omega⟩
           rw[heq,if_neg (by omega),Nat.add_sub_cancel,List.getElem?_eq_getElem hii,hid]
   ·have hie:i=ids.length:=by omega
    have heq:=hA.eq
    rw[hie,List.drop_length]at heq
    simp only[loadsG]at heq
    rw[heq]at eo
    simp only at eo
    refine zt hS (v:=ov) (t:=186) (sz:=3) (n:=zs.length) (cells:=(zs.map encRF).flatten) Xh ?_
    refine Gp ?_
    refine zc (λh2=>?_) (λh2=>?_)
    ·have hnil:ids=[]:=List.eq_nil_of_length_eq_zero (by omega)
     have hb:beginG L s ids wh=(s,0):=by rw[hnil];rfl
     rw[hb,if_neg (by simp)]at eo
     rw[eo]
     have hS:=hcl hS Xp
     exact⟨_,⟨lp,H,Heap.le_refl H,rfl,rfl⟩,SL.into hS Xi⟩
    ·have hj:ids.length-1<ids.length:=by omega
     have hjz:zs.length-1<zs.length:=by omega
     have hx:zs[zs.length-1]?=some zs[zs.length-1]:=List.getElem?_eq_getElem hjz
     have hgl:ids.getLast?=some zs[zs.length-1].1.id:=by
      rw[List.getLast?_eq_getElem?,← hzl,List.getElem?_eq_getElem (by omega),hget _ hjz]
     have hgk:=hgK _ hjz
     have hyB:=hrb _ (hzm _ (List.getElem_mem hjz))
     refine zt hS (v:=ov) (t:=186) (sz:=3) (n:=zs.length) (cells:=(zs.map encRF).flatten) Xh ?_
     refine Gp ?_
     have e:((zs.length:Nat):Int)-1=((zs.length-1:Nat):Int):=by omega
     rw[e]
     refine yM hS (v:=ov) (t:=186) Xh encRF_len hx hjz ?_
     generalize zs[zs.length-1]=y at *
     obtain⟨yf,yv⟩:=y
     simp only at *
     obtain⟨_,ya,yc,rfl,_,_⟩:=id hyB
     refine zT hS ?_
     clear hS;intro fb w hS
     refine yj (vs:=[.int .i64 yf.id,.int .i64 (yf.safe:Int),.slice ya yf.b.length yc]) hS Xu rfl rfl (by simp[Value.oneCell']) ?_
     clear hS;intro w hS
     obtain⟨sv,xs,hx2,hS⟩:=RLogO.openN (SL.into hS (t:=.ob (RLogO lp xp ⟨L,base,size,none⟩)::.pt fb [.int .i64 yf.id,.int .i64 (yf.safe:Int),.slice ya yf.b.length yc] 186::.ob (FilesO ov zs)::.pt xp (rcells fv s) 66::.ob (FilesO fv ys)::.mem H::F) Xi)
     have hx2:xs.map XSeg.pl=L:=hx2
     have hxl:xs.length=L.length:=by rw[← hx2,List.length_map]
     refine Gp ?_
     refine zP hS (v:=sv) (t:=259) (sz:=4) (n:=xs.length) (cells:=(xs.map xcells).flatten) Xh ?_
     refine zt hS (v:=ov) (t:=186) (sz:=3) (n:=zs.length) (cells:=(zs.map encRF).flatten) Xh ?_
     refine Gp ?_
     refine zc (λh3=>?_) (λh3=>?_)
     ·have hwf:wh=false:=by rcases hA.len with ⟨_,h⟩|⟨h,_⟩;omega;exact h
      have hb:beginG L s ids wh=s.remove yf.id:=by
       unfold beginG;rw[hgl,hwf];rfl
      rw[hb]at eo
      rw[eo]
      refine Gp ?_
      have hS:=hcl hS Xp
      (refine Cc (Zl H xp s B hok hops hR yf.id) ?_;clear hS)
      rintro v post ⟨rfl,rfl⟩ w hS;(try simp only[app]at hS);refine Gp ?_
      refine zc (λh4=>?_) (λh4=>?_)
      ·rw[if_pos h4]
       exact⟨_,⟨h4,rfl,H,Heap.le_refl H,rfl⟩,SL.into hS Xi⟩
      ·rw[if_neg h4]
       have hS:=RLogO.closeN (L:=L) (base:=base) (size:=size) (lp:=lp) (xp:=xp) (F:=.ob (RDO H xp (s.remove yf.id).1)::.mem H::F) hS hx2 Xi
       exact⟨_,⟨lp,H,Heap.le_refl H,rfl,rfl⟩,SL.into hS Xi⟩
     ·have hwt:wh=true:=by rcases hA.len with ⟨h,_⟩|⟨_,_,h⟩;exact h;omega
      have hlenF:lenF s.R yf.id=yf.b.length:=by unfold lenF;rw[hgk]
      have hb:beginG L s ids wh=if lastSize L<(yf.b.length:Int) then s.cut yf.id (lastSize L) else (s,0):=by
       unfold beginG;rw[hgl,hwt]
       simp only[hlenF]
       rw[if_neg (by decide)]
      rw[hb]at eo
      have hjx:xs.length-1<xs.length:=by omega
      have hlz:lastSize L=((xs[xs.length-1]'hjx).size:Nat):=by
       unfold lastSize
       rw[← hx2,List.getLast?_map,List.getLast?_eq_getElem?,List.getElem?_eq_getElem hjx];rfl
      rw[hlz]at eo
      have ex:((xs.length:Nat):Int)-1=((xs.length-1:Nat):Int):=by omega
      refine Gn λw hS=>?_
      refine Cg (z6 lp xp sv xs base size (-1) (by omega)) λw hS=>?_
      rw[ex]
      refine yi (i:=2) hS Xh hjx (u:=.int .i64 ((xs[xs.length-1]'hjx).size:Nat)) rfl ?_
      generalize hz:(xs[xs.length-1]'hjx).size=z at *
      refine Gp ?_
      refine zc (λh4=>?_) (λh4=>?_)
      ·rw[if_pos h4]at eo
       rw[eo]
       refine Gn λw hS=>?_
       refine Cg (z6 lp xp sv xs base size (-1) (by omega)) λw hS=>?_
       rw[ex]
       refine yi (i:=2) hS Xh hjx (u:=.int .i64 (z:Int)) (by show some (Value.int .i64 ((xs[xs.length-1]'hjx).size:Nat))=_;rw[hz]) ?_
       have hS:=hcl hS Xp
       (refine Cc (Yi H xp s B hok hB hops hR yf.id (z:Int)) ?_;clear hS)
       rintro v post ⟨rfl,H',hH,rfl⟩ w hS;(try simp only[app]at hS);refine Gp ?_
       refine zc (λh5=>?_) (λh5=>?_)
       ·rw[if_pos h5]
        exact⟨_,⟨h5,rfl,H',hH,rfl⟩,SL.into hS Xi⟩
       ·rw[if_neg h5]
        have hS:=RLogO.closeN (L:=L) (base:=base) (size:=size) (lp:=lp) (xp:=xp) (F:=.ob (RDO H' xp (s.cut yf.id (z:Int)).1)::.mem H'::F) hS hx2 Xi
        exact⟨_,⟨lp,H',hH,rfl,rfl⟩,SL.into hS Xi⟩
      ·rw[if_neg h4,if_neg (by simp)]at eo
       rw[eo]
       have hS:=hcl hS Xp
       have hS:=RLogO.closeN (L:=L) (base:=base) (size:=size) (lp:=lp) (xp:=xp) (F:=.ob (RDO H xp s)::.mem H::F) hS hx2 Xi
       exact⟨_,⟨lp,H,Heap.le_refl H,rfl,rfl⟩,SL.into hS Xi⟩
section
variable {W w:World} {l F:List Chunk}
theorem RLogO.put{lp xp:Nat}(g:PLog){sv:Value}{xs:List XSeg}(hS:SL W l w)(hx:xs.map XSeg.pl=g.segs)(p:Pick [.pt lp (rlcells sv xp g.base g.size (tornI g.torn)) 254,RowR sv xs,.ob (zg XSegO xs)] l F):SL W (.ob (RLogO lp xp g)::F) w:=RLogO.iff.2 ⟨sv,xs,hx,hS.pick p⟩
theorem RLogO.putN{lp xp:Nat}{L:List PSeg}{base size ti:Int}(tn:Option PTorn){sv:Value}{xs:List XSeg}(hS:SL W l w)(hx:xs.map XSeg.pl=L)(p:Pick [.pt lp (rlcells sv xp base size ti) 254,RowR sv xs,.ob (zg XSegO xs)] l F)(ht:tornI tn=ti:=by rfl):SL W (.ob (RLogO lp xp ⟨L,base,size,tn⟩)::F) w:=by subst ht;exact RLogO.iff.2 ⟨sv,xs,hx,hS.pick p⟩
theorem XSegO.put(x:XSeg)(hS:SL W l w)(p:Pick [.ob (OwnSo x.lv 62 1 x.es.length (vals x.es)),.ob (zg BEntO x.es)] l F):SL W (.ob (XSegO x)::F) w:=XSegO.iff.2 (hS.pick p)
theorem RDO.put{H:Heap}{xp:Nat}(s:DS){fv:Value}{ys:List YF}(hS:SL W l w)(he:ys.map Prod.fst=s.R∧RdB H ys)(p:Pick [.pt xp (rcells fv s) 66,.ob (FilesO fv ys)] l F):SL W (.ob (RDO H xp s)::F) w:=RDO.iff.2 ⟨fv,ys,he,hS.pick p⟩
theorem zg.takeP{α:Type}{A:α→zB}{xs:List α}{t:Nat}{x:α}(hS:SL W l w)(hx:xs[t]?=some x)(r:Rem (.ob (zg A xs)) l F):SL W (.ob (A x)::.ob (zg A (xs.eraseIdx t))::F) w:=zg.take (hS.perm r.perm) hx
theorem zg.putP{α:Type}{A:α→zB}{xs:List α}{t:Nat}(y:α)(hS:SL W l w)(ht:t<xs.length)(p:Pick [.ob (A y),.ob (zg A (xs.eraseIdx t))] l F):SL W (.ob (zg A (xs.set t y))::F) w:=zg.put (hS.pick p) ht
theorem zg.snocP{α:Type}{A:α→zB}{xs:List α}(x:α)(hS:SL W l w)(p:Pick [.ob (zg A xs),.ob (A x)] l F):SL W (.ob (zg A (xs++[x]))::F) w:=zg.snoc (hS.pick p)
theorem RDO.monoP{H H':Heap}{xp:Nat}{s:DS}(hh:H.le H')(hS:SL W l w)(r:Rem (.ob (RDO H xp s)) l F):SL W (.ob (RDO H' xp s)::F) w:=RDO.mono hh (hS.perm r.perm)
end
def RPlanQ(H:Heap)(lp xp:Nat)(g:PLog)(d:DS)(y:Except Int PWr)(r:Value)(post:List Chunk):Prop:=match y with
 | .error e=>e≠0∧r= .tuple #[.slice none 0 0,.int .i64 0,.bool false,.int .i64 e]∧post=[.ob (RLogO lp xp g),.ob (RDO H xp d),.mem H]
 | .ok x=>∃v,r= .tuple #[v,.int .i64 x.file,.bool x.fresh,.int .i64 0]∧post=[.ob (OwnSl v 5 1 x.b.length (x.b.map u8c)),.ob (RLogO lp xp g),.ob (RDO H xp d),.mem H]
theorem qx(H:Heap)(lp xp:Nat)(g:PLog)(d:DS)(v:Value)(p:List UInt8)(hv:RdSl H 1 v p.length (p.map u8c))(hp:p.length≤1048576){M:Nat}(hg:GOk g M)(hM:M≤1000000000000):
  SP 250 [.pointer (some ⟨lp,0,none⟩),v] [.ob (RLogO lp xp g),.ob (RDO H xp d),.mem H] (RPlanQ H lp xp g d (planG g d.off p)):=by
 intro W F w hS;apply vc250;unfold Vc250;(try simp only[app]at hS)
 obtain⟨sv,xs,hx,hS⟩:=RLogO.iff.1 hS
 obtain⟨hok,hl,hh0,hh1⟩:=hg.ok.xs hx
 have hb0:=hg.ok.b0
 have hb1:=hg.ok.b1
 have hs1:=hg.ok.s1
 have hs0:=hg.ok.s0
 have hhd:=hg.hd
 obtain⟨fv,ys,he,hS⟩:=RDO.iff.1 (Has.front (c:=.ob (RDO H xp d)) hS Xr)
 refine Gp ?_
 have hbig:¬1048576<p.length:=by omega
 refine ZH (λho=>?_) (λho=>?_)
 ·have hpl:planG g d.off p= .error 8:=by unfold planG;rw[if_neg hbig,if_pos ho]
  rw[hpl]
  have hS:=RDO.put d hS he Xp
  have hS:=RLogO.put g hS hx Xp
  exact⟨_,⟨by decide,rfl,rfl⟩,SL.into hS Xi⟩
 have hS:=RDO.put d hS he Xp
 have ho':¬d.off=true:=by rw[ho];decide
 (refine Cc (Zx (.mem H) v p (.rd hv) (by omega)) ?_;clear hS)
 rintro r post hQ w hS
 unfold PutQ at hQ
 rw[if_neg hbig]at hQ
 obtain⟨u,rfl,rfl⟩:=hQ
 (try simp only[app]at hS);refine Gp ?_
 have hrl:=recB_len p
 refine Cg (z6 lp xp sv xs g.base g.size (tornI g.torn) (by omega)) λw hS=>?_
 have hS:=RLogO.put g hS hx Xp
 refine Cg (zL lp xp g hg.ok hM) λw hS=>?_
 refine zc (λh1=>?_) (λh1=>?_)
 ·have hpl:planG g d.off p= .error 7:=by unfold planG;rw[if_neg hbig,if_neg ho',if_pos (by omega)]
  rw[hpl]
  exact⟨_,⟨by decide,rfl,rfl⟩,SL.into hS Xi⟩
 have hu1:=OwnSl.one (Has.front (c:=.ob (OwnSl u 5 1 (recB p).length ((recB p).map u8c))) hS Xr)
 obtain⟨sv,xs,hx',hS⟩:=RLogO.iff.1 (Has.front (c:=.ob (RLogO lp xp g)) hS Xr)
 have hlx:xs.length=g.segs.length:=by rw[← hx',List.length_map]
 have hlx':(xs.length:Int)-1=(‹List XSeg›.length:Int)-1:=rfl
 have hlen0:∀ys:List XSeg,ys.map XSeg.pl=g.segs→ys.length=xs.length:=λys h=>by rw[hlx,← h,List.length_map]
 rw[hlen0 _ hx]
 clear hlx'
 have hpl0:planG g d.off p=match g.segs.getLast? with
   | none=>freshG g g.base p
   | some s=>if s.l.length=0∨(s.size:Int)+(recB p).length≤g.size then .ok ⟨s.file,false,recB p⟩ else freshG g (s.file+1) p:=by
  unfold planG;rw[if_neg hbig,if_neg ho',if_neg (by omega)];rfl
 have hcase:xs=[]∧planG g d.off p=freshG g g.base p∨∃hj:xs.length-1<xs.length,planG g d.off p=if xs[xs.length-1].es.length=0∨(xs[xs.length-1].size:Int)+(recB p).length≤g.size then .ok ⟨xs[xs.length-1].file,false,recB p⟩ else freshG g (xs[xs.length-1].file+1) p:=by
  rcases Nat.eq_zero_or_pos xs.length with h0|h0
  ·left
   have:xs=[]:=List.eq_nil_of_length_eq_zero h0
   refine⟨this,?_⟩
   rw[hpl0,← hx',this];rfl
  ·right
   have hj:xs.length-1<xs.length:=by omega
   refine⟨hj,?_⟩
   rw[hpl0,← hx',List.getLast?_map,List.getLast?_eq_getElem?,List.getElem?_eq_getElem hj]
   simp[XSeg.pl,byts_len]
 have hsk:∀hj:xs.length-1<xs.length,SegOk (xs[xs.length-1]).pl M:=λhj=>by
  refine hg.ok.segs _ ?_
  rw[← hx'];exact List.mem_map.2 ⟨_,List.getElem_mem hj,rfl⟩
 refine⟨λus w=>∃q:Bool,us=[.bool q]∧(q=true↔∃hj:xs.length-1<xs.length,xs[xs.length-1].es.length=0∨(xs[xs.length-1].size:Int)+(recB p).length≤g.size)∧SL W (.pt lp (rlcells sv xp g.base g.size (tornI g.torn)) 254::RowR sv xs::.ob (zg XSegO xs)::.ob (OwnSl u 5 1 (recB p).length ((recB p).map u8c))::.ob (RDO H xp d)::.mem H::F) w,?_,?_⟩
 ·refine Gn λw hS=>?_
  refine zc (λh2=>?_) (λh2=>?_)
  ·have hj:xs.length-1<xs.length:=by omega
   have k3:=(hsk hj).sz
   have k3:xs[xs.length-1].size≤M:=k3
   rw[show (xs.length:Int)-1=((xs.length-1:Nat):Int) by omega]
   refine Gp ?_
   refine yi hS Xh hj (i:=3) rfl ?_
   unfold XSeg.lv
   refine Gp ?_
   refine zc (λh3=>?_) (λh3=>?_)
   ·exact⟨true,rfl,⟨λ_=>⟨hj,.inl (by omega)⟩,λ_=>rfl⟩,SL.into hS Xi⟩
   ·refine Gp ?_
    refine yi hS Xh hj (i:=2) rfl ?_
    refine zt hS (v:=u) Xh ?_
    refine Gp ?_
    refine⟨_,rfl,?_,SL.into hS Xi⟩
    rw[decide_eq_true_iff]
    constructor
    ·intro h;exact⟨hj,.inr (by omega)⟩
    ·rintro ⟨_,h|h⟩
     ·omega
     ·omega
  ·exact⟨false,rfl,⟨λh=>by (cases h),λ⟨hj,_⟩=>by omega⟩,SL.into hS Xi⟩
 clear hS
 rintro v62 w ⟨q,hus,hq,hS⟩
 cases hus
 refine ZH (λhqt=>?_) (λhqf=>?_)
 ·obtain⟨hj,hc⟩:=hq.1 hqt
  obtain⟨_,hpl⟩:∃_:True,planG g d.off p= .ok ⟨xs[xs.length-1].file,false,recB p⟩:=by
   rcases hcase with ⟨h0,_⟩|⟨_,h⟩
   ·subst h0;simp at hj
   ·exact⟨trivial,by rw[h,if_pos hc]⟩
  rw[hpl]
  rw[show (xs.length:Int)-1=((xs.length-1:Nat):Int) by omega]
  refine Gn λw hS=>?_
  refine yq hS (v:=sv) (t:=259) (sz:=4) (cells:=(xs.map xcells).flatten) Xh hj λab ao hb=>?_
  have hc0:=hb 0 (.int .i64 xs[xs.length-1].file) (by decide) (flat_at xcells_len xs _ 0 _ _ (List.getElem?_eq_getElem hj) rfl)
  refine zO ⟨_,_,rfl,hc0,?_⟩
  refine Gp ?_
  refine⟨_,_,rfl,hc0,⟨rfl,?_⟩⟩
  have hS:=RLogO.put g hS hx' Xp
  exact⟨_,⟨u,rfl,rfl⟩,SL.into hS Xi⟩
 ·have hnq:¬∃hj:xs.length-1<xs.length,xs[xs.length-1].es.length=0∨(xs[xs.length-1].size:Int)+(recB p).length≤g.size:=λh=>by rw[hq.2 h]at hqf;cases hqf
  refine Gp ?_
  refine⟨λus w=>∃f:Int,us=[.int .i64 f]∧planG g d.off p=freshG g f p∧0≤f∧f≤1000000∧SL W (.pt lp (rlcells sv xp g.base g.size (tornI g.torn)) 254::RowR sv xs::.ob (zg XSegO xs)::.ob (OwnSl u 5 1 (recB p).length ((recB p).map u8c))::.ob (RDO H xp d)::.mem H::F) w,?_,?_⟩
  ·refine Gp ?_
   refine zc (λh2=>?_) (λh2=>?_)
   ·have hj:xs.length-1<xs.length:=by omega
    have k1:0≤xs[xs.length-1].file:=(hsk hj).f0
    have k2:xs[xs.length-1].file≤100000:=(hsk hj).f1
    rw[show (xs.length:Int)-1=((xs.length-1:Nat):Int) by omega]
    refine Gp ?_
    refine yi hS Xh hj (i:=0) rfl ?_
    refine Gp ?_
    refine⟨_,rfl,?_,by omega,by omega,SL.into hS Xi⟩
    rcases hcase with ⟨h0,_⟩|⟨_,h⟩
    ·subst h0;simp at hj
    ·rw[h,if_neg λhc=>hnq ⟨hj,hc⟩]
   ·refine⟨_,rfl,?_,by omega,by omega,SL.into hS Xi⟩
    rcases hcase with ⟨_,h⟩|⟨hj,_⟩
    ·exact h
    ·omega
  ·clear hS
   rintro v11 w ⟨f,hus,hpl,f0,f1,hS⟩
   cases hus
   rw[hpl]
   unfold freshG
   refine Gp ?_
   refine zc (λh2=>?_) (λh2=>?_)
   ·rw[if_pos h2]
    have hS:=RLogO.put g hS hx' Xp
    exact⟨_,⟨by decide,rfl,rfl⟩,SL.into hS Xi⟩
   ·rw[if_neg h2]
    have hS:=RLogO.put g hS hx' Xp
    refine Cg (zL lp xp g hg.ok hM) λw hS=>?_
    (refine Cc (qw (headG g.segs+1)) ?_;clear hS)
    rintro r post hQ w hS
    unfold HeadQ at hQ
    rw[if_neg (by omega)]at hQ
    obtain⟨y,rfl,rfl⟩:=hQ
    (try simp only[app]at hS);refine Gp ?_
    have h2l:=recB_len (hdB (headG g.segs+1).toNat)
    have h3l:=hdB_len (headG g.segs+1).toNat
    refine zw hS .hd (src_own hS (v:=u) Xh) (by simp) rfl (u8c_one _) (by omega) (by omega) λz w hS=>?_
    refine⟨_,⟨z,rfl,rfl⟩,?_⟩
    rw[← List.map_append,← List.length_append]at hS
    exact SL.into hS Xi
abbrev RAns(lp xp:Nat)(H:Heap)(u:Value)(y:PLog × DS)(v:Value)(post:List Chunk):Prop:=v=u∧∃H',H.le H'∧post=[.ob (RLogO lp xp y.1),.ob (RDO H' xp y.2),.mem H']
theorem YX(H:Heap)(lp xp:Nat)(g:PLog)(d:DS){M N:Nat}(hg:GOk g M)(hM:M≤1000000000000)(hok:d.Ok N)(hN:N≤140737480000000)(hops:d.ops≤90000):
  SP 251 [.pointer (some ⟨lp,0,none⟩)] [.ob (RLogO lp xp g),.ob (RDO H xp d),.mem H] (RAns lp xp H (.int .i64 (mendG g d).2) (mendG g d).1):=by
 intro W F w hS;apply vc251;unfold Vc251;(try simp only[app]at hS)
 have hR:=hok.rlen
 obtain⟨sv,xs,hx,hS⟩:=RLogO.iff.1 hS
 obtain⟨hxo,hl,_,_⟩:=hg.ok.xs hx
 refine Gp ?_
 cases ht:g.torn with
 | none=>
  have hm:mendG g d=((g,d),0):=by unfold mendG;rw[ht]
  rw[hm]
  refine zc (λ_=>?_) (λh=>absurd (show tornI none<0 by decide) h)
  have hS:=RLogO.put g hS hx Xp
  exact⟨_,⟨rfl,H,Heap.le_refl H,rfl⟩,SL.into hS Xi⟩
 | some x=>
  obtain⟨f0,f1,hold,hnew⟩:=hg.torn x ht
  have hm:mendG g d=(({g with torn:=if (if x.fresh=true then d.remove x.file else d.cut x.file x.had).2=0 then none else some x},(if x.fresh=true then d.remove x.file else d.cut x.file x.had).1),(if x.fresh=true then d.remove x.file else d.cut x.file x.had).2):=by unfold mendG;rw[ht]
  have hti:tornI (some x)=x.file:=rfl
  rw[ht]at hS
  rw[hti]at hS ⊢
  refine zc (λh=>by omega) (λ_=>?_)
  refine Cg (z6 lp xp sv xs g.base g.size x.file (by omega)) λw hS=>?_
  have hlast:∀hj:xs.length-1<xs.length,g.segs.getLast?=some xs[xs.length-1].pl:=λhj=>by
   rw[← hx,List.getLast?_map,List.getLast?_eq_getElem?,List.getElem?_eq_getElem hj];rfl
  generalize hz:(if x.fresh=true then d.remove x.file else d.cut x.file x.had)=z at hm
  have hfr:∀{w:World},x.fresh=true→SL W (.ob (RDO H xp d)::.mem H::.pt lp (rlcells sv xp g.base g.size x.file) 254::RowR sv xs::.ob (zg XSegO xs)::F) w→HCl 174 [.pointer (some ⟨xp,0,none⟩),.int .i64 x.file] w λv w'=>[v]=[.int .i64 z.2]∧∃H',H.le H'∧SL W (.pt lp (rlcells sv xp g.base g.size x.file) 254::RowR sv xs::.ob (zg XSegO xs)::.ob (RDO H' xp z.1)::.mem H'::F) w':=λhf hS=>by
   (refine Cc (Zl H xp d N hok (by omega) (by omega) x.file) ?_;clear hS)
   rintro v post ⟨rfl,rfl⟩ w hS
   rw[if_pos hf]at hz
   subst hz
   (try simp only[app]at hS)
   exact⟨rfl,H,Heap.le_refl H,SL.into hS Xi⟩
  refine⟨λus w=>us=[.int .i64 z.2]∧∃H',H.le H'∧SL W (.pt lp (rlcells sv xp g.base g.size x.file) 254::RowR sv xs::.ob (zg XSegO xs)::.ob (RDO H' xp z.1)::.mem H'::F) w,?_,?_⟩
  ·refine Gn λw hS=>?_
   refine zc (λh0=>?_) (λh0=>?_)
   ·have hj:xs.length-1<xs.length:=by omega
    have hl1:=hlast hj
    rw[show (xs.length:Int)-1=((xs.length-1:Nat):Int) by omega]
    refine Gp ?_
    refine yi hS Xh hj (i:=0) rfl ?_
    refine Gp ?_
    refine zc (λh1=>?_) (λh1=>?_)
    ·have hf:x.fresh=false:=by
      cases hb:x.fresh with
      | false=>rfl
      | true=>exact absurd h1 (hnew hb _ hl1)
     obtain⟨s,h2,h3,h4⟩:=hold hf
     rw[hl1]at h2
     cases h2
     refine Gn λw hS=>?_
     refine yi hS Xh hj (i:=2) rfl ?_
     (refine Cc (Yi H xp d N hok (by omega) (by omega) (by omega) x.file xs[xs.length-1].size) ?_;clear hS)
     rintro v post ⟨rfl,H',hh,rfl⟩ w hS
     (try simp only[app]at hS)
     rw[if_neg (by rw[hf];decide),h4]at hz
     have hz:d.cut x.file (xs[xs.length-1].size:Nat)=z:=hz
     rw[hz]at hS ⊢
     exact⟨rfl,H',hh,SL.into hS Xi⟩
    ·have hf:x.fresh=true:=by
      cases hb:x.fresh with
      | true=>rfl
      | false=>
       obtain⟨s,h2,h3,h4⟩:=hold hb
       rw[hl1]at h2
       cases h2
       exact absurd h3 h1
     refine Gn λw hS=>?_
     exact hfr hf (SL.into hS Xi)
   ·have hf:x.fresh=true:=by
     cases hb:x.fresh with
     | true=>rfl
     | false=>
      obtain⟨s,h2,_⟩:=hold hb
      have:xs=[]:=List.eq_nil_of_length_eq_zero (by omega)
      rw[← hx,this]at h2
      cases h2
    refine Gn λw hS=>?_
    exact hfr hf (SL.into hS Xi)
  ·clear hS
   rintro v3 w ⟨hus,H',hh,hS⟩
   cases hus
   rw[hm]
   refine Gp ?_
   refine zc (λhe=>?_) (λhe=>?_)
   ·rw[if_pos he]
    refine Gn λw hS=>?_
    have hS:=RLogO.putN none hS hx Xp
    exact⟨_,⟨rfl,H',hh,rfl⟩,SL.into hS Xi⟩
   ·rw[if_neg he]
    have hS:=RLogO.putN (some x) hS hx Xp
    exact⟨_,⟨rfl,H',hh,rfl⟩,SL.into hS Xi⟩
def apA(x:PWr)(y:(PLog × DS) × Int):(PLog × DS) × Int:=if y.2=0 then ((y.1.1,(y.1.2.append x.file x.b).1),(y.1.2.append x.file x.b).2) else y
def apS(x:PWr)(y:(PLog × DS) × Int):(PLog × DS) × Int:=if y.2=0 then ((y.1.1,(y.1.2.sync x.file).1),(y.1.2.sync x.file).2) else y
theorem appendG_st{g:PLog}{d:DS}{p:List UInt8}{x:PWr}(h:planG g d.off p= .ok x):appendG g d p=(let y:=apS x (apA x (mendG g d));if y.2=0 then (({y.1.1 with segs:=putG g.segs x p},y.1.2),(headG (putG g.segs x p),0)) else (y.1,(0,y.2))):=by
 have hs:=(mendG_same g d).1
 by_cases hm:(mendG g d).2=0
 ·have e1:apA x (mendG g d)=(((mendG g d).1.1,((mendG g d).1.2.append x.file x.b).1),((mendG g d).1.2.append x.file x.b).2):=if_pos hm
  by_cases ha:((mendG g d).1.2.append x.file x.b).2=0
  ·have e2:apS x (apA x (mendG g d))=(((mendG g d).1.1,(((mendG g d).1.2.append x.file x.b).1.sync x.file).1),(((mendG g d).1.2.append x.file x.b).1.sync x.file).2):=by rw[e1];exact if_pos ha
   simp only[e2]
   by_cases hk:(((mendG g d).1.2.append x.file x.b).1.sync x.file).2=0
   ·rw[if_pos hk,appendG_k h hm ha hk]
   ·rw[if_neg hk,appendG_s h hm ha hk]
  ·have e2:apS x (apA x (mendG g d))=(((mendG g d).1.1,((mendG g d).1.2.append x.file x.b).1),((mendG g d).1.2.append x.file x.b).2):=by rw[e1];exact if_neg ha
   simp only[e2]
   rw[if_neg ha,appendG_a h hm ha]
 ·have e1:apA x (mendG g d)=mendG g d:=if_neg hm
  have e2:apS x (apA x (mendG g d))=mendG g d:=by rw[e1];exact if_neg hm
  simp only[e2]
  rw[if_neg hm,appendG_m h hm]
theorem Z6(H:Heap)(lp xp:Nat)(g:PLog)(d:DS)(v:Value)(p:List UInt8)(hv:RdSl H 1 v p.length (p.map u8c))(hp:p.length≤140737488355328){M N:Nat}(hg:GOk g M)(hM:M≤100000000000)(hok:d.Ok N)(hN:N≤140737480000000)(hops:d.ops≤90000):
  SP 184 [.pointer (some ⟨lp,0,none⟩),v] [.ob (RLogO lp xp g),.ob (RDO H xp d),.mem H] (RAns lp xp H (.tuple #[.int .i64 (appendG g d p).2.1,.int .i64 (appendG g d p).2.2]) (appendG g d p).1):=by
 intro W F w hS;apply vc184;unfold Vc184;(try simp only[app]at hS)
 refine zm hv ?_
 refine Gp ?_
 refine zc (λhbig=>?_) (λhbig=>?_)
 ·have hpl:planG g d.off p= .error 1:=by unfold planG;rw[if_pos (by omega)]
  rw[appendG_er hpl]
  exact⟨_,⟨rfl,H,Heap.le_refl H,rfl⟩,SL.into hS Xi⟩
 (refine Cc (qx H lp xp g d v p hv (by omega) hg (by omega)) ?_;clear hS)
 rintro r post hQ w hS
 cases hpl:planG g d.off p with
 | error e=>
  rw[hpl]at hQ
  obtain⟨hz,rfl,rfl⟩:=hQ
  rw[appendG_er hpl]
  (try simp only[app]at hS);refine Gp ?_
  refine⟨λvs w=>vs=[.int .i64 e]∧SL W (.ob (RLogO lp xp g)::.ob (RDO H xp d)::.mem H::F) w,?_,?_⟩
  ·refine Gp ?_
   exact zc (λh=>absurd h hz) (λ_=>⟨rfl,SL.into hS Xi⟩)
  clear hS
  rintro v7 w ⟨hvs,hS⟩
  cases hvs
  refine⟨λvs w=>vs=[.int .i64 e]∧SL W (.ob (RLogO lp xp g)::.ob (RDO H xp d)::.mem H::F) w,?_,?_⟩
  ·refine Gp ?_
   exact zc (λh=>absurd h hz) (λ_=>⟨rfl,hS⟩)
  clear hS
  rintro v7 w ⟨hvs,hS⟩
  cases hvs
  refine⟨λvs w=>vs=[.int .i64 e]∧SL W (.ob (RLogO lp xp g)::.ob (RDO H xp d)::.mem H::F) w,?_,?_⟩
  ·refine Gp ?_
   exact zc (λh=>absurd h hz) (λ_=>⟨rfl,hS⟩)
  clear hS
  rintro v7 w ⟨hvs,hS⟩
  cases hvs
  refine Gp ?_
  refine zc (λ_=>?_) (λh=>absurd hz h)
  exact⟨_,⟨rfl,H,Heap.le_refl H,rfl⟩,SL.into hS Xi⟩
 | ok x=>
  rw[hpl]at hQ
  obtain⟨bv,rfl,rfl⟩:=hQ
  have hw:=planG_wr hg.ok hpl
  have hmok:=mendG_ok (g:=g) hok
  have hmg:=mendG_gok (d:=d) hg.ok
  have hms:=mendG_same g d
  have hmo:=ops_mend g d
  have hbl:=hw.bl
  have hpp:=hw.pl
  rw[appendG_st hpl]
  (try simp only[app]at hS);refine Gp ?_
  obtain⟨H1,h01,hb,hS⟩:=zz (H:=H) (v:=bv) (n:=x.b.length) (sz:=1) (t:=5) (cells:=x.b.map u8c) hS Xp
  have hS:=RDO.monoP h01 hS Xr
  have hv1:=hv.mono h01
  refine⟨λus w=>us=[.int .i64 (mendG g d).2]∧∃H',H1.le H'∧SL W (.ob (RLogO lp xp (mendG g d).1.1)::.ob (RDO H' xp (mendG g d).1.2)::.mem H'::F) w,?_,?_⟩
  ·refine Gp ?_
   refine zc (λ_=>?_) (λh=>absurd rfl h)
   (refine Cc (YX H1 lp xp g d hg (by omega) hok hN hops) ?_;clear hS)
   rintro v post ⟨rfl,H',hh,rfl⟩ w hS
   (try simp only[app]at hS)
   exact⟨rfl,H',hh,SL.into hS Xi⟩
  clear hS
  rintro v9 w ⟨hus,H2,h12,hS⟩
  cases hus
  have hb2:=hb.mono h12
  have hv2:=hv1.mono h12
  have h02:=Heap.le_trans h01 h12
  clear h12 hb hv1 h01
  generalize mendG g d=m at *
  have hA:(apA x m).1.1=m.1.1∧(apA x m).1.2.Ok (N+x.b.length)∧(apA x m).1.2.ops≤d.ops+2:=by
   unfold apA
   split
   ·exact⟨rfl,hmok.append _ _,by have:=ops_append m.1.2 x.file x.b;simp only;omega⟩
   ·exact⟨rfl,hmok.mono (by omega),by omega⟩
  have hmR:=hmok.rlen
  refine⟨λus w=>us=[.int .i64 (apA x m).2]∧∃H',H2.le H'∧SL W (.ob (RLogO lp xp m.1.1)::.ob (RDO H' xp (apA x m).1.2)::.mem H'::F) w,?_,?_⟩
  ·unfold apA
   refine Gp ?_
   refine zc (λh0=>?_) (λh0=>?_)
   ·rw[if_pos h0]
    obtain⟨sv,xs,hx,hS⟩:=RLogO.iff.1 (Has.front (c:=.ob (RLogO lp xp m.1.1)) hS Xr)
    refine Gp ?_
    (refine Cc (Yu H2 xp m.1.2 N hmok (by omega) (by omega) x.file bv x.b hb2 (by omega)) ?_;clear hS)
    rintro v post ⟨rfl,H',hh,rfl⟩ w hS
    (try simp only[app]at hS)
    have hS:=RLogO.put m.1.1 hS hx Xp
    exact⟨rfl,H',hh,SL.into hS Xi⟩
   ·rw[if_neg h0]
    exact⟨rfl,H2,Heap.le_refl H2,SL.into hS Xi⟩
  clear hS
  rintro v9 w ⟨hus,H3,h23,hS⟩
  cases hus
  have hb3:=hb2.mono h23
  have hv3:=hv2.mono h23
  have h03:=Heap.le_trans h02 h23
  clear h23 hb2 hv2 h02
  obtain⟨hA1,hA2,hA3⟩:=hA
  generalize apA x m=a at *
  have hB:(apS x a).1.1=m.1.1:=by
   unfold apS
   split
   ·exact hA1
   ·exact hA1
  have haR:=hA2.rlen
  refine⟨λus w=>us=[.int .i64 (apS x a).2]∧SL W (.ob (RLogO lp xp m.1.1)::.ob (RDO H3 xp (apS x a).1.2)::.mem H3::F) w,?_,?_⟩
  ·unfold apS
   refine Gp ?_
   refine zc (λh0=>?_) (λh0=>?_)
   ·rw[if_pos h0]
    obtain⟨sv,xs,hx,hS⟩:=RLogO.iff.1 (Has.front (c:=.ob (RLogO lp xp m.1.1)) hS Xr)
    refine Gp ?_
    (refine Cc (qB H3 xp a.1.2 _ hA2 (by omega) (by omega) x.file) ?_;clear hS)
    rintro v post ⟨rfl,rfl⟩ w hS
    (try simp only[app]at hS)
    have hS:=RLogO.put m.1.1 hS hx Xp
    exact⟨rfl,SL.into hS Xi⟩
   ·rw[if_neg h0]
    exact⟨rfl,SL.into hS Xi⟩
  clear hS
  rintro v9 w ⟨hus,hS⟩
  cases hus
  simp only
  generalize apS x a=y at *
  obtain⟨⟨y1,d3⟩,e⟩:=y
  simp only at *
  subst hB
  refine Gp ?_
  refine zc (λh0=>?_) (λh0=>?_)
  ·rw[if_neg h0]
   exact⟨_,⟨rfl,H3,h03,rfl⟩,SL.into hS Xi⟩
  have h0:e=0:=Classical.not_not.1 h0
  subst h0
  rw[if_pos rfl]
  obtain⟨sv,xs,hx,hS⟩:=RLogO.iff.1 (Has.front (c:=.ob (RLogO lp xp m.1.1)) hS Xr)
  obtain⟨hxo,hxl,_,_⟩:=hmg.xs hx
  have hhead:headG (xs.map XSeg.pl)=headG g.segs:=by rw[hx,hms.1]
  have hgd:=hw.hd
  have hge:=headG_ge hg.ok.segs
  have hmok2:=moreG_ok hg.ok hw
  refine⟨λus w=>us=[]∧∃sv' xs',xs'.map XSeg.pl=moreG g.segs x∧xs'.length≤xs.length+1∧SL W (.pt lp (rlcells sv' xp m.1.1.base m.1.1.size (tornI m.1.1.torn)) 254::RowR sv' xs'::.ob (zg XSegO xs')::.ob (RDO H3 xp d3)::.mem H3::F) w,?_,?_⟩
  ·unfold moreG
   refine ZH (λhf=>?_) (λhf=>?_)
   ·rw[if_pos hf]
    refine Gn λw hS=>?_
    refine Cg (yV lp xp sv xs m.1.1.base m.1.1.size (tornI m.1.1.torn) hxo (by omega) (by omega)) λw hS=>?_;refine Gm λb w hS=>?_
    rw[hhead]at hS
    refine y4 (m:=1) (cs:=[.int .i64 x.file,.int .i64 (headG g.segs+1),.int .i64 0,.slice none 0 0]) hS Xr (src_pt0 hS .hd rfl) rfl rfl (by simp[Value.oneCell']) (by omega) (by omega) λsv' w hS=>?_
    have hone:=OwnSo.one hS (v:=sv') .hd
    refine Gn λw hS=>?_
    have hS:=OwnSo.nil0 (a:=none) (t:=62) (sz:=1) hS
    have hS:=zg.nil (A:=BEntO) hS
    have hS:=(XSegO.iff (x:=⟨x.file,headG g.segs+1,0,[],none,0⟩)).2 (hS.perm (.swap _ _ _))
    have hS:=zg.snocP (A:=XSegO) (xs:=xs) ⟨x.file,headG g.segs+1,0,[],none,0⟩ hS Xp
    have e1:xs.length+1=(xs++[(⟨x.file,headG g.segs+1,0,[],none,0⟩:XSeg)]).length:=by simp
    have e2:(xs.map xcells).flatten++[.int .i64 x.file,.int .i64 (headG g.segs+1),.int .i64 0,.slice none 0 0]=((xs++[(⟨x.file,headG g.segs+1,0,[],none,0⟩:XSeg)]).map xcells).flatten:=by simp[xcells,XSeg.lv]
    rw[e1,e2]at hS
    refine⟨sv',xs++[⟨x.file,headG g.segs+1,0,[],none,0⟩],?_,by simp,SL.into hS Xi⟩
    rw[List.map_append,hx,hms.1];rfl
   ·rw[if_neg (by rw[hf];decide)]
    exact⟨rfl,sv,xs,by rw[hx,hms.1],by omega,SL.into hS Xi⟩
  clear hS hxo hhead
  rintro w ⟨-,sv',xs',hx',hl',hS⟩
  obtain⟨A,s,hA⟩:=moreG_last hw
  rw[putG_eq _ _ _ hA]
  have hle:0<xs'.length:=by
   have:=congrArg List.length hx'
   rw[hA]at this;simp at this;omega
  have hj:xs'.length-1<xs'.length:=by omega
  have hsp:xs'=xs'.take (xs'.length-1)++[xs'[xs'.length-1]]:=by
   conv=>lhs;rw[← List.take_append_drop (xs'.length-1) xs']
   rw[List.drop_eq_getElem_cons hj,List.drop_eq_nil_of_le (by omega)]
  have hAs:A=(xs'.take (xs'.length-1)).map XSeg.pl∧s=(xs'[xs'.length-1]).pl:=by
   rw[hsp,List.map_append]at hx'
   rw[hA]at hx'
   have:=List.append_inj' hx' rfl
   exact⟨this.1.symm,by simpa using this.2.symm⟩
  obtain⟨hA1',hs1⟩:=hAs
  subst hA1' hs1
  have hso:=hmok2 (xs'[xs'.length-1]).pl (by rw[hA];simp)
  have z1:=hso.sz
  have z2:=hso.ln
  refine Cg (z6 lp xp sv' xs' m.1.1.base m.1.1.size (tornI m.1.1.torn) (by omega)) λw hS=>?_
  have hS:=zg.takeP (A:=XSegO) (xs:=xs') hS (List.getElem?_eq_getElem hj) Xr
  have hS:=XSegO.iff.1 hS
  obtain⟨rb,ro,rc,AA,BB,rfl,hAA,hS,hback⟩:=RowX.at (Has.front (c:=RowR sv' xs') hS Xr) hj
  generalize hx0:xs'[xs'.length-1]=x0 at *
  have z1:x0.size≤M:=z1
  have z2:x0.es.length≤M:=by simpa [XSeg.pl,byts_len] using z2
  rw[show ((xs'.length:Nat):Int)-1=((xs'.length-1:Nat):Int) by omega]
  refine zG hj ?_
  rw[← hAA]
  refine Gp ?_
  refine yb hS Xh (pt_get (i:=2) (u:=.int .i64 x0.size) rfl) ?_
  refine zm hb3 ?_
  refine Gp ?_
  refine zG hj ?_
  rw[← hAA]
  refine Gp ?_
  refine ZZ hS Xu (pt_get (i:=2) (u:=.int .i64 x0.size) rfl) rfl λw hS=>?_
  rw[pt_set (by rw[xcells_len];decide)]at hS
  have e5:(xcells x0).set 2 (.int .i64 ((x0.size+x.b.length:Nat):Int))=[.int .i64 x0.file,.int .i64 x0.first,.int .i64 ((x0.size+x.b.length:Nat):Int),x0.lv]:=rfl
  rw[e5]at hS
  refine Gn λw hS=>?_
  refine zG hj ?_
  rw[← hAA]
  refine Gp ?_
  refine yb hS Xh (pt_get (i:=3) (u:=x0.lv) rfl) ?_
  refine Gm λb w hS=>?_
  refine yb hS Xh (pt_get (i:=3) (u:=x0.lv) rfl) ⟨rfl,?_⟩
  have hS:=OwnSl.full (n:=0) (sz:=1) (t:=5) (cells:=[]) rfl hS
  refine zw (n:=0) (m:=p.length) hS .hd (src_rd hS Xh hv3) (by simp) rfl (u8c_one _) (by omega) (by omega) λu w hS=>?_
  rw[Nat.zero_add,List.nil_append]at hS
  have hu:=hS.ownOne .hd
  obtain⟨ua,uc,eu,_⟩:=OwnSl.at hS .hd
  subst eu
  refine Gp ?_
  refine yb hS Xh (pt_get (i:=3) (u:=x0.lv) rfl) ⟨rfl,?_⟩
  refine Gm λb w hS=>?_
  refine yb hS Xh (pt_get (i:=3) (u:=x0.lv) rfl) ⟨rfl,?_⟩
  refine y4 (t:=62) (sz:=1) (n:=x0.es.length) (cells:=vals x0.es) (m:=1) (cs:=[.slice ua p.length uc]) hS Xr (src_pt0 hS .hd rfl) rfl rfl (by simp[Value.oneCell']) (by omega) (by omega) λv' w hS=>?_
  have hone:=OwnSo.one hS (v:=v') .hd
  obtain⟨a',c',ev,_⟩:=OwnSo.at hS (v:=v') .hd
  subst ev
  refine Gp ?_
  refine zG hj ?_
  rw[← hAA]
  refine Gp ?_
  refine ZZ hS Xu (pt_get (i:=3) (u:=x0.lv) rfl) hone λw hS=>?_
  rw[pt_set (by show 3<4;decide)]at hS
  have e6:([.int .i64 x0.file,.int .i64 x0.first,.int .i64 ((x0.size+x.b.length:Nat):Int),x0.lv]:List Value).set 3 (.slice a' (x0.es.length+1) c')=xcells ⟨x0.file,x0.first,x0.size+x.b.length,x0.es++[(.slice ua p.length uc,p)],a',c'⟩:=by
   simp[xcells,XSeg.lv]
  rw[e6]at hS
  generalize hy:(⟨x0.file,x0.first,x0.size+x.b.length,x0.es++[(.slice ua p.length uc,p)],a',c'⟩:XSeg)=y at *
  have hx2:(xs'.set (xs'.length-1) y).map XSeg.pl=(xs'.take (xs'.length-1)).map XSeg.pl++[addE x0.pl x.b.length p]:=by
   rw[List.set_eq_take_append_cons_drop,if_pos hj,List.drop_eq_nil_of_le (by omega),List.map_append]
   congr 1
   simp[← hy,XSeg.pl,addE,byts]
  have hpk:=(putG_ok hg.ok hw).1
  rw[putG_eq _ _ _ hA,← hx2]at hpk
  have hS:=hback y w _ (Has.front (c:=.pt rb (AA++(xcells y++BB)) 259) hS Xr)
  have hS:SL W (.ob (BEntO (.slice ua p.length uc,p))::_) _:=Has.front (c:=.ob (OwnSl (.slice ua p.length uc) 5 1 p.length (p.map u8c))) hS Xr
  have hS:=zg.snocP (A:=BEntO) (xs:=x0.es) (.slice ua p.length uc,p) hS Xp
  have e7:x0.es.length+1=y.es.length:=by simp[← hy]
  have e8:vals x0.es++[.slice ua p.length uc]=vals y.es:=by simp[← hy,vals]
  have e9:x0.es++[(.slice ua p.length uc,p)]=y.es:=by simp[← hy]
  have e10:(.slice a' (x0.es.length+1) c':Value)=y.lv:=by simp[← hy,XSeg.lv]
  have hS:=Has.front (c:=.ob (OwnSo (.slice a' (x0.es.length+1) c') 62 1 (x0.es.length+1) (vals x0.es++[.slice ua p.length uc]))) hS Xr
  rw[e10,e7,e8,e9]at hS
  have hS:=XSegO.put y hS Xp
  have hS:=zg.putP (A:=XSegO) (xs:=xs') (t:=xs'.length-1) y hS hj Xp
  refine Cg (yV lp xp (.slice (some ⟨rb,ro,none⟩) xs'.length rc) (xs'.set (xs'.length-1) y) m.1.1.base m.1.1.size (tornI m.1.1.torn) hpk (by rw[List.length_set];omega) (by omega)) λw hS=>?_
  rw[hx2]
  have hS:=RLogO.putN m.1.1.torn (L:=(xs'.take (xs'.length-1)).map XSeg.pl++[addE x0.pl x.b.length p]) hS hx2 Xp
  exact⟨_,⟨rfl,H3,h03,rfl⟩,SL.into hS Xi⟩
theorem readG_len:∀{L:List PSeg} {n:Int} {b:List UInt8} {N:Nat},(∀s∈L,SegOk s N)→readG L n=some b→b.length≤1048576
 | [],_,_,_,_,h=>by cases h
 | s::r,n,b,N,hs,h=>by
  unfold readG at h
  split at h
  ·exact (hs s (.head _)).bl b (List.mem_of_getElem? h)
  ·exact readG_len (λx hx=>hs x (.tail _ hx)) h
def RRdQ(H:Heap)(xp:Nat)(s:DS)(f:Int)(v:Value)(post:List Chunk):Prop:=match getK PF.id s.R f with
 | none=>v= .tuple #[.slice none 0 0,.bool false]∧post=[.ob (RDO H xp s),.mem H]
 | some x=>∃u,v= .tuple #[u,.bool true]∧post=[.ob (OwnSl u 5 1 x.b.length (x.b.map u8c)),.ob (RDO H xp s),.mem H]
theorem YY(H:Heap)(xp:Nat)(s:DS)(N:Nat)(hok:s.Ok N)(hN:N≤140737488355328)(f:Int):
  SP 177 [ptrA xp,.int .i64 f] [.ob (RDO H xp s),.mem H] (RRdQ H xp s f):=by
 intro W F w hS;apply vc177;unfold Vc177;(try simp only[app]at hS)
 have hR:=hok.rlen
 obtain⟨fv,ys,⟨he,hrb⟩,hS⟩:=RDO.iff.1 hS
 have hyl:ys.length=s.R.length:=by rw[← he,List.length_map]
 have hgm:getK PF.id s.R f=(getK idR ys f).map Prod.fst:=by rw[← he];exact getK_map idR_fst ys f
 refine Cg (y0 xp s fv ys (by rw[he];exact hok.sorted) (by omega) f) λw hS=>?_
 cases hk:isK idR ys f with
 | false=>
  have hg:getK PF.id s.R f=none:=by rw[hgm];unfold getK;rw[if_neg (by rw[hk];decide)];rfl
  refine zu ?_
  have hS:=RDO.put s hS ⟨he,hrb⟩ Xp
  exact⟨[.ob (RDO H xp s),.mem H],by unfold RRdQ;rw[hg];exact⟨rfl,rfl⟩,SL.into hS Xi⟩
 | true=>
  obtain⟨h1,h2⟩:=isK_true hk
  have hx:ys[cntK idR ys f]?=some ys[cntK idR ys f]:=List.getElem?_eq_getElem h1
  have hg:getK PF.id s.R f=some ys[cntK idR ys f].1:=by rw[hgm];unfold getK;rw[if_pos hk,hx];rfl
  have hC:=hrb _ (List.getElem_mem h1)
  have hlen:=hok.len _ (getK_mem hg).1
  generalize cntK idR ys f=i at *
  generalize ys[i]=y at *
  refine zo ?_
  refine zx hS (cells:=[]) rfl ?_
  clear hS;intro b1 w hS
  refine Gp ?_
  refine zA (i:=2) hS (v:=fv) (t:=186) Xh encRF_len hx h1 (u:=y.2) rfl ?_
  have hS:=RDO.put s hS ⟨he,hrb⟩ (H:=H) (xp:=xp) Xp
  have hS:=OwnSl.full (n:=0) (sz:=1) (b:=b1) (t:=5) (cells:=[]) rfl (SL.into hS (t:=.pt b1 [] 5::.ob (RDO H xp s)::.mem H::F) Xi)
  refine zw (n:=0) (m:=y.1.b.length) hS Xr (src_rd hS Xh hC) (by simp) rfl (u8c_one _) (by omega) (by omega) ?_
  clear hS;intro u w hS
  rw[List.nil_append,Nat.zero_add]at hS
  exact⟨[.ob (OwnSl u 5 1 y.1.b.length (y.1.b.map u8c)),.ob (RDO H xp s),.mem H],by unfold RRdQ;rw[hg];exact⟨u,rfl,rfl⟩,SL.into hS Xi⟩
abbrev rscells(xp lp rp:Nat)(newest image:Int):List Value:=[ptrA xp,ptrA lp,ptrA rp,.int .i64 newest,.int .i64 image]
def RSrcO(kp xp lp rp:Nat)(H:Heap)(k:PSrc):zB:=zW True [.pt kp (rscells xp lp rp k.newest k.image) 171,.ob (RSetO H rp k.ts),.ob (RLogO lp xp k.g)]
section
variable {W w:World} {l F:List Chunk} {kp xp lp rp:Nat} {H H':Heap}
theorem RSrcO.iff{k:PSrc}:SL W (.ob (RSrcO kp xp lp rp H k)::l) w↔SL W (.pt kp (rscells xp lp rp k.newest k.image) 171::.ob (RSetO H rp k.ts)::.ob (RLogO lp xp k.g)::l) w:=by
 unfold RSrcO
 simp only[SL.fact,true_and,List.cons_append,List.nil_append]
theorem RSrcO.put(k:PSrc)(hS:SL W l w)(p:Pick [.pt kp (rscells xp lp rp k.newest k.image) 171,.ob (RSetO H rp k.ts),.ob (RLogO lp xp k.g)] l F):SL W (.ob (RSrcO kp xp lp rp H k)::F) w:=RSrcO.iff.2 (hS.pick p)
theorem RSrcO.putN{g:PLog}{d:DS}{ts:Tabs}{newest image:Int}(hS:SL W l w)(p:Pick [.pt kp (rscells xp lp rp newest image) 171,.ob (RSetO H rp ts),.ob (RLogO lp xp g)] l F):SL W (.ob (RSrcO kp xp lp rp H ⟨g,d,ts,newest,image⟩)::F) w:=RSrcO.iff.2 (hS.pick p)
theorem RSrcO.monoP{k:PSrc}(hh:H.le H')(hS:SL W l w)(r:Rem (.ob (RSrcO kp xp lp rp H k)) l F):SL W (.ob (RSrcO kp xp lp rp H' k)::F) w:=by
 have h:=RSrcO.iff.1 (hS.perm r.perm)
 have h:=RSetO.monoP hh h (.tl .hd)
 exact RSrcO.iff.2 (h.perm (.swap _ _ _))
end
def RReadSQ(kp xp lp rp:Nat)(k:PSrc)(H:Heap)(lsn:Int)(r:Value)(post:List Chunk):Prop:=match k.readS lsn with
 | .error e=>e≠0∧∃H',H.le H'∧r= .tuple #[agg (encTx zTx),.int .i64 e]∧post=[.ob (RSrcO kp xp lp rp H' k),.mem H']
 | .ok t=>∃x H',H.le H'∧r= .tuple #[agg (encTx x),.int .i64 0]∧TxIs H' x t∧post=[.ob (RSrcO kp xp lp rp H' k),.mem H']
section
variable (kp xp lp rp:Nat) (k:PSrc) {N:Nat} (hg:GOk k.g N) (hN:N≤1000000000)
include hg hN
theorem ZD(H:Heap)(lsn:Int)(hl : -9000000000000000000≤lsn∧lsn≤9000000000000000000):SP 88 [ptrA kp,.int .i64 lsn] [.ob (RSrcO kp xp lp rp H k),.mem H] (RReadSQ kp xp lp rp k H lsn):=by
 intro W F w hS;apply vc88;unfold Vc88;(try simp only[app]at hS)
 refine Gb λzb w hS=>?_
 have hS:=RSrcO.iff.1 (SL.into hS (t:=.ob (RSrcO kp xp lp rp H k)::.pt zb [.int .i64 0,.int .i64 0,.slice none 0 0,.slice none 0 0,.int .i64 0] 39::.mem H::F) Xi)
 refine Gp ?_
 (refine Cc (Y7 lp xp k.g lsn hg (by omega) hl) ?_;clear hS)
 rintro r post hq w hS
 unfold ReadLQ at hq
 cases hr:readG k.g.segs lsn with
 | none=>
  rw[hr]at hq
  obtain⟨rfl,rfl⟩:=hq
  have he:k.readS lsn= .error 5:=by unfold PSrc.readS;rw[hr]
  (try simp only[app]at hS)
  have hS:=RSrcO.put k hS Xp
  refine Gp ?_
  refine zc (λ_=>?_) (λh=>absurd (by decide) h)
  refine Gn λw hS=>?_
  exact⟨[.ob (RSrcO kp xp lp rp H k),.mem H],by unfold RReadSQ;rw[he];exact⟨by decide,H,Heap.le_refl H,rfl,rfl⟩,SL.into hS Xi⟩
 | some bs=>
  rw[hr]at hq
  obtain⟨u,rfl,rfl⟩:=hq
  have he:k.readS lsn=decTxn bs:=by unfold PSrc.readS;rw[hr]
  have hbl:=readG_len hg.ok.segs hr
  (try simp only[app]at hS)
  have hS:=RSrcO.put k hS Xp
  refine Gp ?_
  refine zc (λh=>absurd rfl h) (λ_=>?_)
  (refine Cc (qC (.ob (OwnSl u 5 1 bs.length (bs.map u8c))) H u bs Rdb.own (by omega)) ?_;clear hS)
  rintro r post hq w hS
  unfold DecTQ at hq
  cases hd:decTxn bs with
  | error e=>
   rw[hd]at hq
   obtain⟨hne,H',hh,rfl,rfl⟩:=hq
   (try simp only[app]at hS)
   unfold encTx zTx
   refine Gn λw hS=>?_
   have hS:=RSrcO.monoP (k:=k) hh hS Xr
   refine⟨[.ob (RSrcO kp xp lp rp H' k),.mem H'],?_,SL.into hS Xi⟩
   unfold RReadSQ;rw[he,hd];exact⟨hne,H',hh,rfl,rfl⟩
  | ok t=>
   rw[hd]at hq
   obtain⟨x,H',hh,rfl,hx,rfl⟩:=hq
   (try simp only[app]at hS)
   have hc1:=hx.cv.one
   have hc2:=hx.sv.one
   refine Gp ?_
   refine yj (vs:=encTx x) hS Xu rfl rfl (encTx_one1 (lsn:=x.lsn) (kind:=x.kind) (mark:=x.mark) hc1 hc2) λw hS=>?_
   refine yg hS Xh rfl ?_
   have hS:=RSrcO.monoP (k:=k) hh hS Xr
   refine⟨[.ob (RSrcO kp xp lp rp H' k),.mem H'],?_,SL.into hS Xi⟩
   unfold RReadSQ;rw[he,hd];exact⟨x,H',hh,rfl,hx,rfl⟩
end
theorem Yx(kp xp lp rp:Nat)(k:PSrc)(H:Heap)(t key:Int)(n:Nat)(hn:∀C∈k.ts,C.length≤1000000):SP 107 [ptrA kp,.int .i64 t,.int .i64 key,.int .i64 n] [.ob (RSrcO kp xp lp rp H k),.mem H] (λu post=>∃H',H.le H'∧post=[RwO u (k.chunkS t key n),.ob (RSrcO kp xp lp rp H' k),.mem H']):=by
 intro W F w hS;apply vc107;unfold Vc107;(try simp only[app]at hS)
 have hS:=RSrcO.iff.1 hS
 refine Gp ?_
 (refine Cc (ZU H rp k.ts t hn) ?_;clear hS)
 rintro u post rfl w hS
 (try simp only[app]at hS)
 have hS:=RSrcO.put k hS Xp
 obtain⟨H2,h12,hO,hS⟩:=zz (H:=H) (v:=u) hS Xp
 have hS:=RSrcO.monoP (k:=k) h12 hS Xr
 have hl:(tabAt k.ts t).length≤1000000:=by
  unfold tabAt
  split
  ·simp
  ·cases h:k.ts[t.toNat]? with
   | none=>simp
   | some C=>exact hn C (List.mem_of_getElem? h)
 (refine Cc (YI H2 u (tabAt k.ts t) key n hO hl) ?_;clear hS)
 rintro u2 post rfl w hS
 (try simp only[app]at hS)
 exact⟨_,⟨H2,h12,rfl⟩,SL.into (t:=RwO u2 (afterR (tabAt k.ts t) key n)::.ob (RSrcO kp xp lp rp H2 k)::.mem H2::F) hS Xi⟩
theorem Yv(kp xp lp rp:Nat)(d:DS)(H:Heap)(x0:Img)(n:Nat)(hx0:x0.2.2.length=n)(h8:n≤8){N:Nat}(hok:d.Ok N)(hN:N≤140737488355328):
  SP 85 [ptrA kp,.int .i64 n] [.pt kp (rscells xp lp rp x0.1 x0.2.1) 171,.ob (RSetO H rp x0.2.2),.ob (RDO H xp d),.mem H] (λ_ post=>∃H',H.le H'∧post=[.pt kp (rscells xp lp rp (load1 d.R n 1 (load1 d.R n 0 x0)).1 (load1 d.R n 1 (load1 d.R n 0 x0)).2.1) 171,.ob (RSetO H' rp (load1 d.R n 1 (load1 d.R n 0 x0)).2.2),.ob (RDO H' xp d),.mem H']):=by
 intro W F w hS;apply vc85;unfold Vc85;(try simp only[app]at hS)
 refine⟨λus w=>∃(j:Nat) (H':Heap),us=[.int .i64 j]∧j≤2∧H.le H'∧(loadAt d.R n x0 j).2.2.length=n∧SL W (.pt kp (rscells xp lp rp (loadAt d.R n x0 j).1 (loadAt d.R n x0 j).2.1) 171::.ob (RSetO H' rp (loadAt d.R n x0 j).2.2)::.ob (RDO H' xp d)::.mem H'::F) w,
  λus _=>match us with|[.int _ i]=>(2-i).toNat|_=>0,⟨0,H,rfl,by omega,Heap.le_refl H,hx0,hS⟩,?_⟩
 clear hS
 rintro v4 w ⟨j,H',hus,hj,hh,hxl,hS⟩
 cases hus
 refine Gp ?_
 refine zc (λh=>?_) (λh=>?_)
 ·have hj1:j≤1:=by omega
  have hstep:=loadAt_s (R:=d.R) (n:=n) (x:=x0) hj1
  have hfin:∀{w:World} {H2:Heap} (y:Img),load1 d.R n j (loadAt d.R n x0 j)=y→H.le H2→SL W (.pt kp (rscells xp lp rp y.1 y.2.1) 171::.ob (RSetO H2 rp y.2.2)::.ob (RDO H2 xp d)::.mem H2::F) w →
    ∃(j':Nat) (H':Heap),[Value.int .i64 ((j+1:Nat):Int)]=[.int .i64 j']∧j'≤2∧H.le H'∧(loadAt d.R n x0 j').2.2.length=n∧SL W (.pt kp (rscells xp lp rp (loadAt d.R n x0 j').1 (loadAt d.R n x0 j').2.1) 171::.ob (RSetO H' rp (loadAt d.R n x0 j').2.2)::.ob (RDO H' xp d)::.mem H'::F) w:=λy hy h02 hS=>by
   refine⟨j+1,_,rfl,by omega,h02,?_,?_⟩
   ·rw[hstep];exact load1_len hxl
   ·rw[hstep,hy];exact hS
  generalize hx:loadAt d.R n x0 j=x at *
  refine Gp ?_
  (refine Cc (YY H' xp d N hok hN j) ?_;clear hS)
  rintro r post hq w hS
  unfold RRdQ at hq
  cases hgk:getK PF.id d.R (j:Int) with
  | none=>
   have hi:load1 d.R n j x=x:=by unfold load1 imgAt;rw[hgk]
   rw[hgk]at hq
   obtain⟨rfl,rfl⟩:=hq
   (try simp only[app]at hS);refine Gp ?_
   refine zu ?_
   refine Gp ?_
   exact⟨hfin x hi hh (SL.into hS Xi),by dsimp only;omega⟩
  | some pf=>
   rw[hgk]at hq
   obtain⟨u,rfl,rfl⟩:=hq
   have hpl:=hok.len _ (getK_mem hgk).1
   (try simp only[app]at hS);refine Gp ?_
   refine zo ?_
   (refine Cc (Y2 (.ob (OwnSl u 5 1 pf.b.length (pf.b.map u8c))) H' u pf.b Rdb.own (by omega)) ?_;clear hS)
   rintro r post hq w hS
   unfold RDecImQ at hq
   cases hd:decImg pf.b with
   | none=>
    have hi:load1 d.R n j x=x:=by unfold load1 imgAt;rw[hgk];simp only;rw[hd]
    rw[hd]at hq
    obtain⟨rfl,H2,h12,rfl⟩:=hq
    (try simp only[app]at hS)
    have hS:=RSetO.monoP h12 hS (r:=rp) (ts:=x.2.2) Xr
    have hS:=RDO.monoP h12 hS (xp:=xp) (s:=d) Xr
    refine Gp ?_
    refine zc (λh=>absurd h (by decide)) (λ_=>?_)
    refine Gp ?_
    exact⟨hfin x hi (Heap.le_trans hh h12) (SL.into hS Xi),by dsimp only;omega⟩
   | some y=>
    rw[hd]at hq
    obtain⟨v,vs,H2,h12,hR2,rfl,rfl⟩:=hq
    have hmay:=decImg_may hd
    have hy8:=(mayImg_iff.1 hmay).1
    have hia:imgAt d.R n j=if y.2.length=n then some y else none:=by unfold imgAt;rw[hgk];simp only;rw[hd]
    (try simp only[app]at hS)
    have hS:=RSetO.monoP h12 hS (r:=rp) (ts:=x.2.2) Xr
    have hS:=RDO.monoP h12 hS (xp:=xp) (s:=d) Xr
    have h02:=Heap.le_trans hh h12
    refine Gp ?_
    refine zc (λ_=>?_) (λh=>absurd rfl h)
    refine zt hS (v:=v) (t:=53) (sz:=1) (n:=y.2.length) (cells:=vs) Xh ?_
    refine Gp ?_
    refine zc (λhl=>?_) (λhl=>?_)
    ·have hl:y.2.length=n:=by omega
     rw[if_pos hl]at hia
     have hone:=hS.ownOne (v:=v) (t:=53) (sz:=1) (n:=y.2.length) (cells:=vs) Xh
     have hl1:load1 d.R n j x=if 0≤x.1∧y.1≤x.2.1 then x else ((j:Int),y.1,y.2):=by unfold load1;rw[hia]
     obtain⟨sv0,vs0,hR0,hS⟩:=RSetO.iff.1 (SL.into hS (t:=.ob (RSetO H2 rp x.2.2)::.pt kp (rscells xp lp rp x.1 x.2.1) 171::.ob (OwnSl v 53 1 y.2.length vs)::.ob (RDO H2 xp d)::.mem H2::F) Xi)
     refine Gp ?_
     refine zc (λh0=>?_) (λh0=>?_)
     ·rw[if_neg (by omega)]at hl1
      refine Gn λw hS=>?_
      have hS:=RSetO.put (H:=H2) (r:=rp) y.2 hR2 hy8.2.2.2 hS Xp
      exact⟨hfin _ hl1 h02 (SL.into hS Xi),by dsimp only;omega⟩
     ·refine Gp ?_
      refine zc (λh1=>?_) (λh1=>?_)
      ·rw[if_neg (by omega)]at hl1
       refine Gn λw hS=>?_
       have hS:=RSetO.put (H:=H2) (r:=rp) y.2 hR2 hy8.2.2.2 hS Xp
       exact⟨hfin _ hl1 h02 (SL.into hS Xi),by dsimp only;omega⟩
      ·rw[if_pos ⟨by omega,by omega⟩]at hl1
       refine Gp ?_
       have hS:=RSetO.put (H:=H2) (r:=rp) x.2.2 hR0.1 hR0.2 hS Xp
       exact⟨hfin _ hl1 h02 (SL.into hS Xi),by dsimp only;omega⟩
    ·rw[if_neg (by omega)]at hia
     have hi:load1 d.R n j x=x:=by unfold load1;rw[hia]
     refine Gp ?_
     exact⟨hfin x hi h02 (SL.into hS Xi),by dsimp only;omega⟩
 ·obtain rfl:j=2:=by omega
  exact⟨_,⟨H',hh,rfl⟩,hS⟩
end Go.Proofs.YtfenmffiidchcaaGreat
