/-
  Texts of the proof, joined: RLogB, RSinkS, RSinkC, RSinkO, SameC, Law18A, Law18P, Law18W.
-/
import Derived.Test.YtnmhmnnadkclbaaGreatJ9
import Derived.Test.YtnmhmnnadkclbaaGreatQVcG
namespace Go.Proofs.YtnmhmnnadkclbaaGreat
set_option linter.unusedVariables false
set_option maxRecDepth 100000
open Go.RowKit
def apA(x:PWr)(y:(PLog × DS) × Int):(PLog × DS) × Int:=if y.2=0 then ((y.1.1,(y.1.2.append x.file x.b).1),(y.1.2.append x.file x.b).2) else y
def apS(x:PWr)(y:(PLog × DS) × Int):(PLog × DS) × Int:=if y.2=0 then ((y.1.1,(y.1.2.sync x.file).1),(y.1.2.sync x.file).2) else y
theorem appendG_st{g:PLog}{d:DS}{p:List UInt8}{x:PWr}(h:planG g d.off p= .ok x):appendG g d p=(let y:=apS x (apA x (mendG g d));if y.2=0 then (({y.1.1 with segs:=putG g.segs x p},y.1.2),(headG (putG g.segs x p),0)) else (y.1,(0,y.2))):=by
 have hs:=(mendG_same g d).1
 by_cases hm:(mendG g d).2=0
 ·have e1:apA x (mendG g d)=(((mendG g d).1.1,((mendG g d).1.2.append x.file x.b).1),((mendG g d).1.2.append x.file x.b).2):=if_pos hm
  by_cases ha:((mendG g d).1.2.append x.file x.b).2=0
  ·have e2:apS x (apA x (mendG g d))=(((mendG g d).1.1,(((mendG g d).1.2.append x.file x.b).1.sync x.file).1),(((mendG g d).1.2.append x.file x.b).1.sync x.file).2):=by rw[e1];exact if_pos ha
   simp only[e2]
   by_cases hk:(((mendG g d).1.2.append x.file x.b).1.sync x.file).2=0
   ·rw[if_pos hk,appendG_k h hm ha hk]
   ·rw[if_neg hk,appendG_s h hm ha hk]
  ·have e2:apS x (apA x (mendG g d))=(((mendG g d).1.1,((mendG g d).1.2.append x.file x.b).1),((mendG g d).1.2.append x.file x.b).2):=by rw[e1];exact if_neg ha
   simp only[e2]
   rw[if_neg ha,appendG_a h hm ha]
 ·have e1:apA x (mendG g d)=mendG g d:=if_neg hm
  have e2:apS x (apA x (mendG g d))=mendG g d:=by rw[e1];exact if_neg hm
  simp only[e2]
  rw[if_neg hm,appendG_m h hm]
theorem Z4(H:Heap)(lp xp:Nat)(g:PLog)(d:DS)(v:Value)(p:List UInt8)(hv:RdSl H 1 v p.length (p.map u8c))(hp:p.length≤140737488355328){M N:Nat}(hg:GOk g M)(hM:M≤100000000000)(hok:d.Ok N)(hN:N≤140737480000000)(hops:d.ops≤90000):
  SP 20 [.pointer (some ⟨lp,0,none⟩),v] [.ob (RLogO lp xp g),.ob (RDO H xp d),.mem H] (RAns lp xp H (.tuple #[.int .i64 (appendG g d p).2.1,.int .i64 (appendG g d p).2.2]) (appendG g d p).1):=by
 intro W F w hS;apply vc20;unfold Vc20;(try simp only[app]at hS)
 refine zq hv ?_
 repeat first|refine Gp ?_|refine Gw λw hS=>?_|refine Gb λb w hS=>?_
 refine ze (λhbig=>?_) (λhbig=>?_)
 ·have hpl:planG g d.off p= .error 1:=by unfold planG;rw[if_pos (by omega)]
  rw[appendG_er hpl]
  exact⟨_,⟨rfl,H,Heap.le_refl H,rfl⟩,SL.into hS Xi⟩
 (apply zd (ZG H lp xp g d v p hv (by omega) hg (by omega)) hS;exact Xp;clear hS)
 rintro r post hQ w hS
 cases hpl:planG g d.off p with
 | error e=>
  rw[hpl]at hQ
  obtain⟨hz,rfl,rfl⟩:=hQ
  rw[appendG_er hpl]
  (try simp only[app]at hS)
  repeat first|refine Gp ?_|refine Gw λw hS=>?_|refine Gb λb w hS=>?_
  refine⟨λvs w=>vs=[.int .i64 e]∧SL W (.ob (RLogO lp xp g)::.ob (RDO H xp d)::.mem H::F) w,?_,?_⟩
  ·repeat first|refine Gp ?_|refine Gw λw hS=>?_|refine Gb λb w hS=>?_
   exact ze (λh=>absurd h hz) (λ_=>⟨rfl,SL.into hS Xi⟩)
  clear hS
  rintro v7 w ⟨hvs,hS⟩
  cases hvs
  refine⟨λvs w=>vs=[.int .i64 e]∧SL W (.ob (RLogO lp xp g)::.ob (RDO H xp d)::.mem H::F) w,?_,?_⟩
  ·repeat first|refine Gp ?_|refine Gw λw hS=>?_|refine Gb λb w hS=>?_
   exact ze (λh=>absurd h hz) (λ_=>⟨rfl,hS⟩)
  clear hS
  rintro v7 w ⟨hvs,hS⟩
  cases hvs
  refine⟨λvs w=>vs=[.int .i64 e]∧SL W (.ob (RLogO lp xp g)::.ob (RDO H xp d)::.mem H::F) w,?_,?_⟩
  ·repeat first|refine Gp ?_|refine Gw λw hS=>?_|refine Gb λb w hS=>?_
   exact ze (λh=>absurd h hz) (λ_=>⟨rfl,hS⟩)
  clear hS
  rintro v7 w ⟨hvs,hS⟩
  cases hvs
  repeat first|refine Gp ?_|refine Gw λw hS=>?_|refine Gb λb w hS=>?_
  refine ze (λ_=>?_) (λh=>absurd hz h)
  exact⟨_,⟨rfl,H,Heap.le_refl H,rfl⟩,SL.into hS Xi⟩
 | ok x=>
  rw[hpl]at hQ
  obtain⟨bv,rfl,rfl⟩:=hQ
  have hw:=planG_wr hg.ok hpl
  have hmok:=mendG_ok (g:=g) hok
  have hmg:=mendG_gok (d:=d) hg.ok
  have hms:=mendG_same g d
  have hmo:=ops_mend g d
  have hbl:=hw.bl
  have hpp:=hw.pl
  rw[appendG_st hpl]
  (try simp only[app]at hS)
  repeat first|refine Gp ?_|refine Gw λw hS=>?_|refine Gb λb w hS=>?_
  obtain⟨H1,h01,hb,hS⟩:=zz (H:=H) (v:=bv) (n:=x.b.length) (sz:=1) (t:=5) (cells:=x.b.map u8c) hS Xp
  have hS:=RDO.monoP h01 hS Xr
  have hv1:=hv.mono h01
  refine⟨λus w=>us=[.int .i64 (mendG g d).2]∧∃H',H1.le H'∧SL W (.ob (RLogO lp xp (mendG g d).1.1)::.ob (RDO H' xp (mendG g d).1.2)::.mem H'::F) w,?_,?_⟩
  ·repeat first|refine Gp ?_|refine Gw λw hS=>?_|refine Gb λb w hS=>?_
   refine ze (λ_=>?_) (λh=>absurd rfl h)
   (apply zd (ZB H1 lp xp g d hg (by omega) hok hN hops) hS;exact Xp;clear hS)
   rintro v post ⟨rfl,H',hh,rfl⟩ w hS
   (try simp only[app]at hS)
   exact⟨rfl,H',hh,SL.into hS Xi⟩
  clear hS
  rintro v9 w ⟨hus,H2,h12,hS⟩
  cases hus
  have hb2:=hb.mono h12
  have hv2:=hv1.mono h12
  have h02:=Heap.le_trans h01 h12
  clear h12 hb hv1 h01
  generalize mendG g d=m at *
  have hA:(apA x m).1.1=m.1.1∧(apA x m).1.2.Ok (N+x.b.length)∧(apA x m).1.2.ops≤d.ops+2:=by
   unfold apA
   split
   ·exact⟨rfl,hmok.append _ _,by have:=ops_append m.1.2 x.file x.b;simp only;omega⟩
   ·exact⟨rfl,hmok.mono (by omega),by omega⟩
  have hmR:=hmok.rlen
  refine⟨λus w=>us=[.int .i64 (apA x m).2]∧∃H',H2.le H'∧SL W (.ob (RLogO lp xp m.1.1)::.ob (RDO H' xp (apA x m).1.2)::.mem H'::F) w,?_,?_⟩
  ·unfold apA
   repeat first|refine Gp ?_|refine Gw λw hS=>?_|refine Gb λb w hS=>?_
   refine ze (λh0=>?_) (λh0=>?_)
   ·rw[if_pos h0]
    obtain⟨sv,xs,hx,hS⟩:=RLogO.iff.1 (Has.front (c:=.ob (RLogO lp xp m.1.1)) hS Xr)
    repeat first|refine Gp ?_|refine Gw λw hS=>?_|refine Gb λb w hS=>?_
    (apply zd (y8 H2 xp m.1.2 N hmok (by omega) (by omega) x.file bv x.b hb2 (by omega)) hS;exact Xp;clear hS)
    rintro v post ⟨rfl,H',hh,rfl⟩ w hS
    (try simp only[app]at hS)
    have hS:=RLogO.put m.1.1 hS hx Xp
    exact⟨rfl,H',hh,SL.into hS Xi⟩
   ·rw[if_neg h0]
    exact⟨rfl,H2,Heap.le_refl H2,SL.into hS Xi⟩
  clear hS
  rintro v9 w ⟨hus,H3,h23,hS⟩
  cases hus
  have hb3:=hb2.mono h23
  have hv3:=hv2.mono h23
  have h03:=Heap.le_trans h02 h23
  clear h23 hb2 hv2 h02
  obtain⟨hA1,hA2,hA3⟩:=hA
  generalize apA x m=a at *
  have hB:(apS x a).1.1=m.1.1:=by
   unfold apS
   split
   ·exact hA1
   ·exact hA1
  have haR:=hA2.rlen
  refine⟨λus w=>us=[.int .i64 (apS x a).2]∧SL W (.ob (RLogO lp xp m.1.1)::.ob (RDO H3 xp (apS x a).1.2)::.mem H3::F) w,?_,?_⟩
  ·unfold apS
   repeat first|refine Gp ?_|refine Gw λw hS=>?_|refine Gb λb w hS=>?_
   refine ze (λh0=>?_) (λh0=>?_)
   ·rw[if_pos h0]
    obtain⟨sv,xs,hx,hS⟩:=RLogO.iff.1 (Has.front (c:=.ob (RLogO lp xp m.1.1)) hS Xr)
    repeat first|refine Gp ?_|refine Gw λw hS=>?_|refine Gb λb w hS=>?_
    (apply zd (qY H3 xp a.1.2 _ hA2 (by omega) (by omega) x.file) hS;exact Xp;clear hS)
    rintro v post ⟨rfl,rfl⟩ w hS
    (try simp only[app]at hS)
    have hS:=RLogO.put m.1.1 hS hx Xp
    exact⟨rfl,SL.into hS Xi⟩
   ·rw[if_neg h0]
    exact⟨rfl,SL.into hS Xi⟩
  clear hS
  rintro v9 w ⟨hus,hS⟩
  cases hus
  simp only
  generalize apS x a=y at *
  obtain⟨⟨y1,d3⟩,e⟩:=y
  simp only at *
  subst hB
  repeat first|refine Gp ?_|refine Gw λw hS=>?_|refine Gb λb w hS=>?_
  refine ze (λh0=>?_) (λh0=>?_)
  ·rw[if_neg h0]
   exact⟨_,⟨rfl,H3,h03,rfl⟩,SL.into hS Xi⟩
  have h0:e=0:=Classical.not_not.1 h0
  subst h0
  rw[if_pos rfl]
  obtain⟨sv,xs,hx,hS⟩:=RLogO.iff.1 (Has.front (c:=.ob (RLogO lp xp m.1.1)) hS Xr)
  obtain⟨hxo,hxl,_,_⟩:=hmg.xs hx
  have hhead:headG (xs.map XSeg.pl)=headG g.segs:=by rw[hx,hms.1]
  have hgd:=hw.hd
  have hge:=headG_ge hg.ok.segs
  have hmok2:=moreG_ok hg.ok hw
  refine⟨λus w=>us=[]∧∃sv' xs',xs'.map XSeg.pl=moreG g.segs x∧xs'.length≤xs.length+1∧SL W (.pt lp (rlcells sv' xp m.1.1.base m.1.1.size (tornI m.1.1.torn)) 152::RowR sv' xs'::.ob (zh XSegO xs')::.ob (RDO H3 xp d3)::.mem H3::F) w,?_,?_⟩
  ·unfold moreG
   refine yO (λhf=>?_) (λhf=>?_)
   ·rw[if_pos hf]
    repeat first|refine Gp ?_|refine Gw λw hS=>?_|refine Gb λb w hS=>?_
    (apply zd (yP lp xp sv xs m.1.1.base m.1.1.size (tornI m.1.1.torn) hxo (by omega) (by omega)) hS;exact Xp;clear hS)
    (rintro v post ⟨rfl,rfl⟩ w hS;(try simp only[app]at hS);(repeat (first|refine Gp ?_|refine Gw λw hS=>?_|refine Gb λb w hS=>?_)))
    rw[hhead]at hS
    refine yM (m:=1) (cs:=[.int .i64 x.file,.int .i64 (headG g.segs+1),.int .i64 0,.slice none 0 0]) hS Xr (src_pt0 hS .hd rfl) rfl rfl (by simp[Value.oneCell']) (by omega) (by omega) λsv' w hS=>?_
    have hone:=OwnSo.one hS (v:=sv') .hd
    repeat first|refine Gp ?_|refine Gw λw hS=>?_|refine Gb λb w hS=>?_
    have hS:=OwnSo.nil0 (a:=none) (t:=54) (sz:=1) hS
    have hS:=zh.nil (A:=BEntO) hS
    have hS:=(XSegO.iff (x:=⟨x.file,headG g.segs+1,0,[],none,0⟩)).2 (hS.perm (.swap _ _ _))
    have hS:=zh.snocP (A:=XSegO) (xs:=xs) ⟨x.file,headG g.segs+1,0,[],none,0⟩ hS Xp
    have e1:xs.length+1=(xs++[(⟨x.file,headG g.segs+1,0,[],none,0⟩:XSeg)]).length:=by simp
    have e2:(xs.map xcells).flatten++[.int .i64 x.file,.int .i64 (headG g.segs+1),.int .i64 0,.slice none 0 0]=((xs++[(⟨x.file,headG g.segs+1,0,[],none,0⟩:XSeg)]).map xcells).flatten:=by simp[xcells,XSeg.lv]
    rw[e1,e2]at hS
    refine⟨sv',xs++[⟨x.file,headG g.segs+1,0,[],none,0⟩],?_,by simp,SL.into hS Xi⟩
    rw[List.map_append,hx,hms.1];rfl
   ·rw[if_neg (by rw[hf];decide)]
    exact⟨rfl,sv,xs,by rw[hx,hms.1],by omega,SL.into hS Xi⟩
  clear hS hxo hhead
  rintro w ⟨-,sv',xs',hx',hl',hS⟩
  obtain⟨A,s,hA⟩:=moreG_last hw
  rw[putG_eq _ _ _ hA]
  have hle:0<xs'.length:=by
   have:=congrArg List.length hx'
   rw[hA]at this;simp at this;omega
  have hj:xs'.length-1<xs'.length:=by omega
  have hsp:xs'=xs'.take (xs'.length-1)++[xs'[xs'.length-1]]:=by
   conv=>lhs;rw[← List.take_append_drop (xs'.length-1) xs']
   rw[List.drop_eq_getElem_cons hj,List.drop_eq_nil_of_le (by omega)]
  have hAs:A=(xs'.take (xs'.length-1)).map XSeg.pl∧s=(xs'[xs'.length-1]).pl:=by
   rw[hsp,List.map_append]at hx'
   rw[hA]at hx'
   have:=List.append_inj' hx' rfl
   exact⟨this.1.symm,by simpa using this.2.symm⟩
  obtain⟨hA1',hs1⟩:=hAs
  subst hA1' hs1
  have hso:=hmok2 (xs'[xs'.length-1]).pl (by rw[hA];simp)
  have z1:=hso.sz
  have z2:=hso.ln
  (apply zd (z7 lp xp sv' xs' m.1.1.base m.1.1.size (tornI m.1.1.torn) (by omega)) hS;exact Xp;clear hS)
  (rintro v post ⟨rfl,rfl⟩ w hS;(try simp only[app]at hS);(repeat (first|refine Gp ?_|refine Gw λw hS=>?_|refine Gb λb w hS=>?_)))
  have hS:=zh.takeP (A:=XSegO) (xs:=xs') hS (List.getElem?_eq_getElem hj) Xr
  have hS:=XSegO.iff.1 hS
  obtain⟨rb,ro,rc,AA,BB,rfl,hAA,hS,hback⟩:=RowX.at (Has.front (c:=RowR sv' xs') hS Xr) hj
  generalize hx0:xs'[xs'.length-1]=x0 at *
  have z1:x0.size≤M:=z1
  have z2:x0.es.length≤M:=by simpa [XSeg.pl,byts_len] using z2
  rw[show ((xs'.length:Nat):Int)-1=((xs'.length-1:Nat):Int) by omega]
  repeat first|refine Gp ?_|refine Gw λw hS=>?_|refine Gb λb w hS=>?_
  refine zC hj ?_
  rw[← hAA]
  repeat first|refine Gp ?_|refine Gw λw hS=>?_|refine Gb λb w hS=>?_
  refine zS hS Xh (pt_get (i:=2) (u:=.int .i64 x0.size) rfl) ?_
  refine zq hb3 ?_
  repeat first|refine Gp ?_|refine Gw λw hS=>?_|refine Gb λb w hS=>?_
  refine zC hj ?_
  rw[← hAA]
  repeat first|refine Gp ?_|refine Gw λw hS=>?_|refine Gb λb w hS=>?_
  refine yW hS Xu (pt_get (i:=2) (u:=.int .i64 x0.size) rfl) rfl λw hS=>?_
  rw[pt_set (by rw[xcells_len];decide)]at hS
  have e5:(xcells x0).set 2 (.int .i64 ((x0.size+x.b.length:Nat):Int))=[.int .i64 x0.file,.int .i64 x0.first,.int .i64 ((x0.size+x.b.length:Nat):Int),x0.lv]:=rfl
  rw[e5]at hS
  repeat first|refine Gp ?_|refine Gw λw hS=>?_|refine Gb λb w hS=>?_
  refine zC hj ?_
  rw[← hAA]
  repeat first|refine Gp ?_|refine Gw λw hS=>?_|refine Gb λb w hS=>?_
  refine zS hS Xh (pt_get (i:=3) (u:=x0.lv) rfl) ?_
  repeat first|refine Gp ?_|refine Gw λw hS=>?_|refine Gb λb w hS=>?_
  refine zS hS Xh (pt_get (i:=3) (u:=x0.lv) rfl) ⟨rfl,?_⟩
  have hS:=OwnSl.full (n:=0) (sz:=1) (t:=5) (cells:=[]) rfl hS
  refine zw (n:=0) (m:=p.length) hS .hd (src_rd hS Xh hv3) (by simp) rfl (u8c_one _) (by omega) (by omega) λu w hS=>?_
  rw[Nat.zero_add,List.nil_append]at hS
  have hu:=hS.ownOne .hd
  obtain⟨ua,uc,eu,_⟩:=OwnSl.at hS .hd
  subst eu
  repeat first|refine Gp ?_|refine Gw λw hS=>?_|refine Gb λb w hS=>?_
  refine zS hS Xh (pt_get (i:=3) (u:=x0.lv) rfl) ⟨rfl,?_⟩
  repeat first|refine Gp ?_|refine Gw λw hS=>?_|refine Gb λb w hS=>?_
  refine zS hS Xh (pt_get (i:=3) (u:=x0.lv) rfl) ⟨rfl,?_⟩
  repeat first|refine Gp ?_|refine Gw λw hS=>?_|refine Gb λb w hS=>?_
  refine yM (t:=54) (sz:=1) (n:=x0.es.length) (cells:=vals x0.es) (m:=1) (cs:=[.slice ua p.length uc]) hS Xr (src_pt0 hS .hd rfl) rfl rfl (by simp[Value.oneCell']) (by omega) (by omega) λv' w hS=>?_
  have hone:=OwnSo.one hS (v:=v') .hd
  obtain⟨a',c',ev,_⟩:=OwnSo.at hS (v:=v') .hd
  subst ev
  repeat first|refine Gp ?_|refine Gw λw hS=>?_|refine Gb λb w hS=>?_
  refine zC hj ?_
  rw[← hAA]
  repeat first|refine Gp ?_|refine Gw λw hS=>?_|refine Gb λb w hS=>?_
  refine yW hS Xu (pt_get (i:=3) (u:=x0.lv) rfl) hone λw hS=>?_
  rw[pt_set (by show 3<4;decide)]at hS
  have e6:([.int .i64 x0.file,.int .i64 x0.first,.int .i64 ((x0.size+x.b.length:Nat):Int),x0.lv]:List Value).set 3 (.slice a' (x0.es.length+1) c')=xcells ⟨x0.file,x0.first,x0.size+x.b.length,x0.es++[(.slice ua p.length uc,p)],a',c'⟩:=by
   simp[xcells,XSeg.lv]
  rw[e6]at hS
  generalize hy:(⟨x0.file,x0.first,x0.size+x.b.length,x0.es++[(.slice ua p.length uc,p)],a',c'⟩:XSeg)=y at *
  have hx2:(xs'.set (xs'.length-1) y).map XSeg.pl=(xs'.take (xs'.length-1)).map XSeg.pl++[addE x0.pl x.b.length p]:=by
   rw[List.set_eq_take_append_cons_drop,if_pos hj,List.drop_eq_nil_of_le (by omega),List.map_append]
   congr 1
   simp[← hy,XSeg.pl,addE,byts]
  have hpk:=(putG_ok hg.ok hw).1
  rw[putG_eq _ _ _ hA,← hx2]at hpk
  have hS:=hback y w _ (Has.front (c:=.pt rb (AA++(xcells y++BB)) 157) hS Xr)
  have hS:SL W (.ob (BEntO (.slice ua p.length uc,p))::_) _:=Has.front (c:=.ob (OwnSl (.slice ua p.length uc) 5 1 p.length (p.map u8c))) hS Xr
  have hS:=zh.snocP (A:=BEntO) (xs:=x0.es) (.slice ua p.length uc,p) hS Xp
  have e7:x0.es.length+1=y.es.length:=by simp[← hy]
  have e8:vals x0.es++[.slice ua p.length uc]=vals y.es:=by simp[← hy,vals]
  have e9:x0.es++[(.slice ua p.length uc,p)]=y.es:=by simp[← hy]
  have e10:(.slice a' (x0.es.length+1) c':Value)=y.lv:=by simp[← hy,XSeg.lv]
  have hS:=Has.front (c:=.ob (OwnSo (.slice a' (x0.es.length+1) c') 54 1 (x0.es.length+1) (vals x0.es++[.slice ua p.length uc]))) hS Xr
  rw[e10,e7,e8,e9]at hS
  have hS:=XSegO.put y hS Xp
  have hS:=zh.putP (A:=XSegO) (xs:=xs') (t:=xs'.length-1) y hS hj Xp
  repeat first|refine Gp ?_|refine Gw λw hS=>?_|refine Gb λb w hS=>?_
  (apply zd (yP lp xp (.slice (some ⟨rb,ro,none⟩) xs'.length rc) (xs'.set (xs'.length-1) y) m.1.1.base m.1.1.size (tornI m.1.1.torn) hpk (by rw[List.length_set];omega) (by omega)) hS;exact Xp;clear hS)
  (rintro v post ⟨rfl,rfl⟩ w hS;(try simp only[app]at hS);(repeat (first|refine Gp ?_|refine Gw λw hS=>?_|refine Gb λb w hS=>?_)))
  rw[hx2]
  have hS:=RLogO.putN m.1.1.torn (L:=(xs'.take (xs'.length-1)).map XSeg.pl++[addE x0.pl x.b.length p]) hS hx2 Xp
  exact⟨_,⟨rfl,H3,h03,rfl⟩,SL.into hS Xi⟩
theorem YL(H:Heap)(lp xp:Nat)(g:PLog)(d:DS)(v:Value)(p:List UInt8)(k:Int)(hv:RdSl H 1 v p.length (p.map u8c))(hp:p.length≤140737488355328){M N:Nat}(hg:GOk g M)(hM:M≤100000000000)(hok:d.Ok N)(hN:N≤140737480000000)(hops:d.ops≤90000)(hk64:k≤9223372036854775807):
  SP 77 [.pointer (some ⟨lp,0,none⟩),v,.int .i64 k] [.ob (RLogO lp xp g),.ob (RDO H xp d),.mem H] (RAns lp xp H (.int .i64 (tearG g d p k).2) (tearG g d p k).1):=by
 intro W F w hS;apply vc77;unfold Vc77;(try simp only[app]at hS)
 refine zq hv ?_
 repeat first|refine Gp ?_|refine Gw λw hS=>?_|refine Gb λb w hS=>?_
 by_cases hk:k<0
 ·have e:tearG g d p k=((g,d),1):=by unfold tearG;rw[if_pos hk]
  rw[e]
  refine ze (λhbig=>⟨_,⟨rfl,H,Heap.le_refl H,rfl⟩,SL.into hS Xi⟩) (λhbig=>?_)
  repeat first|refine Gp ?_|refine Gw λw hS=>?_|refine Gb λb w hS=>?_
  exact ze (λ_=>⟨_,⟨rfl,H,Heap.le_refl H,rfl⟩,SL.into hS Xi⟩) (λh=>absurd hk h)
 have hk:0≤k:=by omega
 refine ze (λhbig=>?_) (λhbig=>?_)
 ·have hpl:planG g d.off p= .error 1:=by unfold planG;rw[if_pos (by omega)]
  rw[tearG_er hk hpl]
  exact⟨_,⟨rfl,H,Heap.le_refl H,rfl⟩,SL.into hS Xi⟩
 repeat first|refine Gp ?_|refine Gw λw hS=>?_|refine Gb λb w hS=>?_
 refine ze (λh=>by omega) (λ_=>?_)
 (apply zd (ZG H lp xp g d v p hv (by omega) hg (by omega)) hS;exact Xp;clear hS)
 rintro r post hQ w hS
 cases hpl:planG g d.off p with
 | error e=>
  rw[hpl]at hQ
  obtain⟨hz,rfl,rfl⟩:=hQ
  rw[tearG_er hk hpl]
  (try simp only[app]at hS)
  repeat first|refine Gp ?_|refine Gw λw hS=>?_|refine Gb λb w hS=>?_
  refine⟨λvs w=>vs=[.int .i64 e]∧SL W (.ob (RLogO lp xp g)::.ob (RDO H xp d)::.mem H::F) w,?_,?_⟩
  ·repeat first|refine Gp ?_|refine Gw λw hS=>?_|refine Gb λb w hS=>?_
   exact ze (λh=>absurd h hz) (λ_=>⟨rfl,SL.into hS Xi⟩)
  clear hS
  rintro v7 w ⟨hvs,hS⟩
  cases hvs
  repeat first|refine Gp ?_|refine Gw λw hS=>?_|refine Gb λb w hS=>?_
  refine ze (λh=>absurd h hz) (λ_=>?_)
  repeat first|refine Gp ?_|refine Gw λw hS=>?_|refine Gb λb w hS=>?_
  refine ze (λh=>absurd h hz) (λ_=>?_)
  exact⟨_,⟨rfl,H,Heap.le_refl H,rfl⟩,SL.into hS Xi⟩
 | ok x=>
  rw[hpl]at hQ
  obtain⟨bv,rfl,rfl⟩:=hQ
  have hw:=planG_wr hg.ok hpl
  have hmok:=mendG_ok (g:=g) hok
  have hmo:=ops_mend g d
  have hbl:=hw.bl
  have hpp:=hw.pl
  have hbp:=hw.pos
  (try simp only[app]at hS)
  repeat first|refine Gp ?_|refine Gw λw hS=>?_|refine Gb λb w hS=>?_
  obtain⟨H1,h01,hb,hS⟩:=zz (H:=H) (v:=bv) (n:=x.b.length) (sz:=1) (t:=5) (cells:=x.b.map u8c) hS Xp
  have hS:=RDO.monoP h01 hS Xr
  refine⟨λus w=>us=[.int .i64 (mendG g d).2]∧∃H',H1.le H'∧SL W (.ob (RLogO lp xp (mendG g d).1.1)::.ob (RDO H' xp (mendG g d).1.2)::.mem H'::F) w,?_,?_⟩
  ·repeat first|refine Gp ?_|refine Gw λw hS=>?_|refine Gb λb w hS=>?_
   refine ze (λ_=>?_) (λh=>absurd rfl h)
   (apply zd (ZB H1 lp xp g d hg (by omega) hok hN hops) hS;exact Xp;clear hS)
   rintro v post ⟨rfl,H',hh,rfl⟩ w hS
   (try simp only[app]at hS)
   exact⟨rfl,H',hh,SL.into hS Xi⟩
  clear hS
  rintro v9 w ⟨hus,H2,h12,hS⟩
  cases hus
  have hb2:=hb.mono h12
  have h02:=Heap.le_trans h01 h12
  repeat first|refine Gp ?_|refine Gw λw hS=>?_|refine Gb λb w hS=>?_
  refine ze (λhm=>?_) (λhm=>?_)
  ·have hta:=tearG_a hk hpl hm
   have htk:=tearG_k hk hpl hm
   obtain⟨k,rfl⟩:=Int.eq_ofNat_of_zero_le hk
   rw[Int.toNat_natCast]at hta htk
   have hkl:k % x.b.length<x.b.length:=Nat.mod_lt _ (by omega)
   generalize tearG g d p (k:Int)=T at *
   generalize mendG g d=m at *
   have hmR:=hmok.rlen
   obtain⟨sv,xs,hx,hS⟩:=RLogO.iff.1 (Has.front (c:=.ob (RLogO lp xp m.1.1)) hS Xr)
   repeat first|refine Gp ?_|refine Gw λw hS=>?_|refine Gb λb w hS=>?_
   refine zq hb2 ?_
   repeat first|refine Gp ?_|refine Gw λw hS=>?_|refine Gb λb w hS=>?_
   refine qi hb2 (by omega) λtv htv=>?_
   have htv:RdSl H2 1 tv (x.b.take (k % x.b.length)).length ((x.b.take (k % x.b.length)).map u8c):=by
    rw[List.length_take,Nat.min_eq_left (by omega),List.map_take]
    rw[Nat.mul_one]at htv;exact htv
   (apply zd (y8 H2 xp m.1.2 N hmok (by omega) (by omega) x.file tv (x.b.take (k % x.b.length)) htv (by rw[List.length_take];omega)) hS;exact Xp;clear hS)
   rintro v post ⟨rfl,H3,h23,rfl⟩ w hS
   (try simp only[app]at hS)
   have h03:=Heap.le_trans h02 h23
   repeat first|refine Gp ?_|refine Gw λw hS=>?_|refine Gb λb w hS=>?_
   refine ze (λha=>?_) (λha=>?_)
   ·rw[htk ha,ha]
    repeat first|refine Gp ?_|refine Gw λw hS=>?_|refine Gb λb w hS=>?_
    have hS:=RLogO.putN (some ⟨x.file,if x.fresh=true then 0 else lastSize g.segs,x.fresh⟩) hS hx Xp
    exact⟨_,⟨rfl,H3,h03,rfl⟩,SL.into hS Xi⟩
   ·rw[hta ha]
    have hS:=RLogO.put m.1.1 hS hx Xp
    exact⟨_,⟨rfl,H3,h03,rfl⟩,SL.into hS Xi⟩
  ·rw[tearG_m hk hpl hm]
   repeat first|refine Gp ?_|refine Gw λw hS=>?_|refine Gb λb w hS=>?_
   refine ze (λh=>absurd h hm) (λ_=>?_)
   exact⟨_,⟨rfl,H2,h02,rfl⟩,SL.into hS Xi⟩
abbrev rkcells(xp lp rp:Nat)(rv:Value)(lsn:Int)(pv:Value):List Value:=[ptrO xp,ptrO lp,ptrO rp,rv,.int .i64 lsn,pv]
def RSnkO(kp xp lp rp:Nat)(H:Heap)(k:PSink):zG:=HEx λx:Value × Value=>zT (RdRq H x.1 k.reqs∧RdFt H x.2 k.plan) [.pt kp (rkcells xp lp rp x.1 k.lsn x.2) 41,.ob (Ref H rp k.ts),.ob (RLogO lp xp k.g),.ob (RDO H xp k.d)]
section
variable {W w:World} {l F:List Chunk} {kp xp lp rp:Nat} {H:Heap} {k:PSink}
theorem RSnkO.iff:SL W (.ob (RSnkO kp xp lp rp H k)::l) w↔∃rv pv,(RdRq H rv k.reqs∧RdFt H pv k.plan)∧SL W (.pt kp (rkcells xp lp rp rv k.lsn pv) 41::.ob (Ref H rp k.ts)::.ob (RLogO lp xp k.g)::.ob (RDO H xp k.d)::l) w:=by
 unfold RSnkO
 simp only[SL.ex,SL.fact,List.cons_append,List.nil_append]
 exact⟨λ⟨x,h1,h2⟩=>⟨x.1,x.2,h1,h2⟩,λ⟨a,b,h1,h2⟩=>⟨(a,b),h1,h2⟩⟩
theorem RSnkO.putN{g:PLog}{d:DS}{ts:List (List Cell)}{plan:List PFt}{lsn:Int}{reqs:List Rq}{rv pv:Value}(hS:SL W l w)(hr:RdRq H rv reqs)(hp:RdFt H pv plan)(p:Pick [.pt kp (rkcells xp lp rp rv lsn pv) 41,.ob (Ref H rp ts),.ob (RLogO lp xp g),.ob (RDO H xp d)] l F):SL W (.ob (RSnkO kp xp lp rp H ⟨g,d,ts,plan,lsn,reqs⟩)::F) w:=RSnkO.iff.2 ⟨rv,pv,⟨hr,hp⟩,hS.pick p⟩
theorem RSnkO.put(k:PSink){rv pv:Value}(hS:SL W l w)(hr:RdRq H rv k.reqs)(hp:RdFt H pv k.plan)(p:Pick [.pt kp (rkcells xp lp rp rv k.lsn pv) 41,.ob (Ref H rp k.ts),.ob (RLogO lp xp k.g),.ob (RDO H xp k.d)] l F):SL W (.ob (RSnkO kp xp lp rp H k)::F) w:=RSnkO.iff.2 ⟨rv,pv,⟨hr,hp⟩,hS.pick p⟩
theorem Ref.put{ts:List (List Cell)}{bv:Nat}{vs:List Value}(hS:SL W l w)(hA:Rd4 H vs ts∧ts.length≤8)(p:Pick [.pt rp [.slice (some ⟨bv,0,none⟩) ts.length ts.length] 161,.pt bv vs 81] l F):SL W (.ob (Ref H rp ts)::F) w:=Ref.iff.2 ⟨bv,vs,hA,hS.pick p⟩
theorem Ref.monoP{H':Heap}{ts:List (List Cell)}(hh:H.le H')(hS:SL W l w)(r:Rem (.ob (Ref H rp ts)) l F):SL W (.ob (Ref H' rp ts)::F) w:=Ref.mono hh (hS.perm r.perm)
theorem RSnkO.mono{H':Heap}(hh:H.le H')(h:SL W (.ob (RSnkO kp xp lp rp H k)::l) w):SL W (.ob (RSnkO kp xp lp rp H' k)::l) w:=by
 obtain⟨rv,pv,⟨hr,hp⟩,hS⟩:=RSnkO.iff.1 h
 have hS:=Ref.monoP hh hS Xr
 have hS:=RDO.monoP hh hS Xr
 exact RSnkO.put k hS (hr.mono hh) (hp.mono hh) Xp
theorem RSnkO.open(hS:SL W l w)(r:Rem (.ob (RSnkO kp xp lp rp H k)) l F):∃rv pv,(RdRq H rv k.reqs∧RdFt H pv k.plan)∧SL W (.pt kp (rkcells xp lp rp rv k.lsn pv) 41::.ob (Ref H rp k.ts)::.ob (RLogO lp xp k.g)::.ob (RDO H xp k.d)::F) w:=RSnkO.iff.1 (hS.perm r.perm)
theorem RSnkO.monoP{H':Heap}(hh:H.le H')(hS:SL W l w)(r:Rem (.ob (RSnkO kp xp lp rp H k)) l F):SL W (.ob (RSnkO kp xp lp rp H' k)::F) w:=RSnkO.mono hh (hS.perm r.perm)
theorem SnkO.monoP{H H':Heap}{kp gp dp lp pp:Nat}{k:PSink}(hh:H.le H')(hS:SL W l w)(r:Rem (.ob (SnkO kp gp dp lp pp H k)) l F):SL W (.ob (SnkO kp gp dp lp pp H' k)::F) w:=SnkO.mono hh (hS.perm r.perm)
end
theorem mayItem_kind{t:PItem}(h:mayItem t=true):∀n∈t.notes,n.kind=1∨n.kind=2:=λn hn=>by
 have:=(mayItem_iff.1 h).2.2 n hn
 unfold mayNote at this
 rw[decide_eq_true_eq]at this
 omega
theorem acceptR_len{L L':List Rq}{t w a:Int}(h:acceptR L t w a=some L'):L'.length=L.length+1:=by
 unfold acceptR at h
 split at h
 ·cases h;simp
 ·cases h
theorem ZD(H:Heap)(v:Value)(L:List Rq)(x:ItV)(t:PItem)(hx:ItIs H x t)(hm:mayItem t=true)(hv:RdRq H v L)(hL:L.length≤64):
  SP 123 [v,agg (encIt x)] [.mem H] (λu post=>∃H',H.le H'∧RqQ (notesR L t.notes) H' u∧post=[.mem H']):=by
 intro W F w hS;apply vc123;unfold Vc123;(try simp only[app]at hS)
 refine zB hS λxb w hS=>?_
 unfold encIt at hS
 rw[hx.lsn]at hS
 have hkind:=mayItem_kind hm
 have hids:=(mayItem_iok hm).1.ids
 have hnn:=(mayItem_iff.1 hm).1.2.2.2
 refine⟨λvs w=>∃(i:Nat) (L2:List Rq) (u:Value) (H2:Heap),vs=[u,.int .i64 i]∧i≤t.notes.length∧L2.length≤64∧notesR L t.notes=notesR L2 (t.notes.drop i)∧H.le H2∧RdRq H2 u L2∧SL W (.pt xb [.int .i64 t.lsn,x.ov,x.nv] 46::.mem H2::F) w,
  λvs _=>match vs with|[_,.int _ i]=>(t.notes.length-i).toNat|_=>0,⟨0,L,v,H,rfl,by omega,hL,rfl,Heap.le_refl H,hv,SL.into hS Xi⟩,?_⟩
 clear hS
 rintro u v35 w ⟨i,L2,_,H2,hvs,hil,hL2,hno,h02,hu,hS⟩
 cases hvs
 have hx2:=hx.mono h02
 repeat first|refine Gp ?_|refine Gw λw hS=>?_|refine Gb λb w hS=>?_
 refine zq hx2.nts ?_
 repeat first|refine Gp ?_|refine Gw λw hS=>?_|refine Gb λb w hS=>?_
 refine ze (λh=>?_) (λh=>?_)
 ·have hil:i<t.notes.length:=by omega
  rw[notesR_drop hil]at hno
  repeat first|refine Gp ?_|refine Gw λw hS=>?_|refine Gb λb w hS=>?_
  refine zH hS Xh encNote_len hx2.nts (x:=t.notes[i]) (by simp[hil]) hil ?_
  have hid:=hids _ (List.getElem_mem hil)
  have hki:=hkind _ (List.getElem_mem hil)
  generalize t.notes[i]=n at *
  have hF:∀{w:World} {H3:Heap},noteR L2 n=none→H.le H3→SL W (.mem H3::F) w→∃post,(∃H',H.le H'∧RqQ (notesR L t.notes) H' (.tuple #[.slice none 0 0,.bool false])∧post=[.mem H'])∧SL W (app post F) w:=λh hh hS=>by
   rw[h]at hno
   rw[hno]
   exact⟨_,⟨_,hh,⟨_,rfl⟩,rfl⟩,hS⟩
  obtain⟨kind,id,table,weight,at_,cursor,done⟩:=n
  unfold encNote
  simp only at hid hki
  unfold noteR at hno hF
  simp only at hno hF
  repeat first|refine Gp ?_|refine Gw λw hS=>?_|refine Gb λb w hS=>?_
  refine ze (λhk=>?_) (λhk=>?_)
  ·have hk:kind=1:=hk
   rw[if_neg (by omega)]at hno hF
   repeat first|refine Gp ?_|refine Gw λw hS=>?_|refine Gb λb w hS=>?_
   refine zq hu ?_
   repeat first|refine Gp ?_|refine Gw λw hS=>?_|refine Gb λb w hS=>?_
   refine ze (λhne=>?_) (λhne=>?_)
   ·have hne:id≠((L2.length+1:Nat):Int):=hne
    refine hF ?_ h02 (SL.into hS Xi)
    cases hc:acceptR L2 table weight at_ with
    | none=>rfl
    | some L'=>
     have:=acceptR_len hc
     simp only
     rw[if_neg (by omega)]
   ·have hne:¬id≠((L2.length+1:Nat):Int):=hne
    repeat first|refine Gp ?_|refine Gw λw hS=>?_|refine Gb λb w hS=>?_
    (apply zd (Yy H2 u L2 table weight at_ hu (by omega)) hS;exact Xp;clear hS)
    rintro r post ⟨H3,h23,rfl,hq⟩ w hS
    cases hc:acceptR L2 table weight at_ with
    | none=>
     rw[hc]at hq hF
     obtain rfl:=hq
     (try simp only[app]at hS)
     repeat first|refine Gp ?_|refine Gw λw hS=>?_|refine Gb λb w hS=>?_
     refine zy ?_
     exact hF rfl (Heap.le_trans h02 h23) (SL.into hS Xi)
    | some L'=>
     have hl':=(acceptR_may hc).1
     have hll:=acceptR_len hc
     rw[hc]at hq hno
     simp only at hno
     rw[if_pos (by omega)]at hno
     obtain⟨y,rfl,hy⟩:=hq
     (try simp only[app]at hS)
     repeat first|refine Gp ?_|refine Gw λw hS=>?_|refine Gb λb w hS=>?_
     refine zr ?_
     repeat first|refine Gp ?_|refine Gw λw hS=>?_|refine Gb λb w hS=>?_
     exact⟨⟨i+1,L',y,H3,rfl,by omega,hl',hno,Heap.le_trans h02 h23,hy,SL.into hS Xi⟩,by dsimp only;omega⟩
  ·have hk:¬kind=1:=hk
   rw[if_pos (by omega)]at hno hF
   repeat first|refine Gp ?_|refine Gw λw hS=>?_|refine Gb λb w hS=>?_
   (apply zd (Y6 H2 u L2 id cursor done hu (by omega) hid) hS;exact Xp;clear hS)
   rintro r post ⟨H3,h23,rfl,hq⟩ w hS
   cases hc:chunkR L2 id cursor done with
   | none=>
    rw[hc]at hq hF
    obtain rfl:=hq
    (try simp only[app]at hS)
    repeat first|refine Gp ?_|refine Gw λw hS=>?_|refine Gb λb w hS=>?_
    refine zy ?_
    exact hF rfl (Heap.le_trans h02 h23) (SL.into hS Xi)
   | some L'=>
    have hl':=(chunkR_may hc).1
    rw[hc]at hq hno
    obtain⟨y,rfl,hy⟩:=hq
    (try simp only[app]at hS)
    repeat first|refine Gp ?_|refine Gw λw hS=>?_|refine Gb λb w hS=>?_
    refine zr ?_
    repeat first|refine Gp ?_|refine Gw λw hS=>?_|refine Gb λb w hS=>?_
    exact⟨⟨i+1,L',y,H3,rfl,by omega,hl',hno,Heap.le_trans h02 h23,hy,SL.into hS Xi⟩,by dsimp only;omega⟩
 ·have hie:i=t.notes.length:=by omega
  subst hie
  rw[List.drop_length]at hno
  rw[hno]
  exact⟨_,⟨H2,h02,⟨u,rfl,hu⟩,rfl⟩,SL.into hS Xi⟩
theorem ZH(kp xp lp rp:Nat)(H:Heap)(k:PSink)(x:ItV)(t:PItem)(hx:ItIs H x t)(hrq:k.reqs.length≤64):
  SP 43 [ptrO kp,agg (encIt x)] [.ob (RSnkO kp xp lp rp H k),.mem H] (λu post=>u= .bool (fitsR k.ts.length k.reqs t).isSome∧∃H',H.le H'∧post=[.ob (RSnkO kp xp lp rp H' k),.mem H']):=by
 intro W F w hS;apply vc43;unfold Vc43;(try simp only[app]at hS)
 refine zB hS λxb w hS=>?_
 repeat first|refine Gp ?_|refine Gw λw hS=>?_|refine Gb λb w hS=>?_
 (apply zd (zZ H x t hx) hS;exact Xp;clear hS)
 (rintro v post ⟨rfl,rfl⟩ w hS;(try simp only[app]at hS);(repeat (first|refine Gp ?_|refine Gw λw hS=>?_|refine Gb λb w hS=>?_)))
 refine zK (λhm=>?_) (λhm=>?_)
 ·rw[show fitsR k.ts.length k.reqs t=none by unfold fitsR;rw[hm];rfl]
  exact⟨_,⟨rfl,H,Heap.le_refl H,rfl⟩,SL.into hS Xi⟩
 have hb:=(mayItem_iff.1 hm).1
 obtain⟨rv,pv,⟨hr,hp⟩,hS⟩:=RSnkO.open (k:=k) hS Xr
 obtain⟨bv,vs,hA,hS⟩:=Ref.iff.1 (Has.front (c:=.ob (Ref H rp k.ts)) hS Xr)
 have ex:encIt x=[.int .i64 t.lsn,x.ov,x.nv]:=by unfold encIt;rw[hx.lsn]
 rw[ex]at hS
 obtain⟨F2,hF2⟩:∃F2,F2= .pt bv vs 81::.ob (RLogO lp xp k.g)::.ob (RDO H xp k.d)::F:=⟨_,rfl⟩
 have hS:=SL.into hS (t:=.pt rp [.slice (some ⟨bv,0,none⟩) k.ts.length k.ts.length] 161::.pt kp (rkcells xp lp rp rv k.lsn pv) 41::.pt xb [.int .i64 t.lsn,x.ov,x.nv] 46::.mem H::.pt bv vs 81::.ob (RLogO lp xp k.g)::.ob (RDO H xp k.d)::F) Xi
 rw[← hF2]at hS
 have hcl:∀{w:World},SL W (.pt rp [.slice (some ⟨bv,0,none⟩) k.ts.length k.ts.length] 161::.pt kp (rkcells xp lp rp rv k.lsn pv) 41::.pt xb [.int .i64 t.lsn,x.ov,x.nv] 46::.mem H::F2) w→SL W (.ob (RSnkO kp xp lp rp H k)::.pt xb [.int .i64 t.lsn,x.ov,x.nv] 46::.mem H::F) w:=λhS=>by
  rw[hF2]at hS
  have hS:=Ref.put hS hA Xp
  exact SL.into (RSnkO.put k hS hr hp Xp) Xi
 refine⟨λvs w=>∃i:Nat,vs=[.int .i64 i]∧i≤t.ops.length∧(∀j (hj:j<t.ops.length),j<i→t.ops[j].table<(k.ts.length:Int))∧SL W (.pt rp [.slice (some ⟨bv,0,none⟩) k.ts.length k.ts.length] 161::.pt kp (rkcells xp lp rp rv k.lsn pv) 41::.pt xb [.int .i64 t.lsn,x.ov,x.nv] 46::.mem H::F2) w,
  λvs _=>match vs with|[.int _ i]=>(t.ops.length-i).toNat|_=>0,⟨0,rfl,by omega,λj hj h=>by omega,hS⟩,?_⟩
 clear hS
 rintro v15 w ⟨i,hvs,hil,hall,hS⟩
 cases hvs
 repeat first|refine Gp ?_|refine Gw λw hS=>?_|refine Gb λb w hS=>?_
 refine zq hx.ops ?_
 repeat first|refine Gp ?_|refine Gw λw hS=>?_|refine Gb λb w hS=>?_
 refine ze (λh=>?_) (λh=>?_)
 ·have hil:i<t.ops.length:=by omega
  repeat first|refine Gp ?_|refine Gw λw hS=>?_|refine Gb λb w hS=>?_
  refine zY hS Xh encOp_len' hx.ops (x:=t.ops[i]) (by simp[hil]) hil (i:=1) rfl ?_
  repeat first|refine Gp ?_|refine Gw λw hS=>?_|refine Gb λb w hS=>?_
  refine ze (λh2=>?_) (λh2=>?_)
  ·rw[fitsR_tab hil h2]
   exact⟨_,⟨rfl,H,Heap.le_refl H,rfl⟩,SL.into (hcl hS) Xi⟩
  ·repeat first|refine Gp ?_|refine Gw λw hS=>?_|refine Gb λb w hS=>?_
   refine⟨⟨i+1,rfl,by omega,λj hj hji=>?_,SL.into hS Xi⟩,by dsimp only;omega⟩
   by_cases e:j=i
   ·subst e;omega
   ·exact hall j hj (by omega)
 ·have htab:=tabsOk_t (n:=k.ts.length) (t:=t) λj hj=>hall j hj (by omega)
  have hfr:fitsR k.ts.length k.reqs t=notesR k.reqs t.notes:=by unfold fitsR;rw[if_pos ⟨hm,htab⟩]
  rw[hfr]
  repeat first|refine Gp ?_|refine Gw λw hS=>?_|refine Gb λb w hS=>?_
  have hS:=hcl hS
  rw[← ex]
  (apply zd (ZD H rv k.reqs x t hx hm hr hrq) hS;exact Xp;clear hS)
  rintro r post ⟨H1,h01,hq,rfl⟩ w hS
  unfold RqQ at hq
  (try simp only[app]at hS)
  have hS:=RSnkO.monoP h01 hS Xr
  cases hc:notesR k.reqs t.notes with
  | none=>
   rw[hc]at hq
   obtain⟨y,rfl⟩:=hq
   (try simp only[app]at hS)
   repeat first|refine Gp ?_|refine Gw λw hS=>?_|refine Gb λb w hS=>?_
   exact⟨_,⟨rfl,H1,h01,rfl⟩,SL.into hS Xi⟩
  | some L=>
   rw[hc]at hq
   obtain⟨y,rfl,hy⟩:=hq
   (try simp only[app]at hS)
   repeat first|refine Gp ?_|refine Gw λw hS=>?_|refine Gb λb w hS=>?_
   exact⟨_,⟨rfl,H1,h01,rfl⟩,SL.into hS Xi⟩
theorem Ye(kp xp lp rp:Nat)(H:Heap)(k:PSink)(x:ItV)(t:PItem)(L:List Rq)(hx:ItIs H x t)(hm:mayItem t=true)(hL:notesR k.reqs t.notes=some L)(hrq:k.reqs.length≤64)(hok:okS k.ts)(hsm:small k.ts 4096):
  SP 97 [ptrO kp,agg (encIt x)] [.ob (RSnkO kp xp lp rp H k),.mem H] (λv post=>v= .tuple #[]∧∃H',H.le H'∧post=[.ob (RSnkO kp xp lp rp H' (k.doK t L)),.mem H']):=by
 intro W F w hS;apply vc97;unfold Vc97;(try simp only[app]at hS)
 refine zB hS λxb w hS=>?_
 obtain⟨rv,pv,⟨hr,hp⟩,hS⟩:=RSnkO.open (k:=k) hS Xr
 have ex:encIt x=[.int .i64 t.lsn,x.ov,x.nv]:=by unfold encIt;rw[hx.lsn]
 rw[ex]at hS
 have hb:=(mayItem_iff.1 hm).1
 have hkeys:=(mayItem_iok hm).2
 repeat first|refine Gp ?_|refine Gw λw hS=>?_|refine Gb λb w hS=>?_
 (apply zd (QG H rp k.ts x.ov t.ops hx.ops (by omega) hkeys hok (small_mono hsm (by omega))) hS;exact Xp;clear hS)
 rintro v post ⟨H1,h01,rfl,rfl⟩ w hS
 (try simp only[app]at hS)
 have hS:=RDO.monoP h01 hS Xr
 repeat first|refine Gp ?_|refine Gw λw hS=>?_|refine Gb λb w hS=>?_
 rw[← ex]
 (apply zd (ZD H1 rv k.reqs x t (hx.mono h01) hm (hr.mono h01) hrq) hS;exact Xp;clear hS)
 rintro r post ⟨H2,h12,hq,rfl⟩ w hS
 rw[hL]at hq
 obtain⟨y,rfl,hy⟩:=hq
 (try simp only[app]at hS)
 have hS:=RDO.monoP h12 hS Xr
 have hS:=Ref.monoP h12 hS Xr
 have h1:=RdSl.one hy
 repeat first|refine Gp ?_|refine Gw λw hS=>?_|refine Gb λb w hS=>?_
 have h02:=Heap.le_trans h01 h12
 have hS:SL W (.ob (RSnkO kp xp lp rp H2 (k.doK t L))::_) _:=RSnkO.putN hS hy (hp.mono h02) Xp
 exact⟨_,⟨rfl,H2,h02,rfl⟩,SL.into hS Xi⟩
theorem ZU(kp xp lp rp:Nat)(H:Heap)(k:PSink){N:Nat}(hg:GOk k.g N)(hN:N≤1000000000000):SP 98 [ptrO kp] [.ob (RSnkO kp xp lp rp H k)] (Gives (.int .i64 ((entsG k.g.segs).length:Int)) [.ob (RSnkO kp xp lp rp H k)]):=by
 intro W F w hS;apply vc98;unfold Vc98;(try simp only[app]at hS)
 obtain⟨rv,pv,⟨hr,hp⟩,hS⟩:=RSnkO.iff.1 hS
 have h1:=headG_ge hg.ok.segs
 have h2:=lowG_in hg.ok.segs
 have h3:=batches_len hg.seq
 repeat first|refine Gp ?_|refine Gw λw hS=>?_|refine Gb λb w hS=>?_
 (apply zd (z8 lp xp k.g hg.ok hN) hS;exact Xp;clear hS)
 (rintro v post ⟨rfl,rfl⟩ w hS;(try simp only[app]at hS);(repeat (first|refine Gp ?_|refine Gw λw hS=>?_|refine Gb λb w hS=>?_)))
 (apply zd (yG lp xp k.g hg.ok hN) hS;exact Xp;clear hS)
 (rintro v post ⟨rfl,rfl⟩ w hS;(try simp only[app]at hS);(repeat (first|refine Gp ?_|refine Gw λw hS=>?_|refine Gb λb w hS=>?_)))
 rw[h3]
 have hS:=RSnkO.put k hS hr hp Xp
 exact⟨_,⟨rfl,rfl⟩,SL.into hS Xi⟩
abbrev RKAns(kp xp lp rp:Nat)(H:Heap)(y:PSink × Int)(v:Value)(post:List Chunk):Prop:=v= .int .i64 y.2∧∃H',H.le H'∧post=[.ob (RSnkO kp xp lp rp H' y.1),.mem H']
theorem Zu(kp xp lp rp:Nat)(H:Heap)(k:PSink)(x:ItV)(t:PItem)(L:List Rq)(hx:ItIs H x t)(hm:mayItem t=true)(hL:k.lsn<t.lsn→notesR k.reqs t.notes=some L){N m:Nat}(hk:KOk k N (m+1)):
  SP 76 [ptrO kp,agg (encIt x)] [.ob (RSnkO kp xp lp rp H k),.mem H] (RKAns kp xp lp rp H (if k.lsn<t.lsn then k.writeK t L else (k,0))):=by
 intro W F w hS;apply vc76;unfold Vc76;(try simp only[app]at hS)
 refine zB hS λxb w hS=>?_
 obtain⟨rv,pv,⟨hr,hp⟩,hS⟩:=RSnkO.open (k:=k) hS Xr
 have ex:encIt x=[.int .i64 t.lsn,x.ov,x.nv]:=by unfold encIt;rw[hx.lsn]
 rw[ex]at hS
 repeat first|refine Gp ?_|refine Gw λw hS=>?_|refine Gb λb w hS=>?_
 refine ze (λhl=>?_) (λhl=>?_)
 ·rw[if_neg (by omega)]
  have hS:=RSnkO.put k hS hr hp Xp
  exact⟨_,⟨rfl,H,Heap.le_refl H,rfl⟩,SL.into hS Xi⟩
 rw[if_pos (by omega),writeK_eq]
 have hL:=hL (by omega)
 have hbl:=(bytesItem_len hm).2
 repeat first|refine Gp ?_|refine Gw λw hS=>?_|refine Gb λb w hS=>?_
 rw[← ex]at hS ⊢
 (apply zd (Zm H x t hx) hS;exact Xp;clear hS)
 rintro r post hqe w hS
 unfold EncIQ at hqe
 rw[bytesItem_ok hm]at hqe
 obtain⟨bv,rfl,rfl⟩:=hqe
 (try simp only[app]at hS)
 repeat first|refine Gp ?_|refine Gw λw hS=>?_|refine Gb λb w hS=>?_
 obtain⟨H1,h01,hbR,hS⟩:=zz (H:=H) (v:=bv) (n:=(bytesItem t).length) (sz:=1) (t:=5) (cells:=(bytesItem t).map u8c) hS Xp
 have hS:=RDO.monoP h01 hS Xr
 have hle:=hk.le
 have hop:=hk.ops
 (apply zd (Z4 H1 lp xp k.g k.d bv (bytesItem t) hbR (by omega) hk.g (by omega) hk.d (by omega) (by omega)) hS;exact Xp;clear hS)
 rintro v post ⟨rfl,H2,h12,rfl⟩ w hS
 (try simp only[app]at hS)
 have h02:=Heap.le_trans h01 h12
 have hS:=Ref.monoP h02 hS Xr
 have hS:SL W (.ob (RSnkO kp xp lp rp H2 (k.appK t).1)::_) _:=RSnkO.putN hS (hr.mono h02) (hp.mono h02) Xp
 have he:(appendG k.g k.d (bytesItem t)).2.2=(k.appK t).2:=rfl
 have ha:(k.appK t).1.ts=k.ts∧(k.appK t).1.reqs=k.reqs:=⟨rfl,rfl⟩
 rw[he]
 generalize k.appK t=z at *
 obtain⟨z,e⟩:=z
 simp only at *
 repeat first|refine Gp ?_|refine Gw λw hS=>?_|refine Gb λb w hS=>?_
 refine ze (λh0=>?_) (λh0=>?_)
 ·rw[if_neg h0]
  exact⟨_,⟨rfl,H2,h02,rfl⟩,SL.into hS Xi⟩
 ·rw[if_pos (Classical.not_not.1 h0)]
  refine zA hS Xh rfl ?_
  (apply zd (Ye kp xp lp rp H2 z x t L (hx.mono h02) hm (by rw[ha.2];exact hL) (by rw[ha.2];exact hk.rq) (by rw[ha.1];exact hk.ok) (by rw[ha.1];exact small_mono hk.room (by omega))) hS;exact Xp;clear hS)
  rintro v post ⟨rfl,H3,h23,rfl⟩ w hS
  (try simp only[app]at hS)
  exact⟨_,⟨rfl,H3,Heap.le_trans h02 h23,rfl⟩,SL.into hS Xi⟩
theorem KOk.plan{k:PSink}{N m:Nat}(h:KOk k N m){p:List PFt}(h1:p.length≤1024)(h2:∀f∈p,mayFt f=true):KOk {k with plan:=p} N m:=⟨h.g,h.d,h.le,h.ops,h1,h2,h.ts,h.ok,h.room,h.rq⟩
theorem Z1(kp xp lp rp:Nat)(H:Heap)(k:PSink)(x:ItV)(t:PItem)(hx:ItIs H x t){N m:Nat}(hk:KOk k N (m+1))(hkeep:∀f∈k.plan,f.keep≤9223372036854775807):
  SP 18 [ptrO kp,agg (encIt x)] [.ob (RSnkO kp xp lp rp H k),.mem H] (RKAns kp xp lp rp H (k.commitK t)):=by
 intro W F w hS;apply vc18;unfold Vc18;(try simp only[app]at hS)
 refine zB hS λxb w hS=>?_
 have ex:encIt x=[.int .i64 t.lsn,x.ov,x.nv]:=by unfold encIt;rw[hx.lsn]
 have hfin:∀{w:World} {H':Heap} {z:PSink} {e:Int},H.le H'→k.commitK t=(z,e)→SL W (.ob (RSnkO kp xp lp rp H' z)::.mem H'::F) w→∃post,RKAns kp xp lp rp H (k.commitK t) (.int .i64 e) post∧SL W (app post F) w:=λhh he hS=>by rw[he];exact⟨_,⟨rfl,_,hh,rfl⟩,hS⟩
 refine⟨λus w=>us=[]∧¬(mayItem t=false∨(k.lsn<t.lsn∧fitsR k.ts.length k.reqs t=none))∧∃H1,H.le H1∧SL W (.ob (RSnkO kp xp lp rp H1 k)::.mem H1::.pt xb (encIt x) 46::F) w,?_,?_⟩
 ·repeat first|refine Gp ?_|refine Gw λw hS=>?_|refine Gb λb w hS=>?_
  (apply zd (zZ H x t hx) hS;exact Xp;clear hS)
  (rintro v post ⟨rfl,rfl⟩ w hS;(try simp only[app]at hS);(repeat (first|refine Gp ?_|refine Gw λw hS=>?_|refine Gb λb w hS=>?_)))
  refine zK (λhm=>hfin (Heap.le_refl H) (commitK_a (.inl hm)) (SL.into hS Xi)) (λhm=>?_)
  obtain⟨rv,pv,⟨hr,hp⟩,hS⟩:=RSnkO.open (k:=k) hS Xr
  rw[ex]at hS
  repeat first|refine Gp ?_|refine Gw λw hS=>?_|refine Gb λb w hS=>?_
  have hS:=RSnkO.put k hS hr hp Xp
  rw[← ex]at hS
  refine ze (λhl=>?_) (λhl=>?_)
  ·refine zA hS Xh rfl ?_
   (apply zd (ZH kp xp lp rp H k x t hx hk.rq) hS;exact Xp;clear hS)
   rintro v post ⟨rfl,H1,h01,rfl⟩ w hS
   (try simp only[app]at hS)
   repeat first|refine Gp ?_|refine Gw λw hS=>?_|refine Gb λb w hS=>?_
   refine zK (λhn=>?_) (λhn=>?_)
   ·refine hfin h01 (commitK_a (.inr ⟨hl,?_⟩)) (SL.into hS Xi)
    cases hc:fitsR k.ts.length k.reqs t with
    | none=>rfl
    | some L=>rw[hc]at hn;cases hn
   ·refine⟨rfl,λh=>?_,H1,h01,SL.into hS Xi⟩
    rcases h with h|⟨_,h⟩
    ·rw[hm]at h;cases h
    ·rw[h]at hn;cases hn
  ·refine⟨rfl,λh=>?_,H,Heap.le_refl H,SL.into hS Xi⟩
   rcases h with h|⟨h,_⟩
   ·rw[hm]at h;cases h
   ·exact hl h
 clear hS
 rintro w ⟨-,hnq,H1,h01,hS⟩
 have hx1:=hx.mono h01
 have hm:mayItem t=true:=by
  cases hb:mayItem t with
  | true=>rfl
  | false=>exact absurd (.inl hb) hnq
 have hbl:=(bytesItem_len hm).2
 have hfit:k.lsn<t.lsn→notesR k.reqs t.notes=some ((fitsR k.ts.length k.reqs t).getD []):=λhl=>by
  cases hc:fitsR k.ts.length k.reqs t with
  | none=>exact absurd (.inr ⟨hl,hc⟩) hnq
  | some L=>exact (fitsR_may hc).2.2
 obtain⟨rv,pv,⟨hr,hp⟩,hS⟩:=RSnkO.open (k:=k) hS Xr
 obtain⟨fv,ys,he,hS⟩:=RDO.iff.1 (Has.front (c:=.ob (RDO H1 xp k.d)) hS Xr)
 repeat first|refine Gp ?_|refine Gw λw hS=>?_|refine Gb λb w hS=>?_
 have hS:=RDO.put k.d hS he Xp
 refine yO (λho=>?_) (λho=>?_)
 ·have hS:=RSnkO.put k hS hr hp Xp
  exact hfin h01 (commitK_o hnq ho) (SL.into hS Xi)
 have hcm:k.commitK t=(match k.plan with
   | []=>if k.lsn<t.lsn then k.writeK t ((fitsR k.ts.length k.reqs t).getD []) else (k,0)
   | f::r=>if f.kind=3 then (if k.lsn<t.lsn then (((({k with plan:=r}:PSink).writeK t ((fitsR k.ts.length k.reqs t).getD [])).1),if (({k with plan:=r}:PSink).writeK t ((fitsR k.ts.length k.reqs t).getD [])).2=0 then 9 else (({k with plan:=r}:PSink).writeK t ((fitsR k.ts.length k.reqs t).getD [])).2) else ({k with plan:=r},9))
    else if f.kind=2∧k.lsn<t.lsn then ((({k with plan:=r}:PSink).tearK t f.keep).1,if (({k with plan:=r}:PSink).tearK t f.keep).2=0 then 9 else (({k with plan:=r}:PSink).tearK t f.keep).2)
    else ({k with plan:=r},9)):=by
  unfold PSink.commitK;rw[if_neg hnq,if_neg (by rw[ho];decide)];rfl
 generalize hLL:(fitsR k.ts.length k.reqs t).getD []=LL at *
 repeat first|refine Gp ?_|refine Gw λw hS=>?_|refine Gb λb w hS=>?_
 refine zq hp ?_
 repeat first|refine Gp ?_|refine Gw λw hS=>?_|refine Gb λb w hS=>?_
 cases hpl:k.plan with
 | nil=>
  rw[hpl]at hcm
  simp only at hcm
  refine ze (λ_=>?_) (λh=>absurd rfl h)
  have hS:=RSnkO.put k hS hr hp Xp
  refine zA hS Xh rfl ?_
  (apply zd (Zu kp xp lp rp H1 k x t LL hx1 hm hfit hk) hS;exact Xp;clear hS)
  rintro v post ⟨rfl,H2,h12,rfl⟩ w hS
  (try simp only[app]at hS)
  rw[← hcm]at hS ⊢
  exact hfin (z:=(k.commitK t).1) (e:=(k.commitK t).2) (Heap.le_trans h01 h12) rfl (SL.into hS Xi)
 | cons f r=>
  rw[hpl]at hcm hp
  simp only at hcm
  have hpm:∀f∈r,mayFt f=true:=λy hy=>hk.plm y (by rw[hpl];exact .tail _ hy)
  have hrl:r.length≤1024:=by have:=hk.pl;rw[hpl,List.length_cons]at this;omega
  have hk2:=hk.plan hrl hpm
  have hfk:0≤f.keep:=nxt_keep (L:=f::r) (by rw[← hpl];exact hk.plm)
  have hfk2:f.keep≤9223372036854775807:=hkeep f (by rw[hpl];exact .head _)
  refine ze (λh=>by rw[List.length_cons]at h;omega) (λ_=>?_)
  repeat first|refine Gp ?_|refine Gw λw hS=>?_|refine Gb λb w hS=>?_
  refine zH (j:=0) (k:=.i64) hS Xh encFt_len hp (x:=f) rfl (by simp) ?_
  repeat first|refine Gp ?_|refine Gw λw hS=>?_|refine Gb λb w hS=>?_
  refine QX (k:=1) hp (by simp) λpv2 hp2=>?_
  have hp2:RdFt H1 pv2 r:=hp2
  have h1:=hp2.one
  repeat first|refine Gp ?_|refine Gw λw hS=>?_|refine Gb λb w hS=>?_
  generalize hk'':({k with plan:=r}:PSink)=k' at *
  have hkk:k'.lsn=k.lsn∧k'.reqs=k.reqs∧k'.ts=k.ts∧k'.g=k.g∧k'.d=k.d:=by rw[← hk''];exact⟨rfl,rfl,rfl,rfl,rfl⟩
  obtain⟨k1,k2,k3,k4,k5⟩:=hkk
  have hcl:∀{w:World} {l F':List Chunk},SL W l w→Pick [.pt kp (rkcells xp lp rp rv k.lsn pv2) 41,.ob (Ref H1 rp k.ts),.ob (RLogO lp xp k.g),.ob (RDO H1 xp k.d)] l F'→SL W (.ob (RSnkO kp xp lp rp H1 k')::F') w:=λhS p=>by
   rw[← hk''];exact RSnkO.putN hS hr hp2 p
  have hend:∀{w:World} {H':Heap} {z:PSink} {e:Int},H.le H'→k.commitK t=(z,if e=0 then 9 else e)→SL W (.ob (RSnkO kp xp lp rp H' z)::.mem H'::F) w→HIf (.bool (decide (e=0))) (∃post,RKAns kp xp lp rp H (k.commitK t) (.int .i64 9) post∧SL W (app post F) w) (∃post,RKAns kp xp lp rp H (k.commitK t) (.int .i64 e) post∧SL W (app post F) w):=λhh hc hS=>by
   refine ze (λh0=>?_) (λh0=>?_)
   ·rw[if_pos h0]at hc;exact hfin hh hc hS
   ·rw[if_neg h0]at hc;exact hfin hh hc hS
  refine ze (λh3=>?_) (λh3=>?_)
  ·rw[if_pos h3]at hcm
   have hS:=hcl hS Xp
   refine zA hS Xh rfl ?_
   (apply zd (Zu kp xp lp rp H1 k' x t LL hx1 hm (by rw[k1,k2];exact hfit) hk2) hS;exact Xp;clear hS)
   rintro v post ⟨rfl,H2,h12,rfl⟩ w hS
   (try simp only[app]at hS)
   rw[k1]at hS ⊢
   repeat first|refine Gp ?_|refine Gw λw hS=>?_|refine Gb λb w hS=>?_
   refine hend (Heap.le_trans h01 h12) ?_ (SL.into hS Xi)
   rw[hcm]
   by_cases hl:k.lsn<t.lsn
   ·rw[if_pos hl,if_pos hl]
   ·rw[if_neg hl,if_neg hl];rfl
  ·rw[if_neg h3]at hcm
   repeat first|refine Gp ?_|refine Gw λw hS=>?_|refine Gb λb w hS=>?_
   have h9:∀{w:World} {l:List Chunk},¬(f.kind=2∧k.lsn<t.lsn)→SL W (.ob (RSnkO kp xp lp rp H1 k')::.mem H1::F) w→zc .eql (.int .i64 0) (.int .i64 0) λv=>HIf v (∃post,RKAns kp xp lp rp H (k.commitK t) (.int .i64 9) post∧SL W (app post F) w) (∃post,RKAns kp xp lp rp H (k.commitK t) (.int .i64 0) post∧SL W (app post F) w):=λh hS=>by
    repeat first|refine Gp ?_|refine Gw λw hS=>?_|refine Gb λb w hS=>?_
    exact hend (e:=0) h01 (by rw[hcm,if_neg h];rfl) hS
   refine ze (λh2=>?_) (λh2=>?_)
   ·rw[ex]at hS
    repeat first|refine Gp ?_|refine Gw λw hS=>?_|refine Gb λb w hS=>?_
    rw[← ex]at hS
    refine ze (λhl=>?_) (λhl=>?_)
    ·rw[if_pos ⟨h2,hl⟩]at hcm
     refine zA hS Xh rfl ?_
     (apply zd (Zm H1 x t hx1) hS;exact Xp;clear hS)
     rintro r post hqe w hS
     unfold EncIQ at hqe
     rw[bytesItem_ok hm]at hqe
     obtain⟨bv,rfl,rfl⟩:=hqe
     (try simp only[app]at hS)
     repeat first|refine Gp ?_|refine Gw λw hS=>?_|refine Gb λb w hS=>?_
     obtain⟨H2,h12,hbR,hS⟩:=zz (H:=H1) (v:=bv) (n:=(bytesItem t).length) (sz:=1) (t:=5) (cells:=(bytesItem t).map u8c) hS Xp
     have hS:=RDO.monoP h12 hS Xr
     have hle:=hk.le
     have hop:=hk.ops
     (apply zd (YL H2 lp xp k.g k.d bv (bytesItem t) f.keep hbR (by omega) hk.g (by omega) hk.d (by omega) (by omega) hfk2) hS;exact Xp;clear hS)
     rintro v post ⟨rfl,H3,h23,rfl⟩ w hS
     (try simp only[app]at hS)
     have h13:=Heap.le_trans h12 h23
     have hS:=Ref.monoP h13 hS Xr
     have hS:=RSnkO.putN hS (hr.mono h13) (hp2.mono h13) Xp
     have ez:PSink.mk (tearG k.g k.d (bytesItem t) f.keep).1.1 (tearG k.g k.d (bytesItem t) f.keep).1.2 k.ts r k.lsn k.reqs=(k'.tearK t f.keep).1:=by unfold PSink.tearK;simp only;rw[k4,k5,← hk'']
     rw[ez]at hS
     have he2:(tearG k.g k.d (bytesItem t) f.keep).2=(k'.tearK t f.keep).2:=by unfold PSink.tearK;simp only;rw[k4,k5]
     rw[he2]
     repeat first|refine Gp ?_|refine Gw λw hS=>?_|refine Gb λb w hS=>?_
     exact hend (Heap.le_trans h01 h13) hcm (SL.into hS Xi)
    ·have hS:=hcl hS Xp
     exact h9 (l:=[]) (λh=>hl h.2) (SL.into hS Xi)
   ·have hS:=hcl hS Xp
    exact h9 (l:=[]) (λh=>h2 h.1) (SL.into hS Xi)
def ROpenKQ(xp:Nat)(H:Heap)(y:DS × Except Int PSink)(r:Value)(post:List Chunk):Prop:=match y.2 with
 | .error e=>e≠0∧∃H',H.le H'∧r= .tuple #[.pointer none,.int .i64 e]∧post=[.ob (RDO H' xp y.1),.mem H']
 | .ok k=>∃(kp lp rp:Nat) (H':Heap),H.le H'∧r= .tuple #[ptrO kp,.int .i64 0]∧post=[.ob (RSnkO kp xp lp rp H' k),.mem H']
theorem ents_bl{N:Nat}:∀{L:List PSeg},(∀s∈L,SegOk s N)→∀b∈entsG L,b.length≤1048576
 | [],_,b,hb=>by cases hb
 | s::L,h,b,hb=>by
  rw[entsG_cons]at hb
  rcases List.mem_append.1 hb with hb|hb
  ·exact (h s (.head _)).bl b hb
  ·exact ents_bl (λx hx=>h x (.tail _ hx)) b hb
theorem YI(H:Heap)(xp:Nat)(d:DS)(tabs size:Int){N:Nat}(hok:d.Ok N)(hN:N≤100000000)(hops:d.ops≤90000)(hn:∀d' g,openG d 8192 size=(d',.ok g)→(entsG g.segs).length≤200):
  SP 24 [ptrO xp,.int .i64 tabs,.int .i64 size] [.ob (RDO H xp d),.mem H] (ROpenKQ xp H (openK d tabs size)):=by
 intro W F w hS;apply vc24;unfold Vc24;(try simp only[app]at hS)
 have hR:=hok.rlen
 by_cases ht:tabs<1∨8<tabs
 ·have e:openK d tabs size=(d,.error 1):=by unfold openK;rw[if_pos ht]
  rw[e]
  have hE:∀{w:World},SL W (.ob (RDO H xp d)::.mem H::F) w→∃post,ROpenKQ xp H (d,.error 1) (.tuple #[.pointer none,.int .i64 1]) post∧SL W (app post F) w:=λhS=>⟨_,⟨by decide,H,Heap.le_refl H,rfl,rfl⟩,hS⟩
  repeat first|refine Gp ?_|refine Gw λw hS=>?_|refine Gb λb w hS=>?_
  refine ze (λ_=>hE hS) (λh1=>?_)
  repeat first|refine Gp ?_|refine Gw λw hS=>?_|refine Gb λb w hS=>?_
  exact ze (λ_=>hE hS) (λh=>by omega)
 obtain⟨n,rfl⟩:∃n:Nat,tabs=n:=⟨tabs.toNat,by omega⟩
 repeat first|refine Gp ?_|refine Gw λw hS=>?_|refine Gb λb w hS=>?_
 refine ze (λh=>by omega) (λ_=>?_)
 repeat first|refine Gp ?_|refine Gw λw hS=>?_|refine Gb λb w hS=>?_
 refine ze (λh=>by omega) (λ_=>?_)
 (apply zd (qA H xp d 8192 size hok (by omega) (by omega) (by omega)) hS;exact Xp;clear hS)
 rintro r post hq w hS
 unfold openK
 rw[if_neg ht]
 unfold ROpenQ at hq
 cases hog:openG d 8192 size with
 | mk d' o=>
 rw[hog]at hq
 cases o with
 | error e=>
  obtain⟨he,rfl,H1,h01,rfl⟩:=hq
  (try simp only[app]at hS)
  repeat first|refine Gp ?_|refine Gw λw hS=>?_|refine Gb λb w hS=>?_
  refine ze (λ_=>?_) (λh=>absurd he h)
  exact⟨_,⟨he,H1,h01,rfl,rfl⟩,SL.into hS Xi⟩
 | ok g=>
 obtain⟨lp,H1,h01,rfl,rfl⟩:=hq
 (try simp only[app]at hS)
 repeat first|refine Gp ?_|refine Gw λw hS=>?_|refine Gb λb w hS=>?_
 refine ze (λh=>absurd rfl h) (λ_=>?_)
 repeat first|refine Gp ?_|refine Gw λw hS=>?_|refine Gb λb w hS=>?_
 (apply zd (rnew_ok H1 n (by omega) (by omega)) hS;exact Xp;clear hS)
 rintro _ post ⟨rp,rfl,rfl⟩ w hS
 (try simp only[app]at hS)
 repeat first|refine Gp ?_|refine Gw λw hS=>?_|refine Gb λb w hS=>?_
 refine zB hS λkp w hS=>?_
 have hgk:=openG_GOk hok (by omega) hog
 have hbl:=batches_len hgk.seq
 have hel:=hn d' g hog
 have hlow:=lowG_in hgk.ok.segs
 have hhd:=hgk.hd
 generalize hk0:(PSink.mk g d' (List.replicate n []) [] 0 [])=k
 have hkg:k.g=g∧k.d=d'∧k.tr=t00 n∧k.ts.length=n∧∀t:Tr,k.at t=⟨g,d',t.1,[],t.2.2,t.2.1⟩:=by
  rw[← hk0];exact⟨rfl,rfl,rfl,List.length_replicate,λt=>rfl⟩
 obtain⟨k1,k2,k3,k4,k5⟩:=hkg
 have hS:SL W (.ob (RSnkO kp xp lp rp H1 (k.at k.tr))::.mem H1::F) w:=by
  rw[k5,k3]
  have hS:=RSnkO.putN (plan:=[]) (reqs:=[]) (rv:=.slice none 0 0) (pv:=.slice none 0 0) hS (RdSl.nil H1 7) (RdSl.nil H1 2) Xp
  have hS:SL W (.ob (RSnkO kp xp lp rp H1 ⟨g,d',(t00 n).1,[],(t00 n).2.2,(t00 n).2.1⟩)::_) _:=hS
  exact SL.into hS Xi
 rw[Int.toNat_natCast]
 simp only
 have hF:∀{w:World} {H2:Heap} {t:Tr},(if lowG g.segs≠1∧lowG g.segs≤headG g.segs then (d',(.error 3:Except Int PSink)) else match redoT n (entsG g.segs) (t00 n) with
    | none=>(d',.error 3)
    | some t=>(d',.ok ⟨g,d',t.1,[],t.2.2,t.2.1⟩))=(d',.error 3)→H1.le H2→SL W (.ob (RSnkO kp xp lp rp H2 (k.at t))::.mem H2::F) w→∃post,ROpenKQ xp H (if lowG g.segs≠1∧lowG g.segs≤headG g.segs then (d',(.error 3:Except Int PSink)) else match redoT n (entsG g.segs) (t00 n) with
    | none=>(d',.error 3)
    | some t=>(d',.ok ⟨g,d',t.1,[],t.2.2,t.2.1⟩)) (.tuple #[.pointer none,.int .i64 3]) post∧SL W (app post F) w:=λhe hh hS=>by
  rw[he]
  obtain⟨rv,pv,_,hS⟩:=RSnkO.iff.1 hS
  rw[k5]at hS
  exact⟨[.ob (RDO _ xp d'),.mem _],⟨by decide,_,Heap.le_trans h01 hh,rfl,rfl⟩,SL.into hS Xi⟩
 have hcl:∀{w:World} {H2:Heap} {t:Tr} {rv pv:Value} {l F':List Chunk},RdRq H2 rv t.2.1→RdFt H2 pv []→SL W l w→Pick [.pt kp (rkcells xp lp rp rv t.2.2 pv) 41,.ob (Ref H2 rp t.1),.ob (RLogO lp xp g),.ob (RDO H2 xp d')] l F'→SL W (.ob (RSnkO kp xp lp rp H2 (k.at t))::F') w:=λhr hp hS p=>by
  rw[k5];exact RSnkO.putN hS hr hp p
 have hop:∀{w:World} {H2:Heap} {t:Tr} {l:List Chunk},SL W (.ob (RSnkO kp xp lp rp H2 (k.at t))::l) w→∃rv pv,(RdRq H2 rv t.2.1∧RdFt H2 pv [])∧SL W (.pt kp (rkcells xp lp rp rv t.2.2 pv) 41::.ob (Ref H2 rp t.1)::.ob (RLogO lp xp g)::.ob (RDO H2 xp d')::l) w:=λhS=>by
  rw[k5]at hS;exact RSnkO.iff.1 hS
 refine⟨λus w=>us=[]∧¬(lowG g.segs≠1∧lowG g.segs≤headG g.segs)∧SL W (.ob (RSnkO kp xp lp rp H1 (k.at k.tr))::.mem H1::F) w,?_,?_⟩
 ·obtain⟨rv,pv,⟨hr,hp⟩,hS⟩:=hop hS
  (apply zd (yG lp xp g hgk.ok (by omega)) hS;exact Xp;clear hS)
  (rintro v post ⟨rfl,rfl⟩ w hS;(try simp only[app]at hS);(repeat (first|refine Gp ?_|refine Gw λw hS=>?_|refine Gb λb w hS=>?_)))
  refine ze (λh1=>?_) (λh1=>?_)
  ·(apply zd (z8 lp xp g hgk.ok (by omega)) hS;exact Xp;clear hS)
   (rintro v post ⟨rfl,rfl⟩ w hS;(try simp only[app]at hS);(repeat (first|refine Gp ?_|refine Gw λw hS=>?_|refine Gb λb w hS=>?_)))
   (apply zd (yG lp xp g hgk.ok (by omega)) hS;exact Xp;clear hS)
   (rintro v post ⟨rfl,rfl⟩ w hS;(try simp only[app]at hS);(repeat (first|refine Gp ?_|refine Gw λw hS=>?_|refine Gb λb w hS=>?_)))
   have hS:=hcl (t:=k.tr) hr hp hS Xp
   refine ze (λh3=>?_) (λh3=>?_)
   ·exact hF (if_pos ⟨h1,h3⟩) (Heap.le_refl H1) (SL.into hS Xi)
   ·exact⟨rfl,λh=>h3 h.2,SL.into hS Xi⟩
  ·have hS:=hcl (t:=k.tr) hr hp hS Xp
   exact⟨rfl,λh=>h1 h.1,SL.into hS Xi⟩
 clear hS
 rintro w ⟨-,hlw,hS⟩
 rw[if_neg hlw]at hF ⊢
 obtain⟨rv,pv,⟨hr,hp⟩,hS⟩:=hop hS
 (apply zd (yG lp xp g hgk.ok (by omega)) hS;exact Xp;clear hS)
 (rintro v post ⟨rfl,rfl⟩ w hS;(try simp only[app]at hS);(repeat (first|refine Gp ?_|refine Gw λw hS=>?_|refine Gb λb w hS=>?_)))
 have hS:=hcl (t:=k.tr) hr hp hS Xp
 refine⟨λus w=>∃(i:Nat) (t:Tr) (H2:Heap),us=[.int .i64 (lowG g.segs+i)]∧i≤(entsG g.segs).length∧redoT n (entsG g.segs) (t00 n)=redoT n ((entsG g.segs).drop i) t∧TOkK t n (200-i)∧H1.le H2∧SL W (.ob (RSnkO kp xp lp rp H2 (k.at t))::.mem H2::F) w,
  λus _=>match us with|[.int _ i]=>(headG g.segs+1-i).toNat|_=>0,⟨0,k.tr,H1,by simp,Nat.zero_le _,by rw[k3];rfl,by rw[k3];exact⟨List.length_replicate,okS_nil n,small_nil n 200 (by decide),by simp[t00]⟩,Heap.le_refl H1,SL.into hS Xi⟩,?_⟩
 clear hS
 rintro v11 w ⟨i,t,H2,hus,hi,hrd,hT,h12,hS⟩
 cases hus
 obtain⟨rv,pv,⟨hr,hp⟩,hS⟩:=hop hS
 (apply zd (z8 lp xp g hgk.ok (by omega)) hS;exact Xp;clear hS)
 (rintro v post ⟨rfl,rfl⟩ w hS;(try simp only[app]at hS);(repeat (first|refine Gp ?_|refine Gw λw hS=>?_|refine Gb λb w hS=>?_)))
 refine ze (λh=>?_) (λh=>?_)
 ·have hil:i<(entsG g.segs).length:=by omega
  have hread:=hgk.seq.read i
  rw[List.getElem?_eq_getElem hil]at hread
  rw[List.drop_eq_getElem_cons hil]at hrd
  have hbm:=List.getElem_mem hil
  generalize (entsG g.segs)[i]=bs at *
  have hrd:redoT n (entsG g.segs) (t00 n)=match decItem bs with
   | .ok x=>match stepT n t x with
    | some t'=>redoT n ((entsG g.segs).drop (i+1)) t'
    | none=>none
   | .error _=>none:=hrd
  (apply zd (YD lp xp g (lowG g.segs+i) hgk (by omega) (by omega)) hS;exact Xp;clear hS)
  rintro r post hq w hS
  rw[hread]at hq
  obtain⟨u,rfl,rfl⟩:=hq
  (try simp only[app]at hS)
  repeat first|refine Gp ?_|refine Gw λw hS=>?_|refine Gb λb w hS=>?_
  have hbl2:bs.length≤140737488355328:=by
   have:=ents_bl hgk.ok.segs _ hbm
   omega
  (apply zd (Yg (.ob (OwnSl u 5 1 bs.length (bs.map u8c))) H2 u bs Rdb.own hbl2) hS;exact Xp;clear hS)
  rintro r post hq w hS
  unfold DecIQ at hq
  cases hd:decItem bs with
  | error e=>
   rw[hd]at hq hrd
   obtain⟨hne,H3,h23,rfl,rfl⟩:=hq
   (try simp only[app]at hS)
   have hS:=Ref.monoP h23 hS Xr
   have hS:=RDO.monoP h23 hS Xr
   have hS:=hcl (t:=t) (hr.mono h23) (hp.mono h23) hS Xp
   repeat first|refine Gp ?_|refine Gw λw hS=>?_|refine Gb λb w hS=>?_
   refine ze (λ_=>?_) (λh=>absurd hne h)
   exact hF (by rw[hrd]) (Heap.le_trans h12 h23) (SL.into hS Xi)
  | ok x=>
   rw[hd]at hq hrd
   obtain⟨xv,H3,h23,rfl,hx,rfl⟩:=hq
   have hxm:=decItem_may hd
   have hxo:=(mayItem_iff.1 hxm).1.2.2.1
   have hxc:encIt xv=[.int .i64 x.lsn,xv.ov,xv.nv]:=by unfold encIt;rw[hx.lsn]
   (try simp only[app]at hS)
   have hS:=Ref.monoP h23 hS Xr
   have hS:=RDO.monoP h23 hS Xr
   have hr:=hr.mono h23
   have hp:=hp.mono h23
   have h1:=encIt_one hx
   refine Gp ?_
   refine zJ hS λxb w hS=>?_
   refine zP hS Xu rfl rfl h1 λw hS=>?_
   rw[hxc]at hS
   repeat first|refine Gp ?_|refine Gw λw hS=>?_|refine Gb λb w hS=>?_
   refine ze (λh=>absurd rfl h) (λ_=>?_)
   repeat first|refine Gp ?_|refine Gw λw hS=>?_|refine Gb λb w hS=>?_
   have hno:stepT n t x=none→redoT n (entsG g.segs) (t00 n)=none:=λh=>by rw[hrd];simp only;rw[h]
   refine ze (λh5=>?_) (λh5=>?_)
   ·have hS:=hcl (t:=t) hr hp hS Xp
    refine hF (by rw[hno];unfold stepT;split;rw[if_neg (by omega)];rfl) (Heap.le_trans h12 h23) (SL.into hS Xi)
   ·have hS:=hcl (t:=t) hr hp hS Xp
    rw[← hxc]at hS
    refine zA hS Xh rfl ?_
    have hfit:fitsR (k.at t).ts.length (k.at t).reqs x=fitsR n t.2.1 x:=by rw[show (k.at t).ts.length=n from hT.len];rfl
    (apply zd (ZH kp xp lp rp H3 (k.at t) xv x hx hT.rq) hS;exact Xp;clear hS)
    rintro _ post ⟨rfl,H4,h34,rfl⟩ w hS
    (try simp only[app]at hS)
    rw[hfit]
    repeat first|refine Gp ?_|refine Gw λw hS=>?_|refine Gb λb w hS=>?_
    have h14:=Heap.le_trans h12 (Heap.le_trans h23 h34)
    cases hc:fitsR n t.2.1 x with
    | none=>
     refine zy ?_
     exact hF (by rw[hno];unfold stepT;rw[hc]) h14 (SL.into hS Xi)
    | some L=>
     refine zr ?_
     refine zA hS Xh rfl ?_
     have hst:stepT n t x=some ((putAll t.1 x.ops).1,L,x.lsn):=stepT_of hc (by omega)
     have hT':TOkK ((putAll t.1 x.ops).1,L,x.lsn) n (200-(i+1)):=by
      have:200-i=(200-(i+1))+1:=by omega
      rw[this]at hT
      exact hT.step hst
     have hrd':redoT n (entsG g.segs) (t00 n)=redoT n ((entsG g.segs).drop (i+1)) ((putAll t.1 x.ops).1,L,x.lsn):=by rw[hrd];simp only;rw[hst]
     (apply zd (Ye kp xp lp rp H4 (k.at t) xv x L (hx.mono h34) hxm (fitsR_may hc).2.2 hT.rq hT.ok (small_mono hT.room (by omega))) hS;exact Xp;clear hS)
     rintro v post ⟨rfl,H5,h45,rfl⟩ w hS
     (try simp only[app]at hS)
     repeat first|refine Gp ?_|refine Gw λw hS=>?_|refine Gb λb w hS=>?_
     have hS:SL W (.ob (RSnkO kp xp lp rp H5 (k.at ((putAll t.1 x.ops).1,L,x.lsn)))::_) _:=hS
     refine⟨⟨i+1,((putAll t.1 x.ops).1,L,x.lsn),H5,by rw[show lowG g.segs+(i:Int)+1=lowG g.segs+((i+1:Nat):Int) by omega],by omega,hrd',hT',Heap.le_trans h14 h45,SL.into hS Xi⟩,by dsimp only;omega⟩
 ·have hie:i=(entsG g.segs).length:=by omega
  subst hie
  rw[List.drop_length]at hrd
  have hrd:redoT n (entsG g.segs) (t00 n)=some t:=hrd
  rw[hrd]
  have hS:=hcl (t:=t) hr hp hS Xp
  rw[k5]at hS
  exact⟨_,⟨kp,lp,rp,H2,Heap.le_trans h01 h12,rfl,rfl⟩,SL.into hS Xi⟩
theorem eq_cell(a b:Cell)(w:World):(Op.equal 80 (agg (encCell a)) (agg (encCell b))).run Tryz.prog w= .ok (decide (a=b)) w:=by
 refine run_eqG Tryz.underlying80 (by kernel_rfl) ?_
 obtain⟨k,n,g,v⟩:=a
 obtain⟨k',n',g',v'⟩:=b
 simp[encCell,Op.eqFields,part,run_equalIn_int (h:=Tryz.underlying2),run_equalIn_bool' (h:=Tryz.underlying4),run_equalIn_string (h:=Tryz.underlying9),Result.andThen,toList_inj]
 by_cases h0:k=k'<;>by_cases h1:n=n'<;>by_cases h2:g=g'<;>by_cases h3:v=v'<;>simp[*]
theorem one_cell(a b:Cell):SP 113 [agg (encCell a),agg (encCell b)] [] (Gives (.bool (decide (a=b))) []):=by
 intro W F w hS;apply vc113;unfold Vc113;(try simp only[app]at hS)
 refine⟨_,rfl,zJ hS ?_⟩
 clear hS;intro b1 w hS
 refine⟨_,rfl,zJ hS ?_⟩
 clear hS;intro b2 w hS
 refine zA hS Xh rfl (zA hS Xh rfl (QU (eq_cell a b w) ?_))
 (exact⟨_,⟨rfl,rfl⟩,SL.into hS Xi⟩)
theorem plain_cell(H:Heap)(u v:Value)(A B:List Cell)(hu:RdSl H 4 u A.length (A.map encCell).flatten)(hv:RdSl H 4 v B.length (B.map encCell).flatten)(hn:A.length≤9223372036854775806):
  SP 34 [u,v] [.mem H] (Gives (.bool (decide (A=B))) [.mem H]):=by
 intro W F w hS;apply vc34;unfold Vc34;(try simp only[app]at hS)
 (apply zd (same_gen encCell_len rfl (λv0 v1 v2 w R h=>vc112 v0 v1 v2 w R h) one_cell H u v A B hu hv hn) hS;exact Xp;clear hS)
 rintro v post ⟨rfl,rfl⟩ w hS
 (try simp only[app]at hS)
 (exact⟨_,⟨rfl,rfl⟩,SL.into hS Xi⟩)
structure TX(t:Tr)(n m:Nat):Prop where
 k:TOkK t n m
 l0:0≤t.2.2
 l1:t.2.2≤1099511627776
 rq:MayP t.2.1
theorem notesR_may{L L':List Rq}:∀{l:List PNote},notesR L l=some L'→MayP L→MayP L'
 | [],h,hl=>by cases h;exact hl
 | n::l,h,hl=>by
  unfold notesR at h
  cases hn:noteR L n with
  | none=>rw[hn]at h;cases h
  | some L2=>
   rw[hn]at h
   refine notesR_may h ?_
   unfold noteR at hn
   split at hn
   ·exact chunkR_may hn
   ·split at hn
    ·rename_i L3 h3
     split at hn
     ·cases hn;exact acceptR_may h3
     ·cases hn
    ·cases hn
theorem TX.step{t t':Tr}{n m:Nat}(h:TX t n (m+1)){x:PItem}(hs:stepT n t x=some t'):TX t' n m:=by
 have hk:=h.k.step hs
 unfold stepT at hs
 cases hf:fitsR n t.2.1 x with
 | none=>rw[hf]at hs;cases hs
 | some L=>
  rw[hf]at hs
  simp only at hs
  split at hs
  ·cases hs
   obtain⟨hm,_,hn⟩:=fitsR_may hf
   have h1:=(mayItem_iff.1 hm).1
   exact⟨hk,by show 0≤x.lsn;omega,by show x.lsn≤_;omega,notesR_may hn h.rq⟩
  ·cases hs
theorem TX.run{n:Nat}:∀(xs:List PItem) (t t':Tr) (m:Nat),TX t n (m+xs.length)→runT n xs t=some t'→TX t' n m
 | [],t,t',m,h,hr=>by cases hr;exact h
 | x::xs,t,t',m,h,hr=>by
  have hr:(match stepT n t x with|some t'=>runT n xs t'|none=>none)=some t':=hr
  cases hs:stepT n t x with
  | none=>rw[hs]at hr;cases hr
  | some t1=>
   rw[hs]at hr
   rw[List.length_cons,show m+(xs.length+1)=(m+xs.length)+1 by omega]at h
   exact TX.run xs t1 t' m (h.step hs) hr
theorem mayP_nil:MayP []:=⟨by simp,λi h=>by simp at h⟩
theorem TX.zero(n m:Nat)(hm:4096*m≤1000000):TX (t00 n) n m:=⟨⟨List.length_replicate,okS_nil n,small_nil n m hm,by simp[t00]⟩,by show (0:Int)≤0;decide,by show (0:Int)≤_;decide,mayP_nil⟩
structure PInv(n:Nat)(k:PSink)(j:Nat)(xs:List PItem)(m:Option PItem):Prop where
 s:SInv n k xs m
 len:xs.length≤j
 g:GOk k.g (1000000*(j+1))
 d:k.d.Ok (1000000*(j+1))
 ops:k.d.ops≤10*(j+1)
 pl:k.plan.length≤j
 plm:∀f∈k.plan,mayFt f=true
 keep:∀f∈k.plan,f.keep≤9223372036854775807
theorem PInv.tx{n:Nat}{k:PSink}{j:Nat}{xs:List PItem}{m:Option PItem}(h:PInv n k j xs m)(hj:j≤100):TX k.tr n 100:=by
 have hl:=h.len
 have:=TX.run (n:=n) xs (t00 n) k.tr (200-xs.length) (by rw[show 200-xs.length+xs.length=200 by omega];exact TX.zero n 200 (by decide)) h.s.run
 exact⟨⟨this.k.len,this.k.ok,small_mono this.k.room (by omega),this.k.rq⟩,this.l0,this.l1,this.rq⟩
theorem PInv.kok{n:Nat}{k:PSink}{j:Nat}{xs:List PItem}{m:Option PItem}(h:PInv n k j xs m)(hj:j≤100)(n8:n≤8):KOk k (1000000*(j+1)) 100:=by
 have ht:=h.tx hj
 have ho:=h.ops
 have hp:=h.pl
 exact⟨h.g,h.d,by omega,by omega,by omega,h.plm,by rw[h.s.len];exact n8,ht.k.ok,ht.k.room,ht.k.rq⟩
theorem commitK_gd(k:PSink)(x:PItem):((k.commitK x).1.g=k.g∧(k.commitK x).1.d=k.d)∨(mayItem x=true∧(((k.commitK x).1.g=(appendG k.g k.d (bytesItem x)).1.1∧(k.commitK x).1.d=(appendG k.g k.d (bytesItem x)).1.2)∨∃n,(k.commitK x).1.g=(tearG k.g k.d (bytesItem x) n).1.1∧(k.commitK x).1.d=(tearG k.g k.d (bytesItem x) n).1.2)):=by
 unfold PSink.commitK
 split
 ·exact .inl ⟨rfl,rfl⟩
 ·rename_i hn
  have hm:mayItem x=true:=by
   cases hb:mayItem x with
   | true=>rfl
   | false=>exact absurd (.inl hb) hn
  have hw:∀(k':PSink) (L:List Rq),k'.g=k.g→k'.d=k.d→(k'.writeK x L).1.g=(appendG k.g k.d (bytesItem x)).1.1∧(k'.writeK x L).1.d=(appendG k.g k.d (bytesItem x)).1.2:=λk' L h1 h2=>by
   unfold PSink.writeK
   simp only
   rw[h1,h2]
   split<;>exact⟨rfl,rfl⟩
  split
  ·exact .inl ⟨rfl,rfl⟩
  ·simp only
   split
   ·split
    ·exact .inr ⟨hm,.inl (hw _ _ rfl rfl)⟩
    ·exact .inl ⟨rfl,rfl⟩
   ·split
    ·split
     ·exact .inr ⟨hm,.inl (hw _ _ rfl rfl)⟩
     ·exact .inl ⟨rfl,rfl⟩
    ·split
     ·exact .inr ⟨hm,.inr ⟨_,rfl,rfl⟩⟩
     ·exact .inl ⟨rfl,rfl⟩
theorem commitK_plan(k:PSink)(x:PItem):∀f∈(k.commitK x).1.plan,f∈k.plan:=by
 have hw:∀(k':PSink) (L:List Rq),(k'.writeK x L).1.plan=k'.plan:=λk' L=>by
  unfold PSink.writeK
  simp only
  split<;>rfl
 unfold PSink.commitK
 split
 ·exact λf h=>h
 ·split
  ·exact λf h=>h
  ·simp only
   cases hp:k.plan with
   | nil=>
    simp only
    split
    ·intro f h;rw[hw,hp]at h;exact h
    ·intro f h;rw[← hp];exact h
   | cons y r=>
    simp only
    split
    ·split
     ·intro f h;rw[hw]at h;exact .tail _ h
     ·exact λf h=>.tail _ h
    ·split
     ·exact λf h=>.tail _ h
     ·exact λf h=>.tail _ h
theorem PInv.commit{n:Nat}{k:PSink}{j:Nat}{xs:List PItem}{m:Option PItem}(h:PInv n k j xs m)(hj:j≤100)(x:PItem):∃xs' m',PInv n (k.commitK x).1 (j+1) xs' m':=by
 have hl:=h.len
 obtain⟨xs',m',h1,h2,h3,h4,h5⟩:=h.s.commit h.d.arm0 (by omega) h.plm x
 have ho:=h.ops
 have hp:=h.pl
 refine⟨xs',m',h1,by omega,?_,?_,by omega,by omega,h3,λf hf=>h.keep f (commitK_plan k x f hf)⟩
 ·rcases commitK_gd k x with ⟨e,_⟩|⟨hm,⟨e,_⟩|⟨n,e,_⟩⟩
  ·rw[e];exact h.g.mono (by omega)
  ·have hb:=(bytesItem_len hm).2
   rw[e];exact (appendG_GOk h.g _).mono (by omega)
  ·rw[e];exact (tearG_GOk h.g _ _).mono (by omega)
 ·rcases commitK_gd k x with ⟨_,e⟩|⟨hm,⟨_,e⟩|⟨n,_,e⟩⟩
  ·rw[e];exact h.d.mono (by omega)
  ·have hb:=(bytesItem_len hm).2
   rw[e];exact (appendG_ok h.d _).mono (by omega)
  ·have hb:=(bytesItem_len hm).2
   rw[e];exact (tearG_ok h.d _ _).mono (by omega)
theorem PInv.push{n:Nat}{k:PSink}{j:Nat}{xs:List PItem}{m:Option PItem}(h:PInv n k j xs m){f:PFt}(hf:mayFt f=true)(hk:f.keep≤9223372036854775807):PInv n {k with plan:=k.plan++[f]} (j+1) xs m:=by
 have hl:=h.len
 have ho:=h.ops
 have hp:=h.pl
 refine⟨h.s.plan _,by omega,h.g.mono (by omega),h.d.mono (by omega),by show k.d.ops≤_;omega,by simp;omega,λy hy=>?_,λy hy=>?_⟩
 ·rcases List.mem_append.1 hy with hy|hy
  ·exact h.plm y hy
  ·rw[List.mem_singleton.1 hy];exact hf
 ·rcases List.mem_append.1 hy with hy|hy
  ·exact h.keep y hy
  ·rw[List.mem_singleton.1 hy];exact hk
theorem PInv.armed{n:Nat}{k:PSink}{j:Nat}{xs:List PItem}{m:Option PItem}(h:PInv n k j xs m){a:Int}(ha:a≤9223372036854775807):PInv n {k with d:=k.d.armed a} (j+1) xs m:=by
 have hl:=h.len
 have ho:=h.ops
 have hp:=h.pl
 exact⟨h.s.armed a,by omega,h.g.mono (by omega),(h.d.armed ha).mono (by omega),by show k.d.ops≤_;omega,by show k.plan.length≤_;omega,h.plm,h.keep⟩
theorem PInv.first{n:Nat}(n1:1≤n)(n8:n≤8){size:Int}(s0:64≤size)(s1:size≤65536):∃k,openK s00 ((n:Nat):Int) size=(k.d,.ok k)∧PInv n k 0 [] none∧k.plan=[]∧k.d=s00∧k.lsn=0∧(∀d' g,openG s00 8192 size=(d',.ok g)→(entsG g.segs).length≤200):=by
 have hog:openG s00 8192 size=(s00,.ok ⟨[],8192,size,none⟩):=by
  unfold openG
  rw[if_neg (by omega)]
  rfl
 have hl:LInv ⟨[],8192,size,none⟩ s00 8192 1 []:=⟨trivial,rfl,rfl,λ_=>⟨rfl,rfl⟩,Int.le_refl _,by show (0:Int)≤8192;decide,by show (8192:Int)≤12288;decide,s0,s1,by decide,by show (8192:Int)+(0:Nat)+2≤8192+4096;decide,rfl,rfl⟩
 refine⟨⟨⟨[],8192,size,none⟩,s00,(t00 n).1,[],0,[]⟩,?_,⟨⟨hl.st rfl _,by simp,rfl,List.length_replicate,λx hx=>by cases hx⟩,Nat.le_refl _,⟨⟨by simp,by show (0:Int)≤8192;decide,by show (8192:Int)≤12288;decide,s0,s1,by simp⟩,trivial,by show (0:Int)≤_;decide,λx hx=>by cases hx⟩,s00_ok _,by show s00.ops≤_;decide,by simp,by simp,by simp⟩,rfl,rfl,rfl,λd' g hg=>?_⟩
 ·unfold openK
  rw[if_neg (by omega),Int.toNat_natCast]
  simp only[hog]
  rfl
 ·rw[hog]at hg
  cases hg
  simp[entsG]
theorem PInv.good{n:Nat}{k:PSink}{j:Nat}{xs:List PItem}{m:Option PItem}(h:PInv n k j xs m)(hj:j≤100)(ho:k.d.off=false)(ha:k.d.arm=0)(hp:k.plan=[]){x:PItem}{L:List Rq}(hl:k.lsn<x.lsn)(hf:fitsR n k.reqs x=some L):
  (k.commitK x).2=0∧PInv n (k.commitK x).1 (j+1) (xs++[x]) none∧(k.commitK x).1.tr=((putAll k.ts x.ops).1,L,x.lsn)∧(k.commitK x).1.d.off=false∧(k.commitK x).1.d.arm=0∧(k.commitK x).1.plan=[]:=by
 have hlen:=h.len
 have hc:k.commitK x=k.writeK x L:=by
  unfold PSink.commitK
  rw[if_neg,if_neg (by rw[ho];decide),hp]
  ·simp only
   rw[if_pos hl,h.s.len,hf];rfl
  ·rintro (h1|⟨_,h1⟩)
   ·rw[(fitsR_may hf).1]at h1;cases h1
   ·rw[h.s.len,hf]at h1;cases h1
 obtain⟨xs',m',hI⟩:=h.commit hj x
 rcases writeK_inv h.s h.d.arm0 ho (by omega) hf hl with ⟨w1,w2,w3,w4,w5,w6,w7⟩|⟨_,_,_,_,_,w6,_⟩
 ·rw[hc]
  rw[hc]at hI
  exact⟨w1,⟨w2,by rw[List.length_append,List.length_singleton];omega,hI.g,hI.d,hI.ops,by rw[w4,hp];simp,by rw[w4,hp];simp,by rw[w4,hp];simp⟩,w3,w5,w6 ha,by rw[w4,hp]⟩
 ·exact absurd ha w6
theorem commitK_old{k:PSink}{x:PItem}(ho:k.d.off=false)(hp:k.plan=[])(hm:mayItem x=true)(hl:¬k.lsn<x.lsn):k.commitK x=(k,0):=by
 unfold PSink.commitK
 rw[if_neg,if_neg (by rw[ho];decide),hp]
 ·simp only
  rw[if_neg hl]
 ·rintro (h1|⟨h1,_⟩)
  ·rw[hm]at h1;cases h1
  ·exact hl h1
theorem PInv.tr0{n:Nat}{k:PSink}{j:Nat}{m:Option PItem}(h:PInv n k j [] m):k.tr=t00 n:=by
 have:=h.s.run
 exact (Option.some.inj this).symm
end Go.Proofs.YtnmhmnnadkclbaaGreat
