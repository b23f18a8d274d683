/-
  Texts of the proof, joined: WalSA, WalSB, RLogG, SinkS, LogSt, SinkP, SinkC, SinkO, BatchR, RefS, RefD, RefD2, RefD3, RefD4, RLogS, RLogS2, RLogS3, RLogA.
-/
import Derived.Test.YtnmhmnnadkclbaaGreatJ8
import Derived.Test.YtnmhmnnadkclbaaGreatQVcG
namespace Go.Proofs.YtnmhmnnadkclbaaGreat
set_option linter.unusedVariables false
set_option maxRecDepth 100000
open Go.RowKit
theorem Y3(lp dp:Nat)(g:PLog)(d:DS)(iv:Value)(ids:List Int)(whole:Bool){M N:Nat}(hg:g.Ok M)(hM:M≤1000000000000)(hok:d.Ok N)(hN:N≤10000000000)(hops:d.ops≤100000)(hne:whole=true→ids≠[]→g.segs≠[])(hil:ids.length≤100000):
  SP 170 [.pointer (some ⟨lp,0,none⟩),iv,.bool whole] [.ob (LogO lp dp g),.ob (DskO dp d),.ob (OwnSl iv 3 1 ids.length (ids.map (Value.int .i64)))]
   (Gives (.int .i64 (beginG g.segs d ids whole).2) [.ob (LogO lp dp g),.ob (DskO dp (beginG g.segs d ids whole).1),.ob (OwnSl iv 3 1 ids.length (ids.map (Value.int .i64)))]):=by
 intro W F w hS;apply vc170;unfold Vc170;(try simp only[app]at hS)
 obtain⟨sv,tv,xs,hx,hS⟩:=LogO.iff.1 hS
 obtain⟨hxo,hxl,_,_⟩:=hg.xs hx
 have hfin:∀{w:World} {d':DS},SL W (.pt lp (lcells sv tv dp g.base g.size) 201::RowX sv xs::.ob (zh XSegO xs)::.ob (TornO tv g.torn)::.ob (DskO dp d')::.ob (OwnSl iv 3 1 ids.length (ids.map (Value.int .i64)))::F) w→SL W (.ob (LogO lp dp g)::.ob (DskO dp d')::.ob (OwnSl iv 3 1 ids.length (ids.map (Value.int .i64)))::F) w:=λh=>(LogO.iff (g:=g)).2 ⟨_,tv,_,hx,h⟩
 refine zE hS (v:=iv) (t:=3) (sz:=1) (n:=ids.length) (cells:=ids.map (Value.int .i64)) Xh ?_
 repeat first|refine Gp ?_|refine Gw λw hS=>?_|refine Gb λb w hS=>?_
 refine ze (λh=>?_) (λh=>?_)
 ·have:ids=[]:=List.eq_nil_of_length_eq_zero (by omega)
  subst this
  have hS:=hfin (SL.into hS Xi)
  exact⟨_,⟨rfl,rfl⟩,hS⟩
 ·have hj:ids.length-1<ids.length:=by omega
  have hgl:ids.getLast?=some (ids[ids.length-1]'hj):=by rw[List.getLast?_eq_getElem?,List.getElem?_eq_getElem hj]
  have hne':ids≠[]:=λe=>by rw[e]at h;simp at h
  have hu:(ids.map (Value.int .i64))[ids.length-1]?=some (.int .i64 (ids[ids.length-1]'hj)):=by simp[hj]
  generalize (ids[ids.length-1]'hj)=f at *
  refine zE hS (v:=iv) (t:=3) (sz:=1) (n:=ids.length) (cells:=ids.map (Value.int .i64)) Xh ?_
  repeat first|refine Gp ?_|refine Gw λw hS=>?_|refine Gb λb w hS=>?_
  have e:((ids.length:Nat):Int)-1=((ids.length-1:Nat):Int):=by omega
  rw[e]
  refine yI hS (v:=iv) (t:=3) Xh hj hu ?_
  cases whole with
  | false=>
   have hb:beginG g.segs d ids false=d.remove f:=by unfold beginG;rw[hgl];rfl
   rw[hb]
   refine yA ?_
   refine zy ?_
   repeat first|refine Gp ?_|refine Gw λw hS=>?_|refine Gb λb w hS=>?_
   (apply zd (Zd dp d N hok hops f) hS;exact Xp;clear hS)
   (rintro v post ⟨rfl,rfl⟩ w hS;(try simp only[app]at hS);(repeat (first|refine Gp ?_|refine Gw λw hS=>?_|refine Gb λb w hS=>?_)))
   have hS:=hfin (SL.into hS Xi)
   exact⟨_,⟨rfl,rfl⟩,hS⟩
  | true=>
   have hb:beginG g.segs d ids true=if lastSize g.segs<lenF d.R f then d.cut f (lastSize g.segs) else (d,0):=by unfold beginG;rw[hgl];rfl
   rw[hb]
   refine yA ?_
   refine zr ?_
   have hn:=hne rfl hne'
   have hle:0<xs.length:=by
    rcases Nat.eq_zero_or_pos xs.length with h0|h0
    ·rw[← hx,List.eq_nil_of_length_eq_zero h0]at hn;exact absurd rfl hn
    ·exact h0
   have hj2:xs.length-1<xs.length:=by omega
   have hlz:lastSize g.segs=((xs[xs.length-1]'hj2).size:Nat):=by
    unfold lastSize
    rw[← hx,List.getLast?_map,List.getLast?_eq_getElem?,List.getElem?_eq_getElem hj2];rfl
   rw[hlz]
   repeat first|refine Gp ?_|refine Gw λw hS=>?_|refine Gb λb w hS=>?_
   refine zL hS (v:=sv) (t:=290) (sz:=4) (n:=xs.length) (cells:=(xs.map xcells).flatten) Xh ?_
   repeat first|refine Gp ?_|refine Gw λw hS=>?_|refine Gb λb w hS=>?_
   have e:((xs.length:Nat):Int)-1=((xs.length-1:Nat):Int):=by omega
   rw[e]
   refine qy (i:=2) hS Xh hj2 (u:=.int .i64 ((xs[xs.length-1]'hj2).size:Nat)) rfl ?_
   generalize (xs[xs.length-1]'hj2).size=z at *
   repeat first|refine Gp ?_|refine Gw λw hS=>?_|refine Gb λb w hS=>?_
   (apply zd (QL dp d f) hS;exact Xp;clear hS)
   (rintro v post ⟨rfl,rfl⟩ w hS;(try simp only[app]at hS);(repeat (first|refine Gp ?_|refine Gw λw hS=>?_|refine Gb λb w hS=>?_)))
   refine ze (λh1=>?_) (λh1=>?_)
   ·rw[if_pos h1]
    repeat first|refine Gp ?_|refine Gw λw hS=>?_|refine Gb λb w hS=>?_
    (apply zd (Yb dp d N hok (by omega) hops f (z:Int)) hS;exact Xp;clear hS)
    (rintro v post ⟨rfl,rfl⟩ w hS;(try simp only[app]at hS);(repeat (first|refine Gp ?_|refine Gw λw hS=>?_|refine Gb λb w hS=>?_)))
    have hS:=hfin (SL.into hS Xi)
    exact⟨_,⟨rfl,rfl⟩,hS⟩
   ·rw[if_neg h1]
    have hS:=hfin (SL.into hS Xi)
    exact⟨_,⟨rfl,rfl⟩,hS⟩
def OpenQ(dp:Nat)(y:DS × Except Int PLog)(r:Value)(post:List Chunk):Prop:=match y.2 with
 | .error e=>e≠0∧r= .tuple #[.pointer none,.int .i64 e]∧post=[.ob (DskO dp y.1)]
 | .ok g=>∃lp:Nat,r= .tuple #[.pointer (some ⟨lp,0,none⟩),.int .i64 0]∧post=[.ob (LogO lp dp g),.ob (DskO dp y.1)]
theorem loadsG_ok{R:List PF}{M N:Nat}(hR:∀x∈R,x.b.length≤N)(hN:N≤M):∀(ids:List Int) (prev:Option Int) (L:List PSeg) (wh:Bool) (k:Nat),(∀f∈ids,0≤f∧f≤100000)→(∀s∈L,SegOk s M)→L.length≤k→∀{L' wh'},loadsG R ids prev L wh=some (L',wh')→(∀s∈L',SegOk s M)∧L'.length≤k+ids.length
 | [],prev,L,wh,k,_,hL,hk,L',wh',h=>by
  cases h;exact⟨hL,by simpa using hk⟩
 | f::r,prev,L,wh,k,hf,hL,hk,L',wh',h=>by
  rw[loadsG_cons]at h
  obtain⟨f0,f1⟩:=hf f (.head _)
  obtain⟨k1,k2⟩:=loadG_ok (last:=r.isEmpty) hR hN f0 f1 hL
  split at h
  ·cases h
  ·split at h
   ·cases h
   ·have:=loadsG_ok hR hN r _ _ _ (k+1) (λx hx=>hf x (.tail _ hx)) k1 (by omega) h
    exact⟨this.1,by simp at this ⊢;omega⟩
theorem idsG_mem{base:Int}{R:List PF}{f:Int}(h:f∈idsG base R):base≤f∧f<base+4096:=by
 unfold idsG at h
 have:=(List.mem_filter.1 h).2
 simpa using this
theorem idsG_len(base:Int)(R:List PF):(idsG base R).length≤R.length:=by
 unfold idsG
 have:=List.length_filter_le (λf=>decide (base≤f∧f<base+4096)) (R.map PF.id)
 rwa [List.length_map]at this
theorem openG_gok{d d':DS}{base size:Int}{N:Nat}(hok:d.Ok N)(hR:d.R.length≤100000){g:PLog}(h:openG d base size=(d',.ok g)):g.Ok (N+100000)∧d.off=false:=by
 unfold openG at h
 split at h
 ·cases h
 ·rename_i hb
  split at h
  ·cases h
  ·rename_i ho
   split at h
   ·cases h
   ·rename_i L wh hl
    have hi:∀f∈idsG base d.R,0≤f∧f≤100000:=λf hf=>by have:=idsG_mem hf;omega
    obtain⟨k1,k2⟩:=loadsG_ok (M:=N+100000) hok.len (by omega) _ _ [] _ 0 hi (by simp) (by simp) hl
    have:=idsG_len base d.R
    have hL:(⟨L,base,size,none⟩:PLog).Ok (N+100000):=⟨k1,by show 0≤base;omega,by show base≤12288;omega,by show 64≤size;omega,by show size≤65536;omega,by show L.length≤_;omega⟩
    split at h
    ·cases h
    ·cases h;exact⟨hL,by simpa using ho⟩
theorem ql(dp:Nat)(d:DS)(base size:Int){N:Nat}(hok:d.Ok N)(hN:N≤1000000000)(hR:d.R.length≤100000)(hops:d.ops≤100000):
  SP 91 [.pointer (some ⟨dp,0,none⟩),.int .i64 base,.int .i64 size] [.ob (DskO dp d)] (OpenQ dp (openG d base size)):=by
 intro W F w hS;apply vc91;unfold Vc91;(try simp only[app]at hS)
 by_cases hbd:base<0∨12288<base∨size<64∨65536<size
 ·have e:openG d base size=(d,.error 1):=by unfold openG;rw[if_pos hbd]
  rw[e]
  have hE:∀{w:World},SL W (.ob (DskO dp d)::F) w→∃post,OpenQ dp (d,.error 1) (.tuple #[.pointer none,.int .i64 1]) post∧SL W (app post F) w:=λh=>⟨_,⟨by decide,rfl,rfl⟩,h⟩
  repeat first|refine Gp ?_|refine Gw λw hS=>?_|refine Gb λb w hS=>?_
  refine ze (λh=>hE hS) (λh1=>?_)
  repeat first|refine Gp ?_|refine Gw λw hS=>?_|refine Gb λb w hS=>?_
  refine ze (λh=>hE hS) (λh2=>?_)
  repeat first|refine Gp ?_|refine Gw λw hS=>?_|refine Gb λb w hS=>?_
  refine ze (λh=>hE hS) (λh3=>?_)
  repeat first|refine Gp ?_|refine Gw λw hS=>?_|refine Gb λb w hS=>?_
  refine ze (λh=>hE hS) (λh4=>by omega)
 ·repeat first|refine Gp ?_|refine Gw λw hS=>?_|refine Gb λb w hS=>?_
  refine ze (λh=>by omega) (λ_=>?_)
  repeat first|refine Gp ?_|refine Gw λw hS=>?_|refine Gb λb w hS=>?_
  refine ze (λh=>by omega) (λ_=>?_)
  repeat first|refine Gp ?_|refine Gw λw hS=>?_|refine Gb λb w hS=>?_
  refine ze (λh=>by omega) (λ_=>?_)
  repeat first|refine Gp ?_|refine Gw λw hS=>?_|refine Gb λb w hS=>?_
  refine ze (λh=>by omega) (λ_=>?_)
  repeat first|refine Gp ?_|refine Gw λw hS=>?_|refine Gb λb w hS=>?_
  (apply zd (yL dp d) hS;exact Xp;clear hS)
  (rintro v post ⟨rfl,rfl⟩ w hS;(try simp only[app]at hS);(repeat (first|refine Gp ?_|refine Gw λw hS=>?_|refine Gb λb w hS=>?_)))
  refine yO (λho=>?_) (λho=>?_)
  ·have e:openG d base size=(d,.error 8):=by unfold openG;rw[if_neg hbd,if_pos ho]
   rw[e]
   exact⟨_,⟨by decide,rfl,rfl⟩,hS⟩
  ·have eo:openG d base size=match loadsG d.R (idsG base d.R) none [] true with
    | none=>(d,.error 3)
    | some (L,whole)=>if (beginG L d (idsG base d.R) whole).2≠0 then ((beginG L d (idsG base d.R) whole).1,.error (beginG L d (idsG base d.R) whole).2) else ((beginG L d (idsG base d.R) whole).1,.ok ⟨L,base,size,none⟩):=by
    unfold openG;rw[if_neg hbd,if_neg (by rw[ho];decide)];rfl
   rw[eo]
   have hi:∀f∈idsG base d.R,base≤f∧f<base+4096:=λf hf=>idsG_mem hf
   have hil:=idsG_len base d.R
   repeat first|refine Gp ?_|refine Gw λw hS=>?_|refine Gb λb w hS=>?_
   refine⟨_,rfl,zJ hS ?_⟩
   clear hS;intro lp w hS
   have hS:=(TornO_none (v:=.pointer none)).2 ⟨rfl,hS⟩
   have hS:=OwnSo.nil0 (a:=none) (t:=290) (sz:=4) hS
   have hS:=zh.nil (A:=XSegO) hS
   have hS:=SL.into hS (t:=.pt lp (lcells (.slice none 0 0) (.pointer none) dp base size) 201::.ob (OwnSo (.slice none 0 0) 290 4 0 [])::.ob (zh XSegO [])::.ob (TornO (.pointer none) none)::.ob (DskO dp d)::F) Xi
   have hS:=(LogO.iff (g:=⟨[],base,size,none⟩)).2 ⟨_,_,[],rfl,hS⟩
   (apply zd (qe lp dp ⟨[],base,size,none⟩ d (M:=0) (N:=N) (by show 0≤base;omega) (by show base≤12288;omega) hok hR) hS;exact Xp;clear hS)
   rintro iv post rfl w hS;(try simp only[app]at hS)
   generalize hids:idsG base d.R=ids at *
   refine zE hS (v:=iv) (t:=3) (sz:=1) (n:=ids.length) (cells:=ids.map (Value.int .i64)) Xh ?_
   refine⟨λvs w=>∃(wh:Bool) (i:Nat) (L:List PSeg),i≤ids.length∧vs=[.bool wh,.int .i64 i]∧loadsG d.R ids none [] true=loadsG d.R (ids.drop i) (if i=0 then none else ids[i-1]?) L wh∧(∀s∈L,SegOk s (N+100000))∧L.length≤i∧(wh=true→0<i→L≠[])∧SL W (.ob (LogO lp dp ⟨L,base,size,none⟩)::.ob (DskO dp d)::.ob (OwnSl iv 3 1 ids.length (ids.map (Value.int .i64)))::F) w,
    λvs _=>match vs with|[_,.int _ i]=>(ids.length-i).toNat|_=>0,⟨true,0,[],by omega,rfl,rfl,by simp,by simp,λ_ h=>by omega,SL.into hS Xi⟩,?_⟩
   clear hS
   rintro v10 v43 w ⟨wh,i,L,hi1,hvs,hld,hLok,hLl,hwh,hS⟩
   cases hvs
   have hLO:(⟨L,base,size,none⟩:PLog).Ok (N+100000):=⟨hLok,by show 0≤base;omega,by show base≤12288;omega,by show 64≤size;omega,by show size≤65536;omega,by show L.length≤_;omega⟩
   repeat first|refine Gp ?_|refine Gw λw hS=>?_|refine Gb λb w hS=>?_
   refine ze (λh1=>?_) (λh1=>?_)
   ·have hj:i<ids.length:=by omega
    have hu:(ids.map (Value.int .i64))[i]?=some (.int .i64 ids[i]):=by simp[hj]
    have hfi:=hi _ (List.getElem_mem hj)
    rw[List.drop_eq_getElem_cons hj,loadsG_cons]at hld
    refine yI hS (v:=iv) (t:=3) Xh hj hu ?_
    repeat first|refine Gp ?_|refine Gw λw hS=>?_|refine Gb λb w hS=>?_
    refine zE hS (v:=iv) (t:=3) (sz:=1) (n:=ids.length) (cells:=ids.map (Value.int .i64)) Xh ?_
    repeat first|refine Gp ?_|refine Gw λw hS=>?_|refine Gb λb w hS=>?_
    have hlast:decide (((i:Nat):Int)=((ids.length:Nat):Int)-1)=(ids.drop (i+1)).isEmpty:=by
     rw[Bool.eq_iff_iff,decide_eq_true_iff,List.isEmpty_iff,List.drop_eq_nil_iff]
     omega
    rw[hlast]
    obtain⟨k1,k2⟩:=loadG_ok (L:=L) (f:=ids[i]) (last:=(ids.drop (i+1)).isEmpty) (M:=N+100000) hok.len (by omega) (by omega) (by omega) hLok
    have hnn:(loadG L d.R ids[i] (ids.drop (i+1)).isEmpty).1.1=true→(loadG L d.R ids[i] (ids.drop (i+1)).isEmpty).1.2=true→(loadG L d.R ids[i] (ids.drop (i+1)).isEmpty).2≠[]:=by
     unfold loadG
     simp only
     split
     ·intro h;cases h
     ·split
      ·intro _ h;cases h
      ·intro _ _;simp
    (apply zd (qJ lp dp ⟨L,base,size,none⟩ d ids[i] (ids.drop (i+1)).isEmpty hLO (by omega) hok (by omega)) hS;exact Xp;clear hS)
    (rintro v post ⟨rfl,rfl⟩ w hS;(try simp only[app]at hS);(repeat (first|refine Gp ?_|refine Gw λw hS=>?_|refine Gb λb w hS=>?_)))
    generalize hLG:loadG L d.R ids[i] (ids.drop (i+1)).isEmpty=y at *
    obtain⟨⟨is,ok⟩,L2⟩:=y
    simp only at hS hld k1 k2 hnn ⊢
    cases ok with
    | false=>
     refine zy ?_
     rw[if_pos rfl]at hld
     rw[hld]
     exact⟨_,⟨by decide,rfl,rfl⟩,SL.into hS Xi⟩
    | true=>
     refine zr ?_
     rw[if_neg (by decide)]at hld
     have hnext:∀{w:World},(¬gapG (if i=0 then none else ids[i-1]?) ids[i]=true)→SL W (.ob (LogO lp dp ⟨L2,base,size,none⟩)::.ob (DskO dp d)::.ob (OwnSl iv 3 1 ids.length (ids.map (Value.int .i64)))::F) w →
       ∃(wh:Bool) (i':Nat) (L:List PSeg),i'≤ids.length∧[Value.bool is,Value.int .i64 ((i+1:Nat):Int)]=[.bool wh,.int .i64 i']∧loadsG d.R ids none [] true=loadsG d.R (ids.drop i') (if i'=0 then none else ids[i'-1]?) L wh∧(∀s∈L,SegOk s (N+100000))∧L.length≤i'∧(wh=true→0<i'→L≠[])∧SL W (.ob (LogO lp dp ⟨L,base,size,none⟩)::.ob (DskO dp d)::.ob (OwnSl iv 3 1 ids.length (ids.map (Value.int .i64)))::F) w:=by
      intro w hp hS
      refine⟨is,i+1,L2,by omega,rfl,?_,k1,by omega,λh _=>hnn h rfl,hS⟩
      rw[if_neg hp]at hld
      rw[hld,if_neg (by omega),Nat.add_sub_cancel,List.getElem?_eq_getElem hj]
     repeat first|refine Gp ?_|refine Gw λw hS=>?_|refine Gb λb w hS=>?_
     refine ze (λh2=>?_) (λh2=>?_)
     ·have hj0:i-1<ids.length:=by omega
      have hf0:=hi _ (List.getElem_mem hj0)
      repeat first|refine Gp ?_|refine Gw λw hS=>?_|refine Gb λb w hS=>?_
      have e:((i:Nat):Int)-1=((i-1:Nat):Int):=by omega
      rw[e]
      have hu0:(ids.map (Value.int .i64))[i-1]?=some (.int .i64 (ids[i-1]'hj0)):=by simp[hj0]
      refine yI hS (v:=iv) (t:=3) Xh hj0 hu0 ?_
      have hpv:gapG (if i=0 then none else ids[i-1]?) ids[i]=decide (ids[i]≠(ids[i-1]'hj0)+1):=by
       rw[if_neg (by omega),List.getElem?_eq_getElem hj0];rfl
      repeat first|refine Gp ?_|refine Gw λw hS=>?_|refine Gb λb w hS=>?_
      refine ze (λh3=>?_) (λh3=>?_)
      ·rw[if_pos (by rw[hpv];simpa using h3)]at hld
       rw[hld]
       exact⟨_,⟨by decide,rfl,rfl⟩,SL.into hS Xi⟩
      ·repeat first|refine Gp ?_|refine Gw λw hS=>?_|refine Gb λb w hS=>?_
       exact⟨hnext (by rw[hpv];simpa using h3) (SL.into hS Xi),by dsimp only;omega⟩
     ·repeat first|refine Gp ?_|refine Gw λw hS=>?_|refine Gb λb w hS=>?_
      have hi0:i=0:=by omega
      exact⟨hnext (by rw[if_pos hi0];simp[gapG]) (SL.into hS Xi),by dsimp only;omega⟩
   ·have hie:i=ids.length:=by omega
    rw[hie,List.drop_length]at hld
    rw[hld]
    simp only[loadsG]
    repeat first|refine Gp ?_|refine Gw λw hS=>?_|refine Gb λb w hS=>?_
    have hbo:=beginG_ok (L:=L) (ids:=ids) (wh:=wh) hok
    (apply zd (Y3 lp dp ⟨L,base,size,none⟩ d iv ids wh hLO (by omega) hok (by omega) hops (λh hne=>hwh h (by rw[hie];exact List.length_pos_iff.2 hne)) (by omega)) hS;exact Xp;clear hS)
    (rintro v post ⟨rfl,rfl⟩ w hS;(try simp only[app]at hS);(repeat (first|refine Gp ?_|refine Gw λw hS=>?_|refine Gb λb w hS=>?_)))
    simp only at hS ⊢
    refine ze (λh2=>?_) (λh2=>?_)
    ·rw[if_pos h2]
     exact⟨_,⟨h2,rfl,rfl⟩,SL.into hS Xi⟩
    ·rw[if_neg h2]
     exact⟨_,⟨lp,rfl,rfl⟩,SL.into hS Xi⟩
section
variable (lp dp:Nat) (g:PLog) {M:Nat} (hg:g.Ok M) (hM:M≤1000000000000)
include hg hM
theorem qZ:SP 110 [.pointer (some ⟨lp,0,none⟩)] [.ob (LogO lp dp g)] (Gives (.int .i64 (headG g.segs)) [.ob (LogO lp dp g)]):=by
 intro W F w hS
 obtain⟨sv,tv,xs,hx,hS⟩:=LogO.iff.1 hS
 obtain⟨h1,h2,_,_⟩:=hg.xs hx
 refine zd (yj lp (lcells sv tv dp g.base g.size) 201 sv xs rfl h1 (by omega) (by omega)) hS Xp ?_
 rintro v post ⟨rfl,rfl⟩ w hS
 (try simp only[app]at hS)
 rw[hx]
 exact⟨_,⟨rfl,rfl⟩,LogO.iff.2 ⟨sv,tv,xs,hx,SL.into hS Xi⟩⟩
theorem Yi:SP 111 [.pointer (some ⟨lp,0,none⟩)] [.ob (LogO lp dp g)] (Gives (.int .i64 (lowG g.segs)) [.ob (LogO lp dp g)]):=by
 intro W F w hS
 obtain⟨sv,tv,xs,hx,hS⟩:=LogO.iff.1 hS
 obtain⟨h1,h2,_,_⟩:=hg.xs hx
 refine zd (Qt lp (lcells sv tv dp g.base g.size) 201 sv xs rfl (by omega)) hS Xp ?_
 rintro v post ⟨rfl,rfl⟩ w hS
 (try simp only[app]at hS)
 rw[hx]
 exact⟨_,⟨rfl,rfl⟩,LogO.iff.2 ⟨sv,tv,xs,hx,SL.into hS Xi⟩⟩
theorem qm(n:Int)(hn : -9000000000000000000≤n∧n≤9000000000000000000):SP 171 [.pointer (some ⟨lp,0,none⟩),.int .i64 n] [.ob (LogO lp dp g)] (ReadLQ [.ob (LogO lp dp g)] (readG g.segs n)):=by
 intro W F w hS
 obtain⟨sv,tv,xs,hx,hS⟩:=LogO.iff.1 hS
 obtain⟨h1,h2,_,_⟩:=hg.xs hx
 refine zd (q8 lp (lcells sv tv dp g.base g.size) 201 sv xs n rfl h1 (by omega) (by omega) hn) hS Xp ?_
 intro r post hQ w hS
 rw[hx]at hQ
 cases hr:readG g.segs n with
 | none=>
  rw[hr]at hQ
  obtain⟨rfl,rfl⟩:=hQ
  (try simp only[app]at hS)
  exact⟨_,⟨rfl,rfl⟩,LogO.iff.2 ⟨sv,tv,xs,hx,SL.into hS Xi⟩⟩
 | some b=>
  rw[hr]at hQ
  obtain⟨u,rfl,rfl⟩:=hQ
  (try simp only[app]at hS)
  have hS:=(LogO.iff (g:=g)).2 ⟨sv,tv,xs,hx,SL.into hS (t:=.pt lp (lcells sv tv dp g.base g.size) 201::RowX sv xs::.ob (zh XSegO xs)::.ob (TornO tv g.torn)::.ob (OwnSl u 5 1 b.length (b.map u8c))::F) Xi⟩
  exact⟨_,⟨u,rfl,rfl⟩,SL.into hS Xi⟩
end
theorem openG_GOk{d d':DS}{base size:Int}{N:Nat}(hok:d.Ok N)(hR:d.R.length≤100000){g:PLog}(h:openG d base size=(d',.ok g)):GOk g (N+100000):=by
 have hk:=(openG_gok hok hR h).1
 unfold openG at h
 split at h
 ·cases h
 ·split at h
  ·cases h
  ·split at h
   ·cases h
   ·rename_i L wh hl
    obtain⟨k1,k2⟩:=loadsG_seq _ _ [] _ trivial (by decide) hl
    split at h
    ·cases h
    ·cases h
     exact⟨hk,k1,k2,λx hx=>by cases hx⟩
theorem inc_len:∀(l:List Nat) (a N:Nat),a≤N→l.Pairwise (· < ·)→(∀x∈l,a≤x∧x<N)→l.length+a≤N
 | [],a,N,h,_,_=>by simpa using h
 | x::l,a,N,_,hp,hx=>by
  have h1:=hx x (.head _)
  obtain⟨hp1,hp2⟩:=List.pairwise_cons.1 hp
  have:=inc_len l (x+1) N (by omega) hp2 λy hy=>⟨hp1 y hy,(hx y (.tail _ hy)).2⟩
  rw[List.length_cons];omega
theorem DS.Ok.rlen{s:DS}{N:Nat}(h:s.Ok N):s.R.length≤16384:=by
 have hs:(s.R.map λx=>x.id.toNat).Pairwise (· < ·):=by
  rw[List.pairwise_map]
  refine List.Pairwise.imp_of_mem (λ{a b} ha hb hlt=>?_) h.sorted
  have h1:=h.ids a ha
  have h2:=h.ids b hb
  have hlt:a.id<b.id:=hlt
  omega
 have:=inc_len _ 0 16384 (by decide) hs λn hn=>by
  obtain⟨x,hx,rfl⟩:=List.mem_map.1 hn
  have:=h.ids x hx
  omega
 simpa using this
abbrev ptrO(b:Nat):Value:=.pointer (some ⟨b,0,none⟩)
abbrev kcells(gp dp lp pp:Nat)(lsn:Int)(rv:Value):List Value:=[ptrO gp,ptrO dp,ptrO lp,ptrO pp,.int .i64 lsn,rv]
def SnkO(kp gp dp lp pp:Nat)(H:Heap)(k:PSink):zG:=HEx λrv:Value=>zT (RdRq H rv k.reqs) [.pt kp (kcells gp dp lp pp k.lsn rv) 86,.ob (Grd gp k.ts),.ob (LogO lp dp k.g),.ob (PlanO pp k.plan),.ob (DskO dp k.d)]
section
variable {W w:World} {l F:List Chunk} {kp gp dp lp pp:Nat} {H:Heap} {k:PSink}
theorem SnkO.iff:SL W (.ob (SnkO kp gp dp lp pp H k)::l) w↔∃rv,RdRq H rv k.reqs∧SL W (.pt kp (kcells gp dp lp pp k.lsn rv) 86::.ob (Grd gp k.ts)::.ob (LogO lp dp k.g)::.ob (PlanO pp k.plan)::.ob (DskO dp k.d)::l) w:=by
 unfold SnkO
 simp only[SL.ex,SL.fact,List.cons_append,List.nil_append]
theorem SnkO.put(k:PSink){rv:Value}(hS:SL W l w)(hr:RdRq H rv k.reqs)(p:Pick [.pt kp (kcells gp dp lp pp k.lsn rv) 86,.ob (Grd gp k.ts),.ob (LogO lp dp k.g),.ob (PlanO pp k.plan),.ob (DskO dp k.d)] l F):SL W (.ob (SnkO kp gp dp lp pp H k)::F) w:=SnkO.iff.2 ⟨rv,hr,hS.pick p⟩
theorem SnkO.putN{g:PLog}{d:DS}{ts:List (List Cell)}{plan:List PFt}{lsn:Int}{reqs:List Rq}{rv:Value}(hS:SL W l w)(hr:RdRq H rv reqs)(p:Pick [.pt kp (kcells gp dp lp pp lsn rv) 86,.ob (Grd gp ts),.ob (LogO lp dp g),.ob (PlanO pp plan),.ob (DskO dp d)] l F):SL W (.ob (SnkO kp gp dp lp pp H ⟨g,d,ts,plan,lsn,reqs⟩)::F) w:=SnkO.iff.2 ⟨rv,hr,hS.pick p⟩
theorem SnkO.mono{H':Heap}(hh:H.le H')(h:SL W (.ob (SnkO kp gp dp lp pp H k)::l) w):SL W (.ob (SnkO kp gp dp lp pp H' k)::l) w:=by
 obtain⟨rv,hr,hS⟩:=SnkO.iff.1 h
 exact SnkO.iff.2 ⟨rv,hr.mono hh,hS⟩
theorem SnkO.open(hS:SL W l w)(r:Rem (.ob (SnkO kp gp dp lp pp H k)) l F):∃rv,RdRq H rv k.reqs∧SL W (.pt kp (kcells gp dp lp pp k.lsn rv) 86::.ob (Grd gp k.ts)::.ob (LogO lp dp k.g)::.ob (PlanO pp k.plan)::.ob (DskO dp k.d)::F) w:=SnkO.iff.1 (hS.perm r.perm)
end
structure KOk(k:PSink)(N m:Nat):Prop where
 g:GOk k.g N
 d:k.d.Ok N
 le:N≤1000000000
 ops:k.d.ops≤80000
 pl:k.plan.length≤1024
 plm:∀f∈k.plan,mayFt f=true
 ts:k.ts.length≤8
 ok:okS k.ts
 room:small k.ts (4096*m)
 rq:k.reqs.length≤64
def RqQ(o:Option (List Rq))(H:Heap)(u:Value):Prop:=match o with
 | none=>∃x,u= .tuple #[x,.bool false]
 | some L=>∃x,u= .tuple #[x,.bool true]∧RdRq H x L
theorem noteR_len{L L':List Rq}{n:PNote}(h:noteR L n=some L'):L'.length≤64:=by
 unfold noteR at h
 split at h
 ·exact (chunkR_may h).1
 ·split at h
  ·rename_i L2 h2
   split at h
   ·cases h;exact (acceptR_may h2).1
   ·cases h
  ·cases h
theorem qU(H:Heap)(v:Value)(L:List Rq)(n:PNote)(hv:RdRq H v L)(hL:L.length≤64)(hn:inI64 n.id):
  SP 177 [v,agg (encNote n)] [.mem H] (λu post=>∃H',H.le H'∧RqQ (noteR L n) H' u∧post=[.mem H']):=by
 intro W F w hS;apply vc177;unfold Vc177;(try simp only[app]at hS)
 refine zB hS λb w hS=>?_
 obtain⟨kind,id,table,weight,at_,cursor,done⟩:=n
 have hn:inI64 id:=hn
 unfold encNote at hS
 unfold noteR
 repeat first|refine Gp ?_|refine Gw λw hS=>?_|refine Gb λb w hS=>?_
 refine ze (λhk=>?_) (λhk=>?_)
 ·rw[if_pos hk]
  repeat first|refine Gp ?_|refine Gw λw hS=>?_|refine Gb λb w hS=>?_
  (apply zd (YM H v L id cursor done hv (by omega) hn) hS;exact Xp;clear hS)
  rintro u post ⟨H',hh,rfl,hq⟩ w hS
  simp only
  cases hc:chunkR L id cursor done with
  | none=>
   rw[hc]at hq
   obtain rfl:=hq
   (try simp only[app]at hS)
   repeat first|refine Gp ?_|refine Gw λw hS=>?_|refine Gb λb w hS=>?_
   exact⟨_,⟨H',hh,⟨_,rfl⟩,rfl⟩,SL.into hS Xi⟩
  | some L'=>
   rw[hc]at hq
   obtain⟨x,rfl,hx⟩:=hq
   (try simp only[app]at hS)
   repeat first|refine Gp ?_|refine Gw λw hS=>?_|refine Gb λb w hS=>?_
   exact⟨_,⟨H',hh,⟨_,rfl,hx⟩,rfl⟩,SL.into hS Xi⟩
 ·rw[if_neg hk]
  repeat first|refine Gp ?_|refine Gw λw hS=>?_|refine Gb λb w hS=>?_
  (apply zd (Yq H v L table weight at_ hv (by omega)) hS;exact Xp;clear hS)
  rintro u post ⟨H',hh,rfl,hq⟩ w hS
  simp only
  cases hc:acceptR L table weight at_ with
  | none=>
   rw[hc]at hq
   obtain rfl:=hq
   (try simp only[app]at hS)
   repeat first|refine Gp ?_|refine Gw λw hS=>?_|refine Gb λb w hS=>?_
   exact⟨_,⟨H',hh,⟨_,rfl⟩,rfl⟩,SL.into hS Xi⟩
  | some L'=>
   rw[hc]at hq
   obtain⟨x,rfl,hx⟩:=hq
   (try simp only[app]at hS)
   repeat first|refine Gp ?_|refine Gw λw hS=>?_|refine Gb λb w hS=>?_
   refine zq hx ?_
   repeat first|refine Gp ?_|refine Gw λw hS=>?_|refine Gb λb w hS=>?_
   by_cases he:id=(L'.length:Int)
   ·rw[decide_eq_true he]
    exact⟨_,⟨H',hh,(by simp only;rw[if_pos he];exact⟨_,rfl,hx⟩),rfl⟩,SL.into hS Xi⟩
   ·rw[decide_eq_false he]
    exact⟨_,⟨H',hh,(by simp only;rw[if_neg he];exact⟨_,rfl⟩),rfl⟩,SL.into hS Xi⟩
theorem fitsR_tab{n:Nat}{L:List Rq}{t:PItem}{i:Nat}(hi:i<t.ops.length)(h:(n:Int)≤t.ops[i].table):fitsR n L t=none:=by
 unfold fitsR
 rw[if_neg]
 rintro ⟨_,h2⟩
 unfold tabsOk at h2
 rw[List.all_eq_true]at h2
 have:=of_decide_eq_true (h2 _ (List.getElem_mem hi))
 omega
theorem tabsOk_t{n:Nat}{t:PItem}(h:∀j (hj:j<t.ops.length),t.ops[j].table<(n:Int)):tabsOk n t=true:=by
 unfold tabsOk
 rw[List.all_eq_true]
 intro o ho
 obtain⟨j,hj,rfl⟩:=List.getElem_of_mem ho
 exact decide_eq_true (h j hj)
theorem notesR_drop{L:List Rq}{l:List PNote}{i:Nat}(h:i<l.length):notesR L (l.drop i)=match noteR L l[i] with|some L'=>notesR L' (l.drop (i+1))|none=>none:=by
 rw[List.drop_eq_getElem_cons h];rfl
structure IOk(t:PItem):Prop where
 ids:∀n∈t.notes,inI64 n.id
 ops:t.ops.length≤140737488351232
 nts:t.notes.length≤140737488351232
theorem Zn(kp gp dp lp pp:Nat)(H:Heap)(k:PSink)(x:ItV)(t:PItem)(hx:ItIs H x t)(hi:IOk t)(hrq:k.reqs.length≤64):
  SP 100 [ptrO kp,agg (encIt x)] [.ob (SnkO kp gp dp lp pp H k),.mem H] (λu post=>∃H',H.le H'∧RqQ (fitsR k.ts.length k.reqs t) H' u∧post=[.ob (SnkO kp gp dp lp pp H' k),.mem H']):=by
 intro W F w hS;apply vc100;unfold Vc100;(try simp only[app]at hS)
 refine zB hS λxb w hS=>?_
 obtain⟨rv,hr,hS⟩:=SnkO.open (k:=k) hS Xr
 unfold encIt at hS
 rw[hx.lsn]at hS
 have ho1:=hi.ops
 have hn1:=hi.nts
 repeat first|refine Gp ?_|refine Gw λw hS=>?_|refine Gb λb w hS=>?_
 refine zq hx.ops ?_
 obtain⟨F2,hF2⟩:∃F2,F2= .ob (LogO lp dp k.g)::.ob (PlanO pp k.plan)::.ob (DskO dp k.d)::F:=⟨_,rfl⟩
 have hS:=SL.into hS (t:=.pt kp (kcells gp dp lp pp k.lsn rv) 86::.ob (Grd gp k.ts)::.pt xb [.int .i64 t.lsn,x.ov,x.nv] 46::.mem H::.ob (LogO lp dp k.g)::.ob (PlanO pp k.plan)::.ob (DskO dp k.d)::F) Xi
 rw[← hF2]at hS
 have hfin:∀{w:World} {H':Heap} {u:Value},H.le H'→RqQ (fitsR k.ts.length k.reqs t) H' u→SL W (.pt kp (kcells gp dp lp pp k.lsn rv) 86::.ob (Grd gp k.ts)::.mem H'::F2) w→∃post,(∃H',H.le H'∧RqQ (fitsR k.ts.length k.reqs t) H' u∧post=[.ob (SnkO kp gp dp lp pp H' k),.mem H'])∧SL W (app post F) w:=λhh hq hS=>by
  rw[hF2]at hS
  have hS:=SnkO.put k hS (hr.mono hh) Xp
  exact⟨_,⟨_,hh,hq,rfl⟩,SL.into hS Xi⟩
 refine⟨λvs w=>∃i:Nat,vs=[.int .i64 i]∧i≤t.ops.length∧(∀j (hj:j<t.ops.length),j<i→t.ops[j].table<(k.ts.length:Int))∧SL W (.pt kp (kcells gp dp lp pp k.lsn rv) 86::.ob (Grd gp k.ts)::.pt xb [.int .i64 t.lsn,x.ov,x.nv] 46::.mem H::F2) w,
  λvs _=>match vs with|[.int _ i]=>(t.ops.length-i).toNat|_=>0,⟨0,rfl,by omega,λj hj h=>by omega,hS⟩,?_⟩
 clear hS
 rintro v15 w ⟨i,hvs,hil,hall,hS⟩
 cases hvs
 repeat first|refine Gp ?_|refine Gw λw hS=>?_|refine Gb λb w hS=>?_
 refine ze (λh=>?_) (λh=>?_)
 ·have hil:i<t.ops.length:=by omega
  refine zH hS Xh encOp_len' hx.ops (x:=t.ops[i]) (by simp[hil]) hil ?_
  repeat first|refine Gp ?_|refine Gw λw hS=>?_|refine Gb λb w hS=>?_
  (apply zd (YV gp k.ts) hS;exact Xp;clear hS)
  (rintro v post ⟨rfl,rfl⟩ w hS;(try simp only[app]at hS);(repeat (first|refine Gp ?_|refine Gw λw hS=>?_|refine Gb λb w hS=>?_)))
  refine ze (λh2=>?_) (λh2=>?_)
  ·refine hfin (Heap.le_refl H) ?_ (SL.into hS Xi)
   rw[fitsR_tab hil h2];exact⟨_,rfl⟩
  ·repeat first|refine Gp ?_|refine Gw λw hS=>?_|refine Gb λb w hS=>?_
   refine⟨⟨i+1,rfl,by omega,λj hj hji=>?_,SL.into hS Xi⟩,by dsimp only;omega⟩
   by_cases e:j=i
   ·subst e;omega
   ·exact hall j hj (by omega)
 ·have htab:=tabsOk_t (n:=k.ts.length) (t:=t) λj hj=>hall j hj (by omega)
  clear hall
  repeat first|refine Gp ?_|refine Gw λw hS=>?_|refine Gb λb w hS=>?_
  refine zq hx.nts ?_
  have hfr:∀{o},notesR k.reqs t.notes=o→mayItem t=true→fitsR k.ts.length k.reqs t=o:=λh hm=>by unfold fitsR;rw[if_pos ⟨hm,htab⟩,h]
  have hfn:notesR k.reqs t.notes=none→fitsR k.ts.length k.reqs t=none:=λh=>by unfold fitsR;split;exact h;rfl
  refine⟨λvs w=>∃(i:Nat) (L:List Rq) (u:Value) (H2:Heap),vs=[u,.int .i64 i]∧i≤t.notes.length∧L.length≤64∧notesR k.reqs t.notes=notesR L (t.notes.drop i)∧H.le H2∧RdRq H2 u L∧SL W (.pt kp (kcells gp dp lp pp k.lsn rv) 86::.ob (Grd gp k.ts)::.pt xb [.int .i64 t.lsn,x.ov,x.nv] 46::.mem H2::F2) w,
   λvs _=>match vs with|[_,.int _ i]=>(t.notes.length-i).toNat|_=>0,⟨0,k.reqs,rv,H,rfl,by omega,hrq,rfl,Heap.le_refl H,hr,SL.into hS Xi⟩,?_⟩
  clear hS
  rintro u v35 w ⟨i,L,_,H2,hvs,hil,hL,hno,h02,hu,hS⟩
  cases hvs
  have hx2:=hx.mono h02
  repeat first|refine Gp ?_|refine Gw λw hS=>?_|refine Gb λb w hS=>?_
  refine ze (λh=>?_) (λh=>?_)
  ·have hil:i<t.notes.length:=by omega
   rw[notesR_drop hil]at hno
   refine zH hS Xh encNote_len hx2.nts (x:=t.notes[i]) (by simp[hil]) hil ?_
   have hid:=hi.ids _ (List.getElem_mem hil)
   generalize t.notes[i]=n at *
   repeat first|refine Gp ?_|refine Gw λw hS=>?_|refine Gb λb w hS=>?_
   (apply zd (qU H2 u L n hu hL hid) hS;exact Xp;clear hS)
   rintro u post ⟨H3,h23,hq,rfl⟩ w hS
   cases hc:noteR L n with
   | none=>
    rw[hc]at hq hno
    obtain⟨x,rfl⟩:=hq
    (try simp only[app]at hS)
    repeat first|refine Gp ?_|refine Gw λw hS=>?_|refine Gb λb w hS=>?_
    refine zy ?_
    refine hfin (Heap.le_trans h02 h23) ?_ (SL.into hS Xi)
    rw[hfn hno];exact⟨_,rfl⟩
   | some L'=>
    have hl':=noteR_len hc
    rw[hc]at hq hno
    obtain⟨x,rfl,hx'⟩:=hq
    (try simp only[app]at hS)
    repeat first|refine Gp ?_|refine Gw λw hS=>?_|refine Gb λb w hS=>?_
    refine zr ?_
    repeat first|refine Gp ?_|refine Gw λw hS=>?_|refine Gb λb w hS=>?_
    exact⟨⟨i+1,L',x,H3,rfl,by omega,hl',hno,Heap.le_trans h02 h23,hx',SL.into hS Xi⟩,by dsimp only;omega⟩
  ·have hie:i=t.notes.length:=by omega
   subst hie
   rw[List.drop_length]at hno
   refine zA hS Xh rfl ?_
   have e:([.int .i64 t.lsn,x.ov,x.nv]:List Value)=encIt x:=by unfold encIt;rw[hx.lsn]
   rw[e]
   (apply zd (z6 H2 x t hx2) hS;exact Xp;clear hS)
   (rintro v post ⟨rfl,rfl⟩ w hS;(try simp only[app]at hS);(repeat (first|refine Gp ?_|refine Gw λw hS=>?_|refine Gb λb w hS=>?_)))
   refine hfin h02 ?_ (SL.into hS Xi)
   cases hm:mayItem t with
   | true=>rw[hfr hno hm];exact⟨_,rfl,hu⟩
   | false=>rw[show fitsR k.ts.length k.reqs t=none by unfold fitsR;rw[hm];rfl];exact⟨_,rfl⟩
theorem YX(kp gp dp lp pp:Nat)(H:Heap)(k:PSink)(x:ItV)(t:PItem)(L:List Rq)(lv:Value)(hx:ItIs H x t)(hl:RdRq H lv L)(hn:t.ops.length≤1000000)(hk:∀o∈t.ops,inI64 o.key):
  SP 107 [ptrO kp,agg (encIt x),lv] [.ob (SnkO kp gp dp lp pp H k),.mem H] (Gives (.tuple #[]) [.ob (SnkO kp gp dp lp pp H (k.doK t L)),.mem H]):=by
 intro W F w hS;apply vc107;unfold Vc107;(try simp only[app]at hS)
 refine zB hS λxb w hS=>?_
 obtain⟨rv,hr,hS⟩:=SnkO.open (k:=k) hS Xr
 unfold encIt at hS
 rw[hx.lsn]at hS
 have h1:=RdSl.one hl
 repeat first|refine Gp ?_|refine Gw λw hS=>?_|refine Gb λb w hS=>?_
 (apply zd (QD H gp k.ts x.ov t.ops hx.ops hn hk) hS;exact Xp;clear hS)
 (rintro v post ⟨rfl,rfl⟩ w hS;(try simp only[app]at hS);(repeat (first|refine Gp ?_|refine Gw λw hS=>?_|refine Gb λb w hS=>?_)))
 have hS:SL W (.ob (SnkO kp gp dp lp pp H (k.doK t L))::_) _:=SnkO.putN hS hl Xp
 exact⟨_,⟨rfl,rfl⟩,SL.into hS Xi⟩
structure TInv(g:PLog)(d:DS)(f n:Int)(es:List (List UInt8))(p:List UInt8):Prop where
 off:d.off=false
 torn:Torn d f n es p false
 m2:∀a,a≠1→0≤a→∃g2 d2,mendG g {d with arm:=a}=((g2,d2),0)∧LInv g2 d2 f n es∧0≤d2.arm∧(a=0→d2.arm=0)∧d2.ops=d.ops+1∧g2.segs=g.segs∧g2.base=g.base∧g2.size=g.size
 m1:∃d2,mendG g {d with arm:=1}=((g,d2),8)∧d2.R=d.R∧d2.off=true∧d2.ops=d.ops+1
theorem tear_any{g:PLog}{d:DS}{f n:Int}{es:List (List UInt8)}(h:LInv g d f n es){p:List UInt8}(hp:p.length≤1048576)(hn:n+es.length≤100000)(ha:0≤d.arm){k:Int}(hk:0≤k):
  (∃d',tearG g d p k=((g,d'),8)∧Torn d' f n es p false∧d'.off=true∧d'.ops=d.ops+1∧d.arm=1) ∨
  (∃g' d',tearG g d p k=((g',d'),0)∧TInv g' d' f n es p∧0≤d'.arm∧(d.arm=0→d'.arm=0)∧d'.ops=d.ops+1∧g'.segs=g.segs∧g'.base=g.base∧g'.size=g.size):=by
 obtain⟨x,A,l0,pre,hpl,hr⟩:=plan_ok h hp hn
 have hoff:=h.off
 have hm:mendG g d=((g,d),0):=by unfold mendG;rw[h.torn]
 obtain⟨hmay,f0,f1⟩:=hr.may h hoff
 let t:=x.b.take (k.toNat % x.b.length)
 let d1:DS:={d.cnt with R:=appF d.R x.file t}
 have hlt:k.toNat % x.b.length<x.b.length:=Nat.mod_lt _ hr.pos
 have hT:Torn d1 f n es p false:=hr.torn hp (m:=k.toNat % x.b.length) (by omega) (λ_=>hlt) (by rw[← h.files])
 by_cases h1:d.arm=1
 ·left
  have e:d.cnt.off=true:=by simp[DS.cnt,h1]
  have e2:d.cnt.err=8:=by unfold DS.err;rw[e];rfl
  refine⟨d1,?_,hT,e,by simp[DS.cnt,d1],h1⟩
  unfold tearG
  rw[if_neg (by omega),hoff,hpl]
  simp only[hm]
  rw[if_neg (by simp),append_eq hmay,e2,if_pos (by simp)]
 ·right
  have e:d.cnt.off=false:=by simp[DS.cnt,h1]
  have e2:d.cnt.err=0:=by unfold DS.err;rw[e];rfl
  have hap:=hr.app t
  rw[← h.files]at hap
  have hcon:Con f (A.map segF++[⟨x.file,pre.length,pre++t⟩]):=hr.chain.con.snoc (by rw[List.length_map];exact hr.file)
  have hR1:d1.R=A.map segF++[⟨x.file,pre.length,pre++t⟩]:=hap
  have hfind:∀a,DS.find {d1 with arm:=a} x.file=0:=λa=>by
   unfold DS.find
   rw[if_neg (by rw[(hr.may h (d':={d1 with arm:=a}) e).1];simp)]
   have hs:=hcon.sorted
   show (if isK PF.id d1.R x.file=true then (0:Int) else 5)=0
   rw[hR1,if_pos (is_end (x:=⟨x.file,pre.length,pre++t⟩) hs)]
  have harm:0≤d1.arm:=by show 0≤if 0<d.arm then d.arm-1 else d.arm;split<;>omega
  have hcoff:∀a,(DS.cnt {d1 with arm:=a}).off=decide (a=1):=λa=>rfl
  refine⟨{g with torn:=some ⟨x.file,if x.fresh=true then 0 else lastSize g.segs,x.fresh⟩},d1,?_,⟨e,hT,λa ha1 ha0=>?_,?_⟩,harm,λh0=>by simp[DS.cnt,d1,h0],by simp[DS.cnt,d1],rfl,rfl,rfl⟩
  ·exact tearG_eq hk (by rw[hoff];exact hpl) hm (by rw[append_eq hmay,e2])
  ·have hc1off:(DS.cnt {d1 with arm:=a}).off=false:=by rw[hcoff];exact decide_eq_false ha1
   have harm2:0≤(DS.cnt {d1 with arm:=a}).arm∧(a=0→(DS.cnt {d1 with arm:=a}).arm=0):=by
    show (0≤if 0<a then a-1 else a)∧(a=0→(if 0<a then a-1 else a)=0)
    split<;>omega
   unfold mendG
   simp only
   cases hfr:x.fresh with
   | true=>
    obtain⟨hA,hpre⟩:=hr.fresh hfr
    have hrem:DS.remove {d1 with arm:=a} x.file=({DS.cnt {d1 with arm:=a} with R:=A.map segF},0):=by
     unfold DS.remove
     rw[if_neg (by simp[hfind]),if_neg (by simp[hc1off])]
     have:delK PF.id d1.R x.file=A.map segF:=by rw[hR1,del_end (x:=⟨x.file,pre.length,pre++t⟩) hcon.sorted]
     exact congrArg (λR=>(({DS.cnt {d1 with arm:=a} with R:=R},0):DS × Int)) this
    simp only[if_true,hrem]
    refine⟨_,_,rfl,⟨h.chain,h.ents,by show A.map segF=_;rw[hA],h.nil,h.base,h.b0,h.b1,h.s0,h.s1,h.n1,h.fi,hc1off,rfl⟩,harm2.1,harm2.2,by simp[DS.cnt],rfl,rfl,rfl⟩
   | false=>
    obtain⟨hA,hsz⟩:=hr.old hfr
    have hlen:lenF d1.R x.file=(pre++t).length:=by
     unfold lenF
     rw[hR1,get_end (x:=⟨x.file,pre.length,pre++t⟩) hcon.sorted]
    have hcut:DS.cut {d1 with arm:=a} x.file (pre.length:Nat)=({DS.cnt {d1 with arm:=a} with R:=g.segs.map segF},0):=by
     unfold DS.cut
     rw[if_neg (by simp[hfind]),if_neg (by show ¬((pre.length:Int)<0∨lenF d1.R x.file<pre.length);rw[hlen,List.length_append];omega),if_neg (by simp[hc1off])]
     have:updF d1.R x.file (cutF pre.length)=g.segs.map segF:=by
      rw[hR1,upd_end (x:=⟨x.file,pre.length,pre++t⟩) hcon.sorted,hA]
      simp only[cutF,List.take_left,Nat.min_self]
     rw[Int.toNat_natCast]
     exact congrArg (λR=>(({DS.cnt {d1 with arm:=a} with R:=R},0):DS × Int)) this
    simp only[Bool.false_eq_true,if_false,hsz,hcut,if_true]
    refine⟨_,_,rfl,⟨h.chain,h.ents,rfl,h.nil,h.base,h.b0,h.b1,h.s0,h.s1,h.n1,h.fi,hc1off,rfl⟩,harm2.1,harm2.2,by simp[DS.cnt],rfl,rfl,rfl⟩
  ·have hc1off:(DS.cnt {d1 with arm:=1}).off=true:=rfl
   unfold mendG
   simp only
   cases hfr:x.fresh with
   | true=>
    have hrem:DS.remove {d1 with arm:=1} x.file=(DS.cnt {d1 with arm:=1},8):=by
     unfold DS.remove
     rw[if_neg (by simp[hfind]),if_pos hc1off]
    simp only[if_true,hrem]
    exact⟨_,rfl,rfl,rfl,by simp[DS.cnt]⟩
   | false=>
    obtain⟨hA,hsz⟩:=hr.old hfr
    have hlen:lenF d1.R x.file=(pre++t).length:=by
     unfold lenF
     rw[hR1,get_end (x:=⟨x.file,pre.length,pre++t⟩) hcon.sorted]
    have hcut:DS.cut {d1 with arm:=1} x.file (pre.length:Nat)=(DS.cnt {d1 with arm:=1},8):=by
     unfold DS.cut
     rw[if_neg (by simp[hfind]),if_neg (by show ¬((pre.length:Int)<0∨lenF d1.R x.file<pre.length);rw[hlen,List.length_append];omega),if_pos hc1off]
    simp only[Bool.false_eq_true,if_false,hsz,hcut]
    exact⟨_,rfl,rfl,rfl,by simp[DS.cnt]⟩
theorem tear_mend{g g1:PLog}{d d1:DS}{p:List UInt8}{k:Int}(hk:0≤k)(hm:mendG g d=((g1,d1),0))(hs:g1.segs=g.segs)(hb:g1.base=g.base)(hz:g1.size=g.size)(ho:d.off=false)(ho1:d1.off=false)(ht:g1.torn=none):tearG g d p k=tearG g1 d1 p k∨∃e,planG g1 false p= .error e:=by
 cases hx:planG g1 false p with
 | error e=>exact .inr ⟨e,rfl⟩
 | ok x=>
  left
  have hp:planG g false p=planG g1 false p:=by
   unfold planG freshG
   rw[hs,hb,hz]
  have hm1:mendG g1 d1=((g1,d1),0):=by unfold mendG;rw[ht]
  unfold tearG
  rw[ho,ho1,hp,hx]
  simp only[hm,hm1,hs,hb,hz]
  rw[if_neg (show ¬k<0 by omega),if_neg (show ¬k<0 by omega)]
theorem tear_m8{g:PLog}{d d2:DS}{p:List UInt8}{k:Int}(hk:0≤k){x:PWr}(hx:planG g d.off p= .ok x)(hm:mendG g d=((g,d2),8)):tearG g d p k=((g,d2),8):=by
 unfold tearG
 rw[if_neg (by omega),hx]
 simp only[hm]
 rw[if_pos (by decide)]
theorem append_m8{g:PLog}{d d2:DS}{p:List UInt8}{x:PWr}(hx:planG g d.off p= .ok x)(hm:mendG g d=((g,d2),8)):appendG g d p=((g,d2),(0,8)):=by
 unfold appendG
 rw[hx]
 simp only[hm]
 rw[if_pos (by decide)]
theorem planG_cong{g g1:PLog}(hs:g1.segs=g.segs)(hb:g1.base=g.base)(hz:g1.size=g.size)(off:Bool)(p:List UInt8):planG g off p=planG g1 off p:=by
 unfold planG freshG
 rw[hs,hb,hz]
def St(g:PLog)(d:DS)(es:List (List UInt8))(m:Option (List UInt8)):Prop:=
 (LInv g d 8192 1 es∧g.base=8192)∨((∃p,TInv g d 8192 1 es p)∧g.base=8192)∨(d.off=true∧∃q w,Torn d 8192 1 es q w∧(w=true→m=some q))
theorem LInv.armed{g:PLog}{d:DS}{f n:Int}{es:List (List UInt8)}(h:LInv g d f n es)(a:Int):LInv g {d with arm:=a} f n es:=
 ⟨h.chain,h.ents,h.files,h.nil,h.base,h.b0,h.b1,h.s0,h.s1,h.n1,h.fi,h.off,h.torn⟩
theorem St.armed{g:PLog}{d:DS}{es:List (List UInt8)}{m:Option (List UInt8)}(h:St g d es m)(a:Int):St g (d.armed a) es m:=by
 rcases h with ⟨h1,h2⟩|⟨⟨p,h1⟩,h2⟩|⟨h1,q,w,h2,h3⟩
 ·exact .inl ⟨h1.armed _,h2⟩
 ·exact .inr (.inl ⟨⟨p,h1.off,h1.torn.withD rfl,h1.m2,h1.m1⟩,h2⟩)
 ·exact .inr (.inr ⟨h1,q,w,h2.withD rfl,h3⟩)
theorem St.append{g:PLog}{d:DS}{es:List (List UInt8)}{m:Option (List UInt8)}(h:St g d es m)(ha:0≤d.arm)(ho:d.off=false){p:List UInt8}(hp:p.length≤1048576)(hl:es.length≤1000):
  (∃g' d',appendG g d p=((g',d'),((1+es.length:Int),0))∧LInv g' d' 8192 1 (es++[p])∧g'.base=8192∧d'.ops≤d.ops+3∧(d.arm=0→d'.arm=0)) ∨
  (∃g' d',appendG g d p=((g',d'),(0,8))∧St g' d' es (some p)∧d'.off=true∧d'.ops≤d.ops+3∧d.arm≠0):=by
 have hlive:∀{g:PLog} {d:DS},LInv g d 8192 1 es→g.base=8192→0≤d.arm→(∃g' d',appendG g d p=((g',d'),((1+es.length:Int),0))∧LInv g' d' 8192 1 (es++[p])∧g'.base=8192∧d'.ops≤d.ops+2∧(d.arm=0→d'.arm=0)) ∨
   (∃g' d',appendG g d p=((g',d'),(0,8))∧St g' d' es (some p)∧d'.off=true∧d'.ops≤d.ops+2∧d.arm≠0):=by
  intro g d h1 h2 ha
  rcases append_live h1 hp (by omega) (by rw[h2];omega) ha with ⟨g',d',e,k1,k2,k3,k4,k5,_⟩|⟨d',e,k1,k2,k3,k4⟩
  ·exact .inl ⟨g',d',e,k1,by rw[k5,h2],by omega,k4⟩
  ·exact .inr ⟨g,d',e,.inr (.inr ⟨k2,p,true,k1,λ_=>rfl⟩),k2,k3,k4⟩
 rcases h with ⟨h1,h2⟩|⟨⟨q,h1⟩,h2⟩|⟨h1,_⟩
 ·rcases hlive h1 h2 ha with ⟨g',d',e,k1,k2,k3,k4⟩|⟨g',d',e,k1,k2,k3,k4⟩
  ·exact .inl ⟨g',d',e,k1,k2,by omega,k4⟩
  ·exact .inr ⟨g',d',e,k1,k2,by omega,k4⟩
 ·obtain⟨g0,d0,m0,l0,_,_,_,s0,b0,z0⟩:=h1.m2 0 (by decide) (by decide)
  obtain⟨x,_,_,_,hpl,_⟩:=plan_ok l0 hp (by omega)
  rw[← planG_cong s0 b0 z0]at hpl
  by_cases ha1:d.arm=1
  ·obtain⟨d2,e,r1,r2,r3⟩:=h1.m1
   have e:mendG g d=((g,d2),8):=by rw[← e,← ha1]
   exact .inr ⟨g,d2,append_m8 (by rw[ho];exact hpl) e,.inr (.inr ⟨r2,q,false,h1.torn.withD r1,λh=>by cases h⟩),r2,by omega,by omega⟩
  ·obtain⟨g2,d2,e,l2,a2,a3,o2,s2,b2,z2⟩:=h1.m2 d.arm ha1 ha
   have e:mendG g d=((g2,d2),0):=e
   have hpl2:planG g2 false p= .ok x:=by rw[← planG_cong s2 b2 z2];exact hpl
   rw[append_mend e s2 b2 z2 ho l2.off l2.torn hpl2]
   rcases hlive l2 (by rw[b2,h2]) a2 with ⟨g',d',e,k1,k2,k3,k4⟩|⟨g',d',e,k1,k2,k3,k4⟩
   ·exact .inl ⟨g',d',e,k1,k2,by omega,λh=>k4 (a3 h)⟩
   ·exact .inr ⟨g',d',e,k1,k2,by omega,λh=>k4 (a3 h)⟩
 ·rw[ho]at h1;cases h1
theorem St.tear{g:PLog}{d:DS}{es:List (List UInt8)}{m:Option (List UInt8)}(h:St g d es m)(ha:0≤d.arm)(ho:d.off=false){p:List UInt8}(hp:p.length≤1048576)(hl:es.length≤1000){k:Int}(hk:0≤k):
  ∃g' d' e,tearG g d p k=((g',d'),e)∧St g' d' es none∧d'.ops≤d.ops+2∧((e=0∧d'.off=false∧(d.arm=0→d'.arm=0))∨(e=8∧d'.off=true∧d.arm≠0)):=by
 have hlive:∀{g:PLog} {d:DS},LInv g d 8192 1 es→g.base=8192→0≤d.arm→∃g' d' e,tearG g d p k=((g',d'),e)∧St g' d' es none∧d'.ops≤d.ops+1∧((e=0∧d'.off=false∧(d.arm=0→d'.arm=0))∨(e=8∧d'.off=true∧d.arm≠0)):=by
  intro g d h1 h2 ha
  rcases tear_any h1 hp (by omega) ha hk with ⟨d',e,k1,k2,k3,k4⟩|⟨g',d',e,k1,k2,k3,k4,k5,k6,k7⟩
  ·exact⟨g,d',8,e,.inr (.inr ⟨k2,p,false,k1,λh=>by cases h⟩),by omega,.inr ⟨rfl,k2,by omega⟩⟩
  ·exact⟨g',d',0,e,.inr (.inl ⟨⟨p,k1⟩,by rw[k6,h2]⟩),by omega,.inl ⟨rfl,k1.off,k3⟩⟩
 rcases h with ⟨h1,h2⟩|⟨⟨q,h1⟩,h2⟩|⟨h1,_⟩
 ·obtain⟨g',d',e,k1,k2,k3,k4⟩:=hlive h1 h2 ha
  exact⟨g',d',e,k1,k2,by omega,k4⟩
 ·obtain⟨g0,d0,m0,l0,_,_,_,s0,b0,z0⟩:=h1.m2 0 (by decide) (by decide)
  obtain⟨x,_,_,_,hpl,_⟩:=plan_ok l0 hp (by omega)
  rw[← planG_cong s0 b0 z0]at hpl
  by_cases ha1:d.arm=1
  ·obtain⟨d2,e,r1,r2,r3⟩:=h1.m1
   have e:mendG g d=((g,d2),8):=by rw[← e,← ha1]
   exact⟨g,d2,8,tear_m8 hk (by rw[ho];exact hpl) e,.inr (.inr ⟨r2,q,false,h1.torn.withD r1,λh=>by cases h⟩),by omega,.inr ⟨rfl,r2,by omega⟩⟩
  ·obtain⟨g2,d2,e,l2,a2,a3,o2,s2,b2,z2⟩:=h1.m2 d.arm ha1 ha
   have e:mendG g d=((g2,d2),0):=e
   have hpl2:planG g2 false p= .ok x:=by rw[← planG_cong s2 b2 z2];exact hpl
   rcases tear_mend (p:=p) (k:=k) hk e s2 b2 z2 ho l2.off l2.torn with h3|⟨e',h3⟩
   ·rw[h3]
    obtain⟨g',d',e,k1,k2,k3,k4⟩:=hlive l2 (by rw[b2,h2]) a2
    refine⟨g',d',e,k1,k2,by omega,?_⟩
    rcases k4 with ⟨k5,k6,k7⟩|⟨k5,k6,k7⟩
    ·exact .inl ⟨k5,k6,λh=>k7 (a3 h)⟩
    ·exact .inr ⟨k5,k6,λh=>k7 (a3 h)⟩
   ·rw[hpl2]at h3;cases h3
 ·rw[ho]at h1;cases h1
theorem LInv.st{g:PLog}{d:DS}{es:List (List UInt8)}(h:LInv g d 8192 1 es)(hb:g.base=8192)(m:Option (List UInt8)):St g d es m:=.inl ⟨h,hb⟩
theorem SeqG.head{L:List PSeg}(h:SeqG L)(hL:L≠[]):headG L=lowG L+(entsG L).length-1:=by
 induction L with
 | nil=>exact absurd rfl hL
 | cons s r ih=>
  cases r with
  | nil=>simp[headG,lowG,entsG,PSeg.next]
  | cons t r=>
   have h1:=ih h.2 (by simp)
   have h2:headG (s::t::r)=headG (t::r):=by simp only[headG,List.getLast?_cons_cons]
   have h3:=h.1
   rw[h2,h1,entsG_cons s (t::r),List.length_append]
   simp only[PSeg.next]at h3
   show lowG (t::r)+_-1=s.first+_-1
   have:lowG (t::r)=t.first:=rfl
   rw[this];omega
theorem SeqG.read:∀{L:List PSeg},SeqG L→∀i:Nat,readG L (lowG L+i)=(entsG L)[i]?
 | [],_,i=>by simp[readG,entsG]
 | [s],_,i=>by
  have e:lowG [s]=s.first:=rfl
  rw[e,readG,entsG_cons]
  have he:entsG []=([]:List (List UInt8)):=rfl
  rw[he,List.append_nil]
  by_cases h:i<s.l.length
  ·rw[if_pos ⟨by omega,by show s.first+i<s.first+s.l.length;omega⟩]
   congr 1;omega
  ·rw[if_neg (by rintro ⟨_,h2⟩;have h2:s.first+i<s.first+s.l.length:=h2;omega),List.getElem?_eq_none (by omega)];rfl
 | s::t::r,h,i=>by
  have e:lowG (s::t::r)=s.first:=rfl
  have e2:lowG (t::r)=t.first:=rfl
  have h1:=h.1
  simp only[PSeg.next]at h1
  rw[e,readG,entsG_cons]
  by_cases hi:i<s.l.length
  ·rw[if_pos ⟨by omega,by show s.first+i<s.first+s.l.length;omega⟩,List.getElem?_append_left hi]
   congr 1;omega
  ·rw[if_neg (by rintro ⟨_,h2⟩;have h2:s.first+i<s.first+s.l.length:=h2;omega),List.getElem?_append_right (by omega)]
   have:=SeqG.read h.2 (i-s.l.length)
   rw[e2]at this
   rw[← this]
   congr 1;omega
def runT(tabs:Nat):List PItem→Tr→Option Tr
 | [],t=>some t
 | x::r,t=>match stepT tabs t x with
  | some t'=>runT tabs r t'
  | none=>none
theorem runT_snoc(tabs:Nat):∀(xs:List PItem) (x:PItem) (t t1:Tr),runT tabs xs t=some t1→runT tabs (xs++[x]) t=stepT tabs t1 x
 | [],x,t,t1,h=>by
  cases h
  show (match stepT tabs t x with|some t'=>runT tabs [] t'|none=>none)=_
  cases stepT tabs t x<;>rfl
 | y::xs,x,t,t1,h=>by
  have h:(match stepT tabs t y with|some t'=>runT tabs xs t'|none=>none)=some t1:=h
  show (match stepT tabs t y with|some t'=>runT tabs (xs++[x]) t'|none=>none)=_
  cases hs:stepT tabs t y with
  | none=>rw[hs]at h;cases h
  | some t'=>rw[hs]at h;exact runT_snoc tabs xs x t' t1 h
theorem bytesItem_dec{x:PItem}(h:mayItem x=true):decItem (bytesItem x)= .ok x:=by
 obtain⟨b,e1,e2⟩:=decItem_ok h
 unfold bytesItem
 rw[e1];exact e2
theorem bytesItem_len{x:PItem}(h:mayItem x=true):(bytesItem x).length≤29+x.ops.length*71+x.notes.length*63∧(bytesItem x).length≤306973:=by
 obtain⟨b,e1,_⟩:=decItem_ok h
 have:=encItem_len h e1
 obtain⟨h0,_⟩:=mayItem_iff.1 h
 unfold bytesItem
 rw[e1]
 show b.length≤_∧b.length≤_
 omega
structure SInv(tabs:Nat)(k:PSink)(xs:List PItem)(m:Option PItem):Prop where
 st:St k.g k.d (xs.map bytesItem) (m.map bytesItem)
 may:∀x∈xs,mayItem x=true
 run:runT tabs xs (t00 tabs)=some k.tr
 len:k.ts.length=tabs
 way:∀x,m=some x→mayItem x=true∧∃t,stepT tabs k.tr x=some t
theorem SInv.plan{tabs:Nat}{k:PSink}{xs:List PItem}{m:Option PItem}(h:SInv tabs k xs m)(p:List PFt):SInv tabs {k with plan:=p} xs m:=⟨h.st,h.may,h.run,h.len,h.way⟩
theorem SInv.armed{tabs:Nat}{k:PSink}{xs:List PItem}{m:Option PItem}(h:SInv tabs k xs m)(a:Int):SInv tabs {k with d:=k.d.armed a} xs m:=⟨h.st.armed a,h.may,h.run,h.len,h.way⟩
theorem stepT_of{tabs:Nat}{t:Tr}{x:PItem}{L:List Rq}(hf:fitsR tabs t.2.1 x=some L)(hl:t.2.2<x.lsn):stepT tabs t x=some ((putAll t.1 x.ops).1,L,x.lsn):=by
 unfold stepT;rw[hf];simp only;rw[if_pos hl]
theorem fitsR_may{n:Nat}{L L':List Rq}{x:PItem}(h:fitsR n L x=some L'):mayItem x=true∧tabsOk n x=true∧notesR L x.notes=some L':=by
 unfold fitsR at h
 split at h
 ·rename_i hc;exact⟨hc.1,hc.2,h⟩
 ·cases h
theorem writeK_inv{tabs:Nat}{k:PSink}{xs:List PItem}{m:Option PItem}(h:SInv tabs k xs m)(ha:0≤k.d.arm)(ho:k.d.off=false)(hl:xs.length≤900){x:PItem}{L:List Rq}(hf:fitsR tabs k.reqs x=some L)(hlt:k.lsn<x.lsn):
  ((k.writeK x L).2=0∧SInv tabs (k.writeK x L).1 (xs++[x]) none∧(k.writeK x L).1.tr=((putAll k.ts x.ops).1,L,x.lsn)∧(k.writeK x L).1.plan=k.plan∧(k.writeK x L).1.d.off=false∧(k.d.arm=0→(k.writeK x L).1.d.arm=0)∧(k.writeK x L).1.d.ops≤k.d.ops+3) ∨
  ((k.writeK x L).2=8∧SInv tabs (k.writeK x L).1 xs (some x)∧(k.writeK x L).1.tr=k.tr∧(k.writeK x L).1.plan=k.plan∧(k.writeK x L).1.d.off=true∧k.d.arm≠0∧(k.writeK x L).1.d.ops≤k.d.ops+3):=by
 obtain⟨hm,ht,hn⟩:=fitsR_may hf
 have hb:=(bytesItem_len hm).2
 have hs:stepT tabs k.tr x=some ((putAll k.ts x.ops).1,L,x.lsn):=stepT_of (t:=k.tr) hf hlt
 rcases h.st.append ha ho (p:=bytesItem x) (by omega) (by rw[List.length_map];omega) with ⟨g',d',e,k1,k2,k3,k4⟩|⟨g',d',e,k1,k2,k3,k4⟩
 ·left
  have hw:k.writeK x L=(PSink.doK {k with g:=g',d:=d'} x L,0):=by
   unfold PSink.writeK;simp only[e];rw[if_pos trivial]
  rw[hw]
  refine⟨rfl,⟨?_,?_,?_,?_,λy hy=>by cases hy⟩,rfl,rfl,k1.off,k4,k3⟩
  ·rw[List.map_append];exact k1.st k2 _
  ·intro y hy
   rcases List.mem_append.1 hy with hy|hy
   ·exact h.may y hy
   ·rw[List.mem_singleton.1 hy];exact hm
  ·rw[runT_snoc tabs xs x _ _ h.run,hs];rfl
  ·show (putAll k.ts x.ops).1.length=tabs
   rw[putAll_len,h.len]
 ·right
  have hw:k.writeK x L=({k with g:=g',d:=d'},8):=by
   unfold PSink.writeK;simp only[e];rw[if_neg (by decide)]
  rw[hw]
  exact⟨rfl,⟨k1,h.may,h.run,h.len,λy hy=>by cases hy;exact⟨hm,_,hs⟩⟩,rfl,rfl,k2,k4,k3⟩
theorem tearK_inv{tabs:Nat}{k:PSink}{xs:List PItem}{m:Option PItem}(h:SInv tabs k xs m)(ha:0≤k.d.arm)(ho:k.d.off=false)(hl:xs.length≤900){x:PItem}(hm:mayItem x=true){n:Int}(hn:0≤n):
  SInv tabs (k.tearK x n).1 xs none∧(k.tearK x n).1.tr=k.tr∧(k.tearK x n).1.plan=k.plan∧(k.tearK x n).1.d.ops≤k.d.ops+2 ∧
   (((k.tearK x n).2=0∧(k.tearK x n).1.d.off=false∧(k.d.arm=0→(k.tearK x n).1.d.arm=0))∨((k.tearK x n).2=8∧(k.tearK x n).1.d.off=true∧k.d.arm≠0)):=by
 have hb:=(bytesItem_len hm).2
 obtain⟨g',d',e,h1,h2,h3,h4⟩:=h.st.tear ha ho (p:=bytesItem x) (by omega) (by rw[List.length_map];omega) hn
 have hw:k.tearK x n=({k with g:=g',d:=d'},e):=by unfold PSink.tearK;simp only[h1]
 rw[hw]
 exact⟨⟨h2,h.may,h.run,h.len,λy hy=>by cases hy⟩,rfl,rfl,h3,h4⟩
theorem SInv.commit{tabs:Nat}{k:PSink}{xs:List PItem}{m:Option PItem}(h:SInv tabs k xs m)(ha:0≤k.d.arm)(hl:xs.length≤900)(hpl:∀f∈k.plan,mayFt f=true)(x:PItem):
  ∃xs' m',SInv tabs (k.commitK x).1 xs' m'∧xs'.length≤xs.length+1∧(∀f∈(k.commitK x).1.plan,mayFt f=true)∧(k.commitK x).1.plan.length≤k.plan.length∧(k.commitK x).1.d.ops≤k.d.ops+3:=by
 unfold PSink.commitK
 by_cases h1:mayItem x=false∨(k.lsn<x.lsn∧fitsR k.ts.length k.reqs x=none)
 ·rw[if_pos h1];exact⟨xs,m,h,by omega,hpl,Nat.le_refl _,by simp⟩
 ·rw[if_neg h1]
  have hm:mayItem x=true:=by
   cases hb:mayItem x with
   | true=>rfl
   | false=>exact absurd (.inl hb) h1
  by_cases ho:k.d.off=true
  ·rw[if_pos ho];exact⟨xs,m,h,by omega,hpl,Nat.le_refl _,by simp⟩
  ·rw[if_neg ho]
   have ho:k.d.off=false:=by simpa using ho
   have hfit:k.lsn<x.lsn→∃L,fitsR tabs k.reqs x=some L∧(fitsR k.ts.length k.reqs x).getD []=L:=λhlt=>by
    rw[h.len]
    cases hf:fitsR tabs k.reqs x with
    | none=>exact absurd (.inr ⟨hlt,by rw[h.len];exact hf⟩) h1
    | some L=>exact⟨L,rfl,rfl⟩
   have hwr:∀k':PSink,SInv tabs k' xs m→k'.d=k.d→k'.reqs=k.reqs→k'.lsn=k.lsn→k.lsn<x.lsn→∃xs' m',SInv tabs (k'.writeK x ((fitsR k.ts.length k.reqs x).getD [])).1 xs' m'∧xs'.length≤xs.length+1∧(k'.writeK x ((fitsR k.ts.length k.reqs x).getD [])).1.plan=k'.plan∧(k'.writeK x ((fitsR k.ts.length k.reqs x).getD [])).1.d.ops≤k.d.ops+3:=by
    intro k' hk hd hr hs hlt
    obtain⟨L,hf,e⟩:=hfit hlt
    rw[e]
    rcases writeK_inv hk (by rw[hd];exact ha) (by rw[hd];exact ho) hl (by rw[hr];exact hf) (by rw[hs];exact hlt) with ⟨_,j1,_,j2,_,_,j3⟩|⟨_,j1,_,j2,_,_,j3⟩
    ·exact⟨_,_,j1,by simp,j2,by rw[hd]at j3;exact j3⟩
    ·exact⟨_,_,j1,by omega,j2,by rw[hd]at j3;exact j3⟩
   simp only
   cases hp:k.plan with
   | nil=>
    simp only
    by_cases hlt:k.lsn<x.lsn
    ·rw[if_pos hlt]
     obtain⟨xs',m',j1,j2,j3,j4⟩:=hwr k h rfl rfl rfl hlt
     exact⟨xs',m',j1,j2,by rw[j3,hp];simp,by rw[j3,hp];simp,j4⟩
    ·rw[if_neg hlt];exact⟨xs,m,h,by omega,by rw[hp];simp,by rw[hp];simp,by simp⟩
   | cons f r=>
    simp only
    rw[hp]at hpl
    have hr:∀f∈r,mayFt f=true:=λy hy=>hpl y (.tail _ hy)
    have h':SInv tabs {k with plan:=r} xs m:=h.plan r
    have hid:∃xs' m',SInv tabs {k with plan:=r} xs' m'∧xs'.length≤xs.length+1∧(∀f∈({k with plan:=r}:PSink).plan,mayFt f=true)∧({k with plan:=r}:PSink).plan.length≤(f::r).length∧({k with plan:=r}:PSink).d.ops≤k.d.ops+3:=⟨xs,m,h',by omega,hr,by simp,by simp⟩
    by_cases h3:f.kind=3
    ·rw[if_pos h3]
     by_cases hlt:k.lsn<x.lsn
     ·rw[if_pos hlt]
      obtain⟨xs',m',j1,j2,j3,j4⟩:=hwr {k with plan:=r} h' rfl rfl rfl hlt
      exact⟨xs',m',j1,j2,by rw[j3];exact hr,by rw[j3];simp,j4⟩
     ·rw[if_neg hlt];exact hid
    ·rw[if_neg h3]
     by_cases h2:f.kind=2∧k.lsn<x.lsn
     ·rw[if_pos h2]
      have hk:0≤f.keep:=by
       have:=hpl f (.head _)
       unfold mayFt at this
       rw[decide_eq_true_eq]at this
       omega
      obtain⟨j1,_,j2,j3,_⟩:=tearK_inv h' ha ho hl hm hk
      exact⟨xs,none,j1,by omega,by rw[j2];exact hr,by rw[j2];simp,Nat.le_trans j3 (by show k.d.ops+2≤k.d.ops+3;omega)⟩
     ·rw[if_neg h2];exact hid
def nxt:List PFt→PFt × List PFt
 | []=>(⟨0,0⟩,[])
 | f::r=>(f,r)
theorem qt(p:Nat)(L:List PFt)(hL:L.length≤1024):SP 103 [ptrO p] [.ob (PlanO p L)] (λv post=>∃q,v= .tuple #[agg (encFt (nxt L).1),.bool q]∧post=[.ob (PlanO p (nxt L).2)]):=by
 cases L with
 | nil=>exact (fnext_nil p).mono λv post h=>⟨false,h.1,h.2⟩
 | cons f r=>exact (fnext_cons p f r (by rw[List.length_cons]at hL;omega)).mono λv post h=>⟨true,h.1,h.2⟩
def PSink.appK(k:PSink)(x:PItem):PSink × Int:=
 let r:=appendG k.g k.d (bytesItem x)
 ({k with g:=r.1.1,d:=r.1.2},r.2.2)
theorem writeK_eq(k:PSink)(x:PItem)(L:List Rq):k.writeK x L=if (k.appK x).2=0 then ((k.appK x).1.doK x L,0) else k.appK x:=by
 unfold PSink.writeK PSink.appK
 simp only
def PSink.wrK(k:PSink)(x:PItem)(f:PFt):PSink × Int:=if f.kind=2 then k.tearK x f.keep else if k.lsn<x.lsn then k.appK x else (k,0)
def PSink.endK(k:PSink)(x:PItem)(f:PFt)(L:List Rq):PSink × Int:=
 if (k.wrK x f).2≠0 then k.wrK x f else ((if k.lsn<x.lsn∧f.kind≠2 then (k.wrK x f).1.doK x L else (k.wrK x f).1),if f.kind≠0 then 9 else 0)
theorem nxt_may{L:List PFt}(h:∀f∈L,mayFt f=true):((nxt L).1.kind=0∧L=[])∨(L≠[]∧((nxt L).1.kind=1∨(nxt L).1.kind=2∨(nxt L).1.kind=3)):=by
 cases L with
 | nil=>exact .inl ⟨rfl,rfl⟩
 | cons f r=>
  have h1:=h f (.head _)
  unfold mayFt at h1
  rw[decide_eq_true_eq]at h1
  right
  refine⟨by simp,?_⟩
  show f.kind=1∨f.kind=2∨f.kind=3
  omega
theorem nxt_keep{L:List PFt}(h:∀f∈L,mayFt f=true):0≤(nxt L).1.keep:=by
 cases L with
 | nil=>exact Int.le_refl _
 | cons f r=>
  have h1:=h f (.head _)
  unfold mayFt at h1
  rw[decide_eq_true_eq]at h1
  show 0≤f.keep
  omega
theorem commitK_a{k:PSink}{x:PItem}(h:mayItem x=false∨(k.lsn<x.lsn∧fitsR k.ts.length k.reqs x=none)):k.commitK x=(k,1):=if_pos h
theorem commitK_o{k:PSink}{x:PItem}(h:¬(mayItem x=false∨(k.lsn<x.lsn∧fitsR k.ts.length k.reqs x=none)))(ho:k.d.off=true):k.commitK x=(k,8):=by
 unfold PSink.commitK;rw[if_neg h,if_pos ho]
theorem commitK_9{k:PSink}{x:PItem}(h:¬(mayItem x=false∨(k.lsn<x.lsn∧fitsR k.ts.length k.reqs x=none)))(ho:k.d.off=false)(hf:(nxt k.plan).1.kind=1∨((nxt k.plan).1.kind=2∧¬k.lsn<x.lsn)):k.commitK x=({k with plan:=(nxt k.plan).2},9):=by
 unfold PSink.commitK
 rw[if_neg h,if_neg (by rw[ho];decide)]
 cases hp:k.plan with
 | nil=>rw[hp]at hf;rcases hf with hf|⟨hf,_⟩<;>cases hf
 | cons f r=>
  rw[hp]at hf
  have hf:f.kind=1∨(f.kind=2∧¬k.lsn<x.lsn):=hf
  simp only
  rw[if_neg (by omega),if_neg (by omega)];rfl
theorem commitK_e{k:PSink}{x:PItem}(h:¬(mayItem x=false∨(k.lsn<x.lsn∧fitsR k.ts.length k.reqs x=none)))(ho:k.d.off=false)(hm:∀f∈k.plan,mayFt f=true)(hf:¬((nxt k.plan).1.kind=1∨((nxt k.plan).1.kind=2∧¬k.lsn<x.lsn))):
  k.commitK x=PSink.endK {k with plan:=(nxt k.plan).2} x (nxt k.plan).1 ((fitsR k.ts.length k.reqs x).getD []):=by
 have hn:=nxt_may hm
 unfold PSink.commitK
 rw[if_neg h,if_neg (by rw[ho];decide)]
 generalize (fitsR k.ts.length k.reqs x).getD []=L
 cases hp:k.plan with
 | nil=>
  rw[hp]at hn hf
  have e:({k with plan:=(nxt []).2}:PSink)=k:=by rw[← hp];cases k;simp only at hp;subst hp;rfl
  rw[e]
  show (if k.lsn<x.lsn then k.writeK x L else (k,0))=_
  by_cases hl:k.lsn<x.lsn
  ·by_cases h0:(k.appK x).2=0
   ·simp[PSink.endK,PSink.wrK,writeK_eq,nxt,hl,h0]
   ·simp[PSink.endK,PSink.wrK,writeK_eq,nxt,hl,h0]
  ·simp[PSink.endK,PSink.wrK,nxt,hl]
 | cons f r=>
  rw[hp]at hn hf
  have hf:¬(f.kind=1∨(f.kind=2∧¬k.lsn<x.lsn)):=hf
  have hn:f.kind=2∨f.kind=3:=by
   rcases hn with ⟨_,h⟩|⟨_,h⟩
   ·cases h
   ·have h:f.kind=1∨f.kind=2∨f.kind=3:=h
    omega
  show _=PSink.endK {k with plan:=r} x f L
  generalize hk':({k with plan:=r}:PSink)=k'
  have hl':k'.lsn=k.lsn:=by rw[← hk']
  simp only
  rw[hk']
  rcases hn with hn|hn
  ·have hl:k.lsn<x.lsn:=by
    rcases Int.lt_or_le k.lsn x.lsn with h|h
    ·exact h
    ·exact absurd (.inr ⟨hn,by omega⟩) hf
   by_cases h0:(k'.tearK x f.keep).2=0
   ·simp[PSink.endK,PSink.wrK,hn,hl,hl',h0]
   ·simp[PSink.endK,PSink.wrK,hn,hl,h0]
  ·by_cases hl:k.lsn<x.lsn
   ·by_cases h0:(k'.appK x).2=0
    ·simp[PSink.endK,PSink.wrK,writeK_eq,hn,hl,hl',h0]
    ·simp[PSink.endK,PSink.wrK,writeK_eq,hn,hl,hl',h0]
   ·simp[PSink.endK,PSink.wrK,hn,hl,hl']
abbrev KAns(kp gp dp lp pp:Nat)(H:Heap)(y:PSink × Int)(v:Value)(post:List Chunk):Prop:=v= .int .i64 y.2∧∃H',H.le H'∧post=[.ob (SnkO kp gp dp lp pp H' y.1),.mem H']
theorem bytesItem_ok{t:PItem}(h:mayItem t=true):encItem t= .ok (bytesItem t):=by
 have h1:=(encItem_ok h).1
 unfold bytesItem
 rw[h1]
theorem Yr(kp gp dp lp pp:Nat)(H:Heap)(k:PSink)(x:ItV)(t:PItem)(hx:ItIs H x t)(hi:IOk t)(hkeys:∀o∈t.ops,inI64 o.key){N m:Nat}(hk:KOk k N m):
  SP 30 [ptrO kp,agg (encIt x)] [.ob (SnkO kp gp dp lp pp H k),.mem H] (KAns kp gp dp lp pp H (k.commitK t)):=by
 intro W F w hS;apply vc30;unfold Vc30;(try simp only[app]at hS)
 refine zB hS λxb w hS=>?_
 obtain⟨rv,hr,hS⟩:=SnkO.open (k:=k) hS Xr
 have ex:encIt x=[.int .i64 t.lsn,x.ov,x.nv]:=by unfold encIt;rw[hx.lsn]
 rw[ex]at hS
 repeat first|refine Gp ?_|refine Gw λw hS=>?_|refine Gb λb w hS=>?_
 have hS:=SnkO.put k hS hr Xp
 rw[← ex]
 rw[← ex]at hS
 (apply zd (Zn kp gp dp lp pp H k x t hx hi hk.rq) hS;exact Xp;clear hS)
 rintro u post ⟨H1,h01,hq,rfl⟩ w hS
 have hu:∃y,u= .tuple #[y,.bool (fitsR k.ts.length k.reqs t).isSome]∧∀L,fitsR k.ts.length k.reqs t=some L→RdRq H1 y L:=by
  unfold RqQ at hq
  cases hc:fitsR k.ts.length k.reqs t with
  | none=>rw[hc]at hq;obtain⟨y,rfl⟩:=hq;exact⟨y,rfl,λL h=>by cases h⟩
  | some L=>rw[hc]at hq;obtain⟨y,rfl,hy⟩:=hq;exact⟨y,rfl,λL' h=>by cases h;exact hy⟩
 obtain⟨y,rfl,hy⟩:=hu
 clear hq
 have hx1:=hx.mono h01
 (try simp only[app]at hS)
 repeat first|refine Gp ?_|refine Gw λw hS=>?_|refine Gb λb w hS=>?_
 have hfin:∀{w:World} {H':Heap} {z:PSink} {e:Int},H.le H'→k.commitK t=(z,e)→SL W (.ob (SnkO kp gp dp lp pp H' z)::.mem H'::F) w→∃post,KAns kp gp dp lp pp H (k.commitK t) (.int .i64 e) post∧SL W (app post F) w:=λhh he hS=>by rw[he];exact⟨_,⟨rfl,_,hh,rfl⟩,hS⟩
 refine⟨λus w=>∃q:Bool,us=[.bool q]∧(q=true↔(mayItem t=false∨(k.lsn<t.lsn∧fitsR k.ts.length k.reqs t=none)))∧SL W (.ob (SnkO kp gp dp lp pp H1 k)::.mem H1::.pt xb (encIt x) 46::F) w,?_,?_⟩
 ·repeat first|refine Gp ?_|refine Gw λw hS=>?_|refine Gb λb w hS=>?_
  (apply zd (z6 H1 x t hx1) hS;exact Xp;clear hS)
  (rintro v post ⟨rfl,rfl⟩ w hS;(try simp only[app]at hS);(repeat (first|refine Gp ?_|refine Gw λw hS=>?_|refine Gb λb w hS=>?_)))
  refine zK (λhm=>?_) (λhm=>?_)
  ·exact⟨true,rfl,⟨λ_=>.inl hm,λ_=>rfl⟩,SL.into hS Xi⟩
  ·refine ze (λhl=>?_) (λhl=>?_)
   ·repeat first|refine Gp ?_|refine Gw λw hS=>?_|refine Gb λb w hS=>?_
    refine⟨_,rfl,?_,SL.into hS Xi⟩
    rw[hm]
    cases fitsR k.ts.length k.reqs t with
    | none=>exact⟨λ_=>.inr ⟨hl,rfl⟩,λ_=>rfl⟩
    | some L=>exact⟨λh=>by (cases h),λh=>by rcases h with h|⟨_,h⟩<;>cases h⟩
   ·refine⟨false,rfl,⟨λh=>by (cases h),λh=>?_⟩,SL.into hS Xi⟩
    rcases h with h|h
    ·rw[hm]at h;cases h
    ·exact absurd h.1 hl
 clear hS
 rintro v25 w ⟨q,hus,hq,hS⟩
 cases hus
 refine yO (λhqt=>hfin h01 (commitK_a (hq.1 hqt)) (SL.into hS Xi)) (λhqf=>?_)
 have hnq:¬(mayItem t=false∨(k.lsn<t.lsn∧fitsR k.ts.length k.reqs t=none)):=λh=>by rw[hq.2 h]at hqf;cases hqf
 have hmay:mayItem t=true:=by
  cases hb:mayItem t with
  | true=>rfl
  | false=>exact absurd (.inl hb) hnq
 obtain⟨rv,hr,hS⟩:=SnkO.open (k:=k) hS Xr
 repeat first|refine Gp ?_|refine Gw λw hS=>?_|refine Gb λb w hS=>?_
 (apply zd (yL dp k.d) hS;exact Xp;clear hS)
 (rintro v post ⟨rfl,rfl⟩ w hS;(try simp only[app]at hS);(repeat (first|refine Gp ?_|refine Gw λw hS=>?_|refine Gb λb w hS=>?_)))
 refine yO (λho=>?_) (λho=>?_)
 ·have hS:=SnkO.put k hS hr Xp
  exact hfin h01 (commitK_o hnq ho) (SL.into hS Xi)
 repeat first|refine Gp ?_|refine Gw λw hS=>?_|refine Gb λb w hS=>?_
 (apply zd (qt pp k.plan hk.pl) hS;exact Xp;clear hS)
 rintro _ post ⟨nq,rfl,rfl⟩ w hS
 (try simp only[app]at hS)
 have hplm:=hk.plm
 have hke:=nxt_keep hplm
 have hcm9:=commitK_9 hnq ho
 have hcme:=commitK_e hnq ho hplm
 have hnl:(nxt k.plan).2.length≤1024:=by
  have:=hk.pl
  cases hp:k.plan with
  | nil=>exact Nat.zero_le _
  | cons f r=>rw[hp,List.length_cons]at this;show r.length≤1024;omega
 generalize hf:(nxt k.plan).1=f at *
 generalize (nxt k.plan).2=pr at *
 refine Gp ?_
 refine Gb λfb w hS=>?_
 refine⟨λus w=>us=[]∧¬(f.kind=1∨(f.kind=2∧¬k.lsn<t.lsn))∧SL W (.pt kp (kcells gp dp lp pp k.lsn rv) 86::.ob (Grd gp k.ts)::.ob (LogO lp dp k.g)::.ob (PlanO pp pr)::.ob (DskO dp k.d)::.pt fb (encFt f) 48::.mem H1::.pt xb (encIt x) 46::F) w,?_,?_⟩
 ·have h9:∀{w:World},f.kind=1∨(f.kind=2∧¬k.lsn<t.lsn)→SL W (.ob (DskO dp k.d)::.ob (PlanO pp pr)::.pt kp (kcells gp dp lp pp k.lsn rv) 86::.ob (Grd gp k.ts)::.ob (LogO lp dp k.g)::.mem H1::F) w→∃post,KAns kp gp dp lp pp H (k.commitK t) (.int .i64 9) post∧SL W (app post F) w:=λh hS=>by
   have hS:=SnkO.putN (H:=H1) (reqs:=k.reqs) hS hr Xp
   exact hfin h01 (hcm9 h) hS
  repeat first|refine Gp ?_|refine Gw λw hS=>?_|refine Gb λb w hS=>?_
  refine ze (λh1=>h9 (.inl h1) (SL.into hS Xi)) (λh1=>?_)
  repeat first|refine Gp ?_|refine Gw λw hS=>?_|refine Gb λb w hS=>?_
  refine ze (λh2=>?_) (λh2=>⟨rfl,by omega,SL.into hS Xi⟩)
  repeat first|refine Gp ?_|refine Gw λw hS=>?_|refine Gb λb w hS=>?_
  refine zK (λhl=>h9 (.inr ⟨h2,of_decide_eq_false hl⟩) (SL.into hS Xi)) (λhl=>⟨rfl,λh=>?_,SL.into hS Xi⟩)
  rcases h with h|⟨_,h⟩
  ·exact h1 h
  ·exact h (of_decide_eq_true hl)
 clear hS
 rintro w ⟨-,hnf,hS⟩
 have hcm:=hcme hnf
 clear hcm9 hcme
 repeat first|refine Gp ?_|refine Gw λw hS=>?_|refine Gb λb w hS=>?_
 (apply zd (Qp H1 x t hx1) hS;exact Xp;clear hS)
 rintro r post hqe w hS
 unfold EncIQ at hqe
 rw[bytesItem_ok hmay]at hqe
 obtain⟨bv,rfl,rfl⟩:=hqe
 have hbl:=(bytesItem_len hmay).2
 (try simp only[app]at hS)
 repeat first|refine Gp ?_|refine Gw λw hS=>?_|refine Gb λb w hS=>?_
 generalize hk':({k with plan:=pr}:PSink)=k' at hcm
 have hg':k'.g=k.g∧k'.d=k.d∧k'.ts=k.ts∧k'.lsn=k.lsn∧k'.reqs=k.reqs∧k'.plan=pr:=by rw[← hk'];exact⟨rfl,rfl,rfl,rfl,rfl,rfl⟩
 obtain⟨g1,g2,g3,g4,g5,g6⟩:=hg'
 have hW:(k'.wrK t f).1.ts=k.ts∧(k'.wrK t f).1.lsn=k.lsn∧(k'.wrK t f).1.reqs=k.reqs∧(k'.wrK t f).1.plan=pr:=by
  unfold PSink.wrK
  split
  ·unfold PSink.tearK;exact⟨g3,g4,g5,g6⟩
  ·split
   ·unfold PSink.appK;exact⟨g3,g4,g5,g6⟩
   ·exact⟨g3,g4,g5,g6⟩
 refine⟨λus w=>us=[.int .i64 (k'.wrK t f).2]∧SL W (.ob (SnkO kp gp dp lp pp H1 (k'.wrK t f).1)::.pt fb (encFt f) 48::.mem H1::.pt xb (encIt x) 46::F) w,?_,?_⟩
 ·have hgk:=hk.g.ok
  have hdk:=hk.d
  have hle:=hk.le
  have hop:=hk.ops
  repeat first|refine Gp ?_|refine Gw λw hS=>?_|refine Gb λb w hS=>?_
  refine ze (λh=>absurd rfl h) (λ_=>?_)
  unfold PSink.wrK
  repeat first|refine Gp ?_|refine Gw λw hS=>?_|refine Gb λb w hS=>?_
  refine ze (λh2=>?_) (λh2=>?_)
  ·rw[if_pos h2]
   repeat first|refine Gp ?_|refine Gw λw hS=>?_|refine Gb λb w hS=>?_
   (apply zd (qC (.ob (OwnSl bv 5 1 (bytesItem t).length ((bytesItem t).map u8c))) lp dp k.g k.d bv (bytesItem t) f.keep Rdb.own (by omega) hgk (by omega) hdk (by omega) (by omega)) hS;exact Xp;clear hS)
   (rintro v post ⟨rfl,rfl⟩ w hS;(try simp only[app]at hS);(repeat (first|refine Gp ?_|refine Gw λw hS=>?_|refine Gb λb w hS=>?_)))
   unfold PSink.tearK
   rw[g1,g2]
   have hS:=SnkO.putN (H:=H1) (reqs:=k.reqs) hS hr Xp
   refine⟨rfl,?_⟩
   rw[← hk']
   exact SL.into hS Xi
  ·rw[if_neg h2,g4]
   refine ze (λhl=>?_) (λhl=>?_)
   ·rw[if_pos hl]
    repeat first|refine Gp ?_|refine Gw λw hS=>?_|refine Gb λb w hS=>?_
    (apply zd (Ym (.ob (OwnSl bv 5 1 (bytesItem t).length ((bytesItem t).map u8c))) lp dp k.g k.d bv (bytesItem t) Rdb.own (by omega) hgk (by omega) hdk (by omega) (by omega)) hS;exact Xp;clear hS)
    (rintro v post ⟨rfl,rfl⟩ w hS;(try simp only[app]at hS);(repeat (first|refine Gp ?_|refine Gw λw hS=>?_|refine Gb λb w hS=>?_)))
    unfold PSink.appK
    simp only
    rw[g1,g2]
    have hS:=SnkO.putN (H:=H1) (reqs:=k.reqs) hS hr Xp
    refine⟨rfl,?_⟩
    rw[← hk']
    exact SL.into hS Xi
   ·rw[if_neg hl]
    have hS:=SnkO.putN (H:=H1) (reqs:=k.reqs) hS hr Xp
    refine⟨rfl,?_⟩
    rw[← hk']
    exact SL.into hS Xi
 clear hS
 rintro v11 w ⟨hus,hS⟩
 cases hus
 unfold PSink.endK at hcm
 obtain⟨w1,w2,w3,w4⟩:=hW
 generalize k'.wrK t f=z at *
 obtain⟨z,e⟩:=z
 simp only at *
 repeat first|refine Gp ?_|refine Gw λw hS=>?_|refine Gb λb w hS=>?_
 refine ze (λhe=>?_) (λhe=>?_)
 ·rw[if_pos he]at hcm
  exact hfin h01 hcm (SL.into hS Xi)
 ·rw[if_neg he,g4]at hcm
  have hend:∀{w:World} {z':PSink},k.commitK t=(z',if f.kind≠0 then 9 else 0)→SL W (.ob (SnkO kp gp dp lp pp H1 z')::.pt fb (encFt f) 48::.mem H1::F) w→HIf (.bool (decide (f.kind≠0))) (∃post,KAns kp gp dp lp pp H (k.commitK t) (.int .i64 9) post∧SL W (app post F) w) (∃post,KAns kp gp dp lp pp H (k.commitK t) (.int .i64 0) post∧SL W (app post F) w):=λhc hS=>by
   refine ze (λh0=>?_) (λh0=>?_)
   ·rw[if_pos h0]at hc;exact hfin h01 hc (SL.into hS Xi)
   ·rw[if_neg h0]at hc;exact hfin h01 hc (SL.into hS Xi)
  refine ze (λhl=>?_) (λhl=>?_)
  ·repeat first|refine Gp ?_|refine Gw λw hS=>?_|refine Gb λb w hS=>?_
   refine ze (λh2=>?_) (λh2=>?_)
   ·rw[if_pos ⟨hl,h2⟩]at hcm
    obtain⟨L,hL⟩:∃L,fitsR k.ts.length k.reqs t=some L:=by
     cases hc:fitsR k.ts.length k.reqs t with
     | none=>exact absurd (.inr ⟨hl,hc⟩) hnq
     | some L=>exact⟨L,rfl⟩
    rw[hL,Option.getD_some]at hcm
    have hnn:=hi.ops
    have hmm:=(mayItem_iff.1 hmay).1.2.2.1
    repeat first|refine Gp ?_|refine Gw λw hS=>?_|refine Gb λb w hS=>?_
    (apply zd (YX kp gp dp lp pp H1 z x t L y hx1 (hy L hL) (by omega) hkeys) hS;exact Xp;clear hS)
    (rintro v post ⟨rfl,rfl⟩ w hS;(try simp only[app]at hS);(repeat (first|refine Gp ?_|refine Gw λw hS=>?_|refine Gb λb w hS=>?_)))
    exact hend hcm (SL.into hS Xi)
   ·rw[if_neg (λh=>h2 h.2)]at hcm
    repeat first|refine Gp ?_|refine Gw λw hS=>?_|refine Gb λb w hS=>?_
    exact hend hcm (SL.into hS Xi)
  ·rw[if_neg (λh=>hl h.1)]at hcm
   repeat first|refine Gp ?_|refine Gw λw hS=>?_|refine Gb λb w hS=>?_
   exact hend hcm (SL.into hS Xi)
theorem batches_len{L:List PSeg}(h:SeqG L):headG L-lowG L+1=((entsG L).length:Int):=by
 by_cases hL:L=[]
 ·subst hL;rfl
 ·rw[h.head hL];omega
theorem lowG_in{L:List PSeg}{N:Nat}(h:∀s∈L,SegOk s N):1≤lowG L∧lowG L≤1099511627776:=by
 cases L with
 | nil=>exact⟨Int.le_refl _,by show (1:Int)≤_;decide⟩
 | cons s r=>exact⟨(h s (.head _)).n0,(h s (.head _)).n1⟩
theorem yx(kp gp dp lp pp:Nat)(H:Heap)(k:PSink):SP 25 [ptrO kp] [.ob (SnkO kp gp dp lp pp H k)] (Gives (ptrO pp) [.ob (SnkO kp gp dp lp pp H k)]):=by
 intro W F w hS;apply vc25;unfold Vc25;(try simp only[app]at hS)
 obtain⟨rv,hr,hS⟩:=SnkO.iff.1 hS
 repeat first|refine Gp ?_|refine Gw λw hS=>?_|refine Gb λb w hS=>?_
 exact⟨_,⟨rfl,rfl⟩,SnkO.iff.2 ⟨rv,hr,hS⟩⟩
theorem Z6(kp gp dp lp pp:Nat)(H:Heap)(k:PSink):SP 33 [ptrO kp] [.ob (SnkO kp gp dp lp pp H k)] (Gives (.int .i64 k.lsn) [.ob (SnkO kp gp dp lp pp H k)]):=by
 intro W F w hS;apply vc33;unfold Vc33;(try simp only[app]at hS)
 obtain⟨rv,hr,hS⟩:=SnkO.iff.1 hS
 repeat first|refine Gp ?_|refine Gw λw hS=>?_|refine Gb λb w hS=>?_
 exact⟨_,⟨rfl,rfl⟩,SnkO.iff.2 ⟨rv,hr,hS⟩⟩
theorem yC(kp gp dp lp pp:Nat)(H:Heap)(k:PSink){N:Nat}(hg:GOk k.g N)(hN:N≤1000000000000):SP 32 [ptrO kp] [.ob (SnkO kp gp dp lp pp H k)] (Gives (.int .i64 ((entsG k.g.segs).length:Int)) [.ob (SnkO kp gp dp lp pp H k)]):=by
 intro W F w hS;apply vc32;unfold Vc32;(try simp only[app]at hS)
 obtain⟨rv,hr,hS⟩:=SnkO.iff.1 hS
 have h1:=headG_ge hg.ok.segs
 have h2:=lowG_in hg.ok.segs
 have h3:=batches_len hg.seq
 repeat first|refine Gp ?_|refine Gw λw hS=>?_|refine Gb λb w hS=>?_
 (apply zd (qZ lp dp k.g hg.ok hN) hS;exact Xp;clear hS)
 (rintro v post ⟨rfl,rfl⟩ w hS;(try simp only[app]at hS);(repeat (first|refine Gp ?_|refine Gw λw hS=>?_|refine Gb λb w hS=>?_)))
 (apply zd (Yi lp dp k.g hg.ok hN) hS;exact Xp;clear hS)
 (rintro v post ⟨rfl,rfl⟩ w hS;(try simp only[app]at hS);(repeat (first|refine Gp ?_|refine Gw λw hS=>?_|refine Gb λb w hS=>?_)))
 rw[h3]
 have hS:=SnkO.put k hS hr Xp
 exact⟨_,⟨rfl,rfl⟩,SL.into hS Xi⟩
def PSink.at(k:PSink)(t:Tr):PSink:={k with ts:=t.1,reqs:=t.2.1,lsn:=t.2.2}
theorem mayItem_iok{t:PItem}(h:mayItem t=true):IOk t∧∀o∈t.ops,inI64 o.key:=by
 obtain⟨⟨_,_,h1,h2⟩,h3,h4⟩:=mayItem_iff.1 h
 refine⟨⟨λn hn=>?_,by omega,by omega⟩,λo ho=>?_⟩
 ·have:=h4 n hn
  unfold mayNote at this
  rw[decide_eq_true_eq]at this
  unfold inI64;omega
 ·have:=h3 o ho
  unfold mayOp at this
  rw[decide_eq_true_eq]at this
  unfold inI64;omega
theorem decItem_may{b:List UInt8}{t:PItem}(h:decItem b= .ok t):mayItem t=true:=by
 unfold decItem at h
 split at h
 ·cases h
 ·split at h
  ·rename_i x hx
   cases h
   unfold decI at hx
   simp only at hx
   split at hx
   ·rename_i hc;cases hx;exact hc.2.2
   ·cases hx
  ·cases h
theorem okS_may{ts:List (List Cell)}(h:okS ts){t:PItem}(hm:mayItem t=true):okS (putAll ts t.ops).1:=okS_all h (mayItem_iok hm).2
theorem small_may{ts:List (List Cell)}{m:Nat}(h:small ts (4096*(m+1))){t:PItem}(hm:mayItem t=true):small (putAll ts t.ops).1 (4096*m):=
 small_all (small_mono h (by have:=(mayItem_iff.1 hm).1.2.2.1;omega))
def PSink.redoK(k:PSink):Option Tr:=if lowG k.g.segs≠1∧0<(entsG k.g.segs).length then none else redoT k.ts.length (entsG k.g.segs) k.tr
structure TOkK(t:Tr)(n m:Nat):Prop where
 len:t.1.length=n
 ok:okS t.1
 room:small t.1 (4096*m)
 rq:t.2.1.length≤64
theorem notesR_len{L L':List Rq}:∀{l:List PNote},notesR L l=some L'→L.length≤64→L'.length≤64
 | [],h,hl=>by cases h;exact hl
 | n::l,h,hl=>by
  unfold notesR at h
  cases hn:noteR L n with
  | none=>rw[hn]at h;cases h
  | some L2=>rw[hn]at h;exact notesR_len h (noteR_len hn)
theorem TOkK.step{t t':Tr}{n m:Nat}(h:TOkK t n (m+1)){x:PItem}(hs:stepT n t x=some t'):TOkK t' n m:=by
 unfold stepT at hs
 cases hf:fitsR n t.2.1 x with
 | none=>rw[hf]at hs;cases hs
 | some L=>
  rw[hf]at hs
  simp only at hs
  split at hs
  ·cases hs
   obtain⟨hm,_,hn⟩:=fitsR_may hf
   exact⟨by show (putAll _ _).1.length=n;rw[putAll_len,h.len],okS_may h.ok hm,small_may h.room hm,notesR_len hn h.rq⟩
  ·cases hs
theorem qN(kp gp dp lp pp:Nat)(H:Heap)(k:PSink){N m:Nat}(hg:GOk k.g N)(hN:N≤1000000000000)(ht:TOkK k.tr k.ts.length m)(hm:(entsG k.g.segs).length≤m)(hmm:m≤100000):
  SP 93 [ptrO kp] [.ob (SnkO kp gp dp lp pp H k),.mem H] (λv post=>∃H',H.le H'∧match k.redoK with
   | none=>v= .bool false∧post=[.ob (DskO dp k.d),.mem H']
   | some t=>v= .bool true∧post=[.ob (SnkO kp gp dp lp pp H' (k.at t)),.mem H']):=by
 intro W F w hS;apply vc93;unfold Vc93;(try simp only[app]at hS)
 have h2:=lowG_in hg.ok.segs
 have hF:∀{w:World} {H':Heap} {t:Tr},k.redoK=none→H.le H'→SL W (.ob (SnkO kp gp dp lp pp H' (k.at t))::.mem H'::F) w→∃post,(∃H',H.le H'∧match k.redoK with
   | none=>(.bool false:Value)= .bool false∧post=[.ob (DskO dp k.d),.mem H']
   | some t=>(.bool false:Value)= .bool true∧post=[.ob (SnkO kp gp dp lp pp H' (k.at t)),.mem H'])∧SL W (app post F) w:=λhr hh hS=>by
  rw[hr]
  obtain⟨rv,hrv,hS⟩:=SnkO.iff.1 hS
  exact⟨[.ob (DskO dp k.d),.mem _],⟨_,hh,rfl,rfl⟩,SL.into (show SL W (_::_::_::_::.ob (DskO dp k.d)::_) _ from hS) Xi⟩
 refine⟨λus w=>us=[]∧¬(lowG k.g.segs≠1∧0<(entsG k.g.segs).length)∧SL W (.ob (SnkO kp gp dp lp pp H k)::.mem H::F) w,?_,?_⟩
 ·obtain⟨rv,hr,hS⟩:=SnkO.iff.1 hS
  repeat first|refine Gp ?_|refine Gw λw hS=>?_|refine Gb λb w hS=>?_
  (apply zd (Yi lp dp k.g hg.ok hN) hS;exact Xp;clear hS)
  (rintro v post ⟨rfl,rfl⟩ w hS;(try simp only[app]at hS);(repeat (first|refine Gp ?_|refine Gw λw hS=>?_|refine Gb λb w hS=>?_)))
  have hS:=SnkO.put k hS hr Xp
  refine ze (λh1=>?_) (λh1=>?_)
  ·(apply zd (yC kp gp dp lp pp H k hg hN) hS;exact Xp;clear hS)
   (rintro v post ⟨rfl,rfl⟩ w hS;(try simp only[app]at hS);(repeat (first|refine Gp ?_|refine Gw λw hS=>?_|refine Gb λb w hS=>?_)))
   refine ze (λh3=>?_) (λh3=>?_)
   ·exact hF (t:=k.tr) (by unfold PSink.redoK;rw[if_pos ⟨h1,by omega⟩]) (Heap.le_refl H) hS
   ·exact⟨rfl,λh=>by omega,SL.into hS Xi⟩
  ·exact⟨rfl,λh=>h1 h.1,SL.into hS Xi⟩
 clear hS
 rintro w ⟨-,hlow,hS⟩
 have hK:k.redoK=redoT k.ts.length (entsG k.g.segs) k.tr:=by unfold PSink.redoK;rw[if_neg hlow]
 refine⟨λus w=>∃(i:Nat) (t:Tr) (H2:Heap),us=[.int .i64 ((i+1:Nat):Int)]∧i≤(entsG k.g.segs).length∧k.redoK=redoT k.ts.length ((entsG k.g.segs).drop i) t∧TOkK t k.ts.length (m-i)∧H.le H2∧SL W (.ob (SnkO kp gp dp lp pp H2 (k.at t))::.mem H2::F) w,
  λus _=>match us with|[.int _ i]=>((entsG k.g.segs).length+1-i).toNat|_=>0,⟨0,k.tr,H,rfl,Nat.zero_le _,hK,ht,Heap.le_refl H,hS⟩,?_⟩
 clear hS
 rintro v3 w ⟨i,t,H2,hus,hi,hrd,hT,h02,hS⟩
 cases hus
 (apply zd (yC kp gp dp lp pp H2 (k.at t) hg hN) hS;exact Xp;clear hS)
 rintro _ post ⟨rfl,rfl⟩ w hS
 (try simp only[app]at hS)
 rw[show (entsG (k.at t).g.segs).length=(entsG k.g.segs).length from rfl]
 repeat first|refine Gp ?_|refine Gw λw hS=>?_|refine Gb λb w hS=>?_
 refine ze (λh=>?_) (λh=>?_)
 ·have hil:i<(entsG k.g.segs).length:=by omega
  have hl1:lowG k.g.segs=1:=by
   rcases Int.lt_trichotomy (lowG k.g.segs) 1 with h|h|h
   ·omega
   ·exact h
   ·exact absurd ⟨by omega,by omega⟩ hlow
  have hread:=hg.seq.read i
  rw[hl1,List.getElem?_eq_getElem hil]at hread
  rw[List.drop_eq_getElem_cons hil]at hrd
  generalize hbb:(entsG k.g.segs)[i]=bs at *
  have hrd:k.redoK=match decItem bs with
   | .ok x=>match stepT k.ts.length t x with
    | some t'=>redoT k.ts.length ((entsG k.g.segs).drop (i+1)) t'
    | none=>none
   | .error _=>none:=hrd
  obtain⟨rv,hr,hS⟩:=SnkO.iff.1 hS
  repeat first|refine Gp ?_|refine Gw λw hS=>?_|refine Gb λb w hS=>?_
  (apply zd (qm lp dp (k.at t).g hg.ok hN ((i+1:Nat):Int) (by omega)) hS;exact Xp;clear hS)
  rintro r post hq w hS
  have hq:ReadLQ [.ob (LogO lp dp (k.at t).g)] (readG k.g.segs ((i+1:Nat):Int)) r post:=hq
  rw[show ((i+1:Nat):Int)=1+(i:Int) by omega,hread]at hq
  obtain⟨u,rfl,rfl⟩:=hq
  (try simp only[app]at hS)
  have hS:=SnkO.put (k.at t) hS hr Xp
  repeat first|refine Gp ?_|refine Gw λw hS=>?_|refine Gb λb w hS=>?_
  (apply zd (Yf (.ob (OwnSl u 5 1 bs.length (bs.map u8c))) H2 u bs Rdb.own) hS;exact Xp;clear hS)
  rintro r post hq w hS
  unfold DecIQ at hq
  cases hd:decItem bs with
  | error e=>
   rw[hd]at hq hrd
   obtain⟨hne,H3,h23,rfl,rfl⟩:=hq
   (try simp only[app]at hS)
   have hS:=SnkO.mono h23 (Has.front (c:=.ob (SnkO kp gp dp lp pp H2 (k.at t))) hS Xr)
   repeat first|refine Gp ?_|refine Gw λw hS=>?_|refine Gb λb w hS=>?_
   (apply zd (Zn kp gp dp lp pp H3 (k.at t) ⟨0,.slice none 0 0,.slice none 0 0⟩ ⟨0,[],[]⟩ ⟨rfl,RdSl.nil _ _,RdSl.nil _ _⟩ ⟨by simp,by simp,by simp⟩ hT.rq) hS;exact Xp;clear hS)
   rintro u2 post ⟨H4,h34,hq2,rfl⟩ w hS
   have hu:∃y b,u2= .tuple #[y,.bool b]:=by
    unfold RqQ at hq2
    split at hq2
    ·obtain⟨y,e⟩:=hq2;exact⟨y,_,e⟩
    ·obtain⟨y,e,_⟩:=hq2;exact⟨y,_,e⟩
   obtain⟨y,qb,rfl⟩:=hu
   (try simp only[app]at hS)
   repeat first|refine Gp ?_|refine Gw λw hS=>?_|refine Gb λb w hS=>?_
   refine ze (λ_=>?_) (λh=>absurd hne h)
   exact hF hrd (Heap.le_trans h02 (Heap.le_trans h23 h34)) (SL.into hS Xi)
  | ok x=>
   rw[hd]at hq hrd
   obtain⟨xv,H3,h23,rfl,hx,rfl⟩:=hq
   obtain⟨hio,hkeys⟩:=mayItem_iok (decItem_may hd)
   have hxo:=(mayItem_iff.1 (decItem_may hd)).1.2.2.1
   have hxc:encIt xv=[.int .i64 x.lsn,xv.ov,xv.nv]:=by unfold encIt;rw[hx.lsn]
   (try simp only[app]at hS)
   have hS:=SnkO.mono h23 (Has.front (c:=.ob (SnkO kp gp dp lp pp H2 (k.at t))) hS Xr)
   have h1:=encIt_one hx
   refine Gp ?_
   refine zJ hS λxb w hS=>?_
   refine zP hS Xu rfl rfl h1 λw hS=>?_
   refine zA hS Xh rfl ?_
   (apply zd (Zn kp gp dp lp pp H3 (k.at t) xv x hx hio hT.rq) hS;exact Xp;clear hS)
   rintro u2 post ⟨H4,h34,hq2,rfl⟩ w hS
   have h04:=Heap.le_trans h02 (Heap.le_trans h23 h34)
   have hfit:fitsR (k.at t).ts.length (k.at t).reqs x=fitsR k.ts.length t.2.1 x:=by rw[show (k.at t).ts.length=k.ts.length from hT.len];rfl
   rw[hfit]at hq2
   simp only at hrd
   unfold stepT at hrd
   cases hc:fitsR k.ts.length t.2.1 x with
   | none=>
    rw[hc]at hq2 hrd
    obtain⟨y,rfl⟩:=hq2
    (try simp only[app]at hS)
    repeat first|refine Gp ?_|refine Gw λw hS=>?_|refine Gb λb w hS=>?_
    refine ze (λh=>absurd rfl h) (λ_=>?_)
    repeat first|refine Gp ?_|refine Gw λw hS=>?_|refine Gb λb w hS=>?_
    refine zy ?_
    exact hF hrd h04 (SL.into hS Xi)
   | some L=>
    rw[hc]at hq2 hrd
    obtain⟨y,rfl,hy⟩:=hq2
    (try simp only[app]at hS)
    repeat first|refine Gp ?_|refine Gw λw hS=>?_|refine Gb λb w hS=>?_
    refine ze (λh=>absurd rfl h) (λ_=>?_)
    repeat first|refine Gp ?_|refine Gw λw hS=>?_|refine Gb λb w hS=>?_
    refine zr ?_
    obtain⟨rv2,hr2,hS⟩:=SnkO.open (k:=k.at t) hS Xr
    rw[hxc]at hS
    repeat first|refine Gp ?_|refine Gw λw hS=>?_|refine Gb λb w hS=>?_
    have hS:=SnkO.put (k.at t) hS hr2 Xp
    rw[show (k.at t).lsn=t.2.2 from rfl]
    refine ze (λh5=>?_) (λh5=>?_)
    ·simp only at hrd
     rw[if_neg (by omega)]at hrd
     exact hF hrd h04 (SL.into hS Xi)
    ·simp only at hrd
     rw[if_pos (by omega)]at hrd
     rw[← hxc]at hS
     refine zA hS Xh rfl ?_
     (apply zd (YX kp gp dp lp pp H4 (k.at t) xv x L y (hx.mono h34) hy (by omega) hkeys) hS;exact Xp;clear hS)
     (rintro v post ⟨rfl,rfl⟩ w hS;(try simp only[app]at hS);(repeat (first|refine Gp ?_|refine Gw λw hS=>?_|refine Gb λb w hS=>?_)))
     have hst:stepT k.ts.length t x=some ((putAll t.1 x.ops).1,L,x.lsn):=stepT_of hc (by omega)
     have hT':TOkK ((putAll t.1 x.ops).1,L,x.lsn) k.ts.length (m-(i+1)):=by
      have:m-i=(m-(i+1))+1:=by omega
      rw[this]at hT
      exact hT.step hst
     have hS:SL W (.ob (SnkO kp gp dp lp pp H4 (k.at ((putAll t.1 x.ops).1,L,x.lsn)))::_) _:=hS
     exact⟨⟨i+1,((putAll t.1 x.ops).1,L,x.lsn),H4,rfl,by omega,hrd,hT',h04,SL.into hS Xi⟩,by dsimp only;omega⟩
 ·have hie:i=(entsG k.g.segs).length:=by omega
  subst hie
  rw[List.drop_length]at hrd
  have hrd:k.redoK=some t:=hrd
  rw[hrd]
  exact⟨_,⟨H2,h02,rfl,rfl⟩,SL.into hS Xi⟩
def OpenKQ(dp:Nat)(H:Heap)(y:DS × Except Int PSink)(r:Value)(post:List Chunk):Prop:=match y.2 with
 | .error e=>e≠0∧∃H',H.le H'∧r= .tuple #[.pointer none,.int .i64 e]∧post=[.ob (DskO dp y.1),.mem H']
 | .ok k=>∃(kp gp lp pp:Nat) (H':Heap),H.le H'∧r= .tuple #[ptrO kp,.int .i64 0]∧post=[.ob (SnkO kp gp dp lp pp H' k),.mem H']
theorem small_nil(n m:Nat)(hm:4096*m≤1000000):small (List.replicate n []) (4096*m):=λC hC=>by
 rw[List.eq_of_mem_replicate hC];simpa using hm
theorem okS_nil(n:Nat):okS (List.replicate n []):=λC hC=>by
 rw[List.eq_of_mem_replicate hC];exact⟨.nil,by simp⟩
theorem qE(H:Heap)(dp:Nat)(d:DS)(tabs size:Int){N:Nat}(hok:d.Ok N)(hN:N≤100000000)(hops:d.ops≤90000)(hn:∀d' g,openG d 8192 size=(d',.ok g)→(entsG g.segs).length≤200):
  SP 23 [ptrO dp,.int .i64 tabs,.int .i64 size] [.ob (DskO dp d),.mem H] (OpenKQ dp H (openK d tabs size)):=by
 intro W F w hS;apply vc23;unfold Vc23;(try simp only[app]at hS)
 have hR:=hok.rlen
 by_cases ht:tabs<1∨8<tabs
 ·have e:openK d tabs size=(d,.error 1):=by unfold openK;rw[if_pos ht]
  rw[e]
  (apply zd (gnewG_bad tabs ht) hS;exact Xp;clear hS)
  (rintro v post ⟨rfl,rfl⟩ w hS;(try simp only[app]at hS);(repeat (first|refine Gp ?_|refine Gw λw hS=>?_|refine Gb λb w hS=>?_)))
  refine ze (λ_=>?_) (λh=>absurd (by decide) h)
  exact⟨_,⟨by decide,H,Heap.le_refl H,rfl,rfl⟩,SL.into hS Xi⟩
 obtain⟨n,rfl⟩:∃n:Nat,tabs=n:=⟨tabs.toNat,by omega⟩
 (apply zd (gnewG_ok n (by omega) (by omega)) hS;exact Xp;clear hS)
 rintro _ post ⟨gp,rfl,rfl⟩ w hS
 (try simp only[app]at hS)
 repeat first|refine Gp ?_|refine Gw λw hS=>?_|refine Gb λb w hS=>?_
 refine ze (λh=>absurd rfl h) (λ_=>?_)
 repeat first|refine Gp ?_|refine Gw λw hS=>?_|refine Gb λb w hS=>?_
 (apply zd (ql dp d 8192 size hok (by omega) (by omega) (by omega)) hS;exact Xp;clear hS)
 rintro r post hq w hS
 unfold openK
 rw[if_neg ht]
 unfold OpenQ at hq
 cases hog:openG d 8192 size with
 | mk d' o=>
  rw[hog]at hq
  cases o with
  | error e=>
   obtain⟨he,rfl,rfl⟩:=hq
   (try simp only[app]at hS)
   repeat first|refine Gp ?_|refine Gw λw hS=>?_|refine Gb λb w hS=>?_
   refine ze (λ_=>?_) (λh=>absurd he h)
   exact⟨_,⟨he,H,Heap.le_refl H,rfl,rfl⟩,SL.into hS Xi⟩
  | ok g=>
   obtain⟨lp,rfl,rfl⟩:=hq
   (try simp only[app]at hS)
   repeat first|refine Gp ?_|refine Gw λw hS=>?_|refine Gb λb w hS=>?_
   refine ze (λh=>absurd rfl h) (λ_=>?_)
   repeat first|refine Gp ?_|refine Gw λw hS=>?_|refine Gb λb w hS=>?_
   (apply zd (Qz) hS;exact Xp;clear hS)
   rintro _ post ⟨pp,rfl,rfl⟩ w hS
   (try simp only[app]at hS)
   repeat first|refine Gp ?_|refine Gw λw hS=>?_|refine Gb λb w hS=>?_
   refine zB hS λkp w hS=>?_
   have hgk:=openG_GOk hok (by omega) hog
   have hS:SL W (.ob (SnkO kp gp dp lp pp H ⟨g,d',List.replicate n [],[],0,[]⟩)::_) _:=SnkO.putN (rv:=.slice none 0 0) hS (RdSl.nil H 7) Xp
   have hln:(List.replicate n ([]:List Cell)).length=n:=List.length_replicate
   (apply zd (qN kp gp dp lp pp H ⟨g,d',List.replicate n [],[],0,[]⟩ hgk (by omega) ⟨rfl,okS_nil n,small_nil n 200 (by decide),by simp[PSink.tr]⟩ (hn d' g hog) (by omega)) hS;exact Xp;clear hS)
   rintro v post ⟨H1,h01,hm⟩ w hS
   have hbl:=batches_len hgk.seq
   have e:(PSink.mk g d' (List.replicate n []) [] 0 []).redoK=if lowG g.segs≠1∧lowG g.segs≤headG g.segs then none else redoT (Int.toNat (n:Int)) (entsG g.segs) (t00 (Int.toNat (n:Int))):=by
    unfold PSink.redoK
    simp only[hln]
    rw[Int.toNat_natCast]
    by_cases hc:lowG g.segs≠1∧lowG g.segs≤headG g.segs
    ·rw[if_pos hc,if_pos ⟨hc.1,by omega⟩]
    ·rw[if_neg hc,if_neg (λh=>hc ⟨h.1,by omega⟩)];rfl
   rw[e]at hm
   simp only
   by_cases hc:lowG g.segs≠1∧lowG g.segs≤headG g.segs
   ·rw[if_pos hc]at hm ⊢
    obtain⟨rfl,rfl⟩:=hm
    (try simp only[app]at hS)
    repeat first|refine Gp ?_|refine Gw λw hS=>?_|refine Gb λb w hS=>?_
    refine zy ?_
    exact⟨_,⟨by decide,H1,h01,rfl,rfl⟩,SL.into hS Xi⟩
   ·rw[if_neg hc]at hm ⊢
    cases hrt:redoT (Int.toNat (n:Int)) (entsG g.segs) (t00 (Int.toNat (n:Int))) with
    | none=>
     rw[hrt]at hm
     obtain⟨rfl,rfl⟩:=hm
     (try simp only[app]at hS)
     repeat first|refine Gp ?_|refine Gw λw hS=>?_|refine Gb λb w hS=>?_
     refine zy ?_
     exact⟨_,⟨by decide,H1,h01,rfl,rfl⟩,SL.into hS Xi⟩
    | some t=>
     rw[hrt]at hm
     obtain⟨rfl,rfl⟩:=hm
     (try simp only[app]at hS)
     repeat first|refine Gp ?_|refine Gw λw hS=>?_|refine Gb λb w hS=>?_
     refine zr ?_
     have hS:SL W (.ob (SnkO kp gp dp lp pp H1 ⟨g,d',t.1,[],t.2.2,t.2.1⟩)::_) _:=hS
     exact⟨_,⟨kp,gp,lp,pp,H1,h01,rfl,rfl⟩,SL.into hS Xi⟩
def RRdX(rp:Nat)(v:Value)(L:List PFd)(k:Nat)(bad:Bool):List Chunk:=[.pt rp [v,.int .i64 k,.bool bad] 275,FdO v L]
def RRdO(rp:Nat)(r:PRd):zG:=HEx λx:Value × List PFd × Nat=>zT (x.2.2≤x.2.1.length∧x.2.1.length≤32767∧r.l=x.2.1.drop x.2.2) (RRdX rp x.1 x.2.1 x.2.2 r.bad)
theorem RRdO.iff{W w:World}{rp:Nat}{r:PRd}{l:List Chunk}:SL W (.ob (RRdO rp r)::l) w↔∃(v:Value) (L:List PFd) (k:Nat),(k≤L.length∧L.length≤32767∧r.l=L.drop k)∧SL W (.pt rp [v,.int .i64 k,.bool r.bad] 275::FdO v L::l) w:=by
 unfold RRdO RRdX
 simp only[SL.ex,SL.fact,List.cons_append,List.nil_append]
 exact⟨λ⟨x,h1,h2⟩=>⟨x.1,x.2.1,x.2.2,h1,h2⟩,λ⟨a,b,c,h1,h2⟩=>⟨(a,b,c),h1,h2⟩⟩
theorem drop_nil{α:Type}{L:List α}{k:Nat}(h:k≤L.length):L.drop k=[]↔k=L.length:=by
 rw[List.drop_eq_nil_iff];omega
theorem zO(rp:Nat)(r:PRd)(m:Int):SP 173 [.pointer (some ⟨rp,0,none⟩),.int .i64 m] [.ob (RRdO rp r)] (Gives (.int .i64 (intR m r).1) [.ob (RRdO rp (intR m r).2)]):=by
 obtain⟨l,bad⟩:=r
 intro W F w hS;apply vc173;unfold Vc173;(try simp only[app]at hS)
 obtain⟨v,L,k,⟨hk,hL,hl⟩,hS⟩:=RRdO.iff.1 hS
 have hl:l=L.drop k:=hl
 subst hl
 simp only at hS
 have hbad:∀{w:World},intR m ⟨L.drop k,bad⟩=(0,⟨L.drop k,true⟩)→SL W (.pt rp [v,.int .i64 k,.bool true] 275::FdO v L::F) w→∃post,Gives (.int .i64 (intR m ⟨L.drop k,bad⟩).1) [.ob (RRdO rp (intR m ⟨L.drop k,bad⟩).2)] (.int .i64 0) post∧SL W (app post F) w:=λe hS=>by
  rw[e];exact⟨_,⟨rfl,rfl⟩,RRdO.iff.2 ⟨v,L,k,⟨hk,hL,rfl⟩,hS⟩⟩
 repeat first|refine Gp ?_|refine Gw λw hS=>?_|refine Gb λb w hS=>?_
 cases bad with
 | true=>
  refine zy ?_
  repeat first|refine Gp ?_|refine Gw λw hS=>?_|refine Gb λb w hS=>?_
  exact hbad rfl hS
 | false=>
  refine zr ?_
  repeat first|refine Gp ?_|refine Gw λw hS=>?_|refine Gb λb w hS=>?_
  refine zE hS (v:=v) Xh ?_
  repeat first|refine Gp ?_|refine Gw λw hS=>?_|refine Gb λb w hS=>?_
  refine ze (λh=>?_) (λh=>?_)
  ·repeat first|refine Gp ?_|refine Gw λw hS=>?_|refine Gb λb w hS=>?_
   exact hbad (by rw[List.drop_eq_nil_of_le (by omega)];rfl) hS
  ·have hkl:k<L.length:=by omega
   have hx:L[k]?=some L[k]:=List.getElem?_eq_getElem hkl
   have hc:L.drop k=L[k]::L.drop (k+1):=List.drop_eq_getElem_cons hkl
   have hI:∀bad,intR m ⟨L.drop k,bad⟩=match bad with|true=>(0,⟨L.drop k,true⟩)|false=>if L[k].kind=1∧0≤L[k].n∧L[k].n≤m then (L[k].n,⟨L.drop (k+1),false⟩) else (0,⟨L.drop k,true⟩):=λbad=>by
    cases bad with
    | true=>rfl
    | false=>rw[hc];exact intR_cons m _ _
   have hI:=hI false
   simp only at hI
   repeat first|refine Gp ?_|refine Gw λw hS=>?_|refine Gb λb w hS=>?_
   refine zQ (i:=0) hS (v:=v) Xh fd_len hx hkl rfl ?_
   repeat first|refine Gp ?_|refine Gw λw hS=>?_|refine Gb λb w hS=>?_
   refine ze (λh1=>?_) (λh1=>?_)
   ·repeat first|refine Gp ?_|refine Gw λw hS=>?_|refine Gb λb w hS=>?_
    exact hbad (by rw[hI,if_neg λh=>h1 h.1]) hS
   repeat first|refine Gp ?_|refine Gw λw hS=>?_|refine Gb λb w hS=>?_
   refine zQ (i:=1) hS (v:=v) Xh fd_len hx hkl rfl ?_
   repeat first|refine Gp ?_|refine Gw λw hS=>?_|refine Gb λb w hS=>?_
   refine ze (λh2=>?_) (λh2=>?_)
   ·repeat first|refine Gp ?_|refine Gw λw hS=>?_|refine Gb λb w hS=>?_
    exact hbad (by rw[hI,if_neg λh=>by omega]) hS
   repeat first|refine Gp ?_|refine Gw λw hS=>?_|refine Gb λb w hS=>?_
   refine zQ (i:=1) hS (v:=v) Xh fd_len hx hkl rfl ?_
   repeat first|refine Gp ?_|refine Gw λw hS=>?_|refine Gb λb w hS=>?_
   refine ze (λh3=>?_) (λh3=>?_)
   ·repeat first|refine Gp ?_|refine Gw λw hS=>?_|refine Gb λb w hS=>?_
    exact hbad (by rw[hI,if_neg λh=>by omega]) hS
   repeat first|refine Gp ?_|refine Gw λw hS=>?_|refine Gb λb w hS=>?_
   rw[show ((k+1:Nat):Int)-1=(k:Int) by omega]
   refine zQ (i:=1) hS (v:=v) Xh fd_len hx hkl rfl ?_
   rw[hI,if_pos ⟨Classical.not_not.1 h1,by omega,by omega⟩]
   exact⟨_,⟨rfl,rfl⟩,RRdO.iff.2 ⟨v,L,k+1,⟨hkl,hL,rfl⟩,SL.into hS Xi⟩⟩
theorem Zx(rp:Nat)(r:PRd):SP 175 [.pointer (some ⟨rp,0,none⟩)] [.ob (RRdO rp r)] (Gives (.bool (flagR r).1) [.ob (RRdO rp (flagR r).2)]):=by
 intro W F w hS;apply vc175;unfold Vc175;(try simp only[app]at hS)
 (apply zd (zO rp r 1) hS;exact Xp;clear hS)
 (rintro v post ⟨rfl,rfl⟩ w hS;(try simp only[app]at hS);(repeat (first|refine Gp ?_|refine Gw λw hS=>?_|refine Gb λb w hS=>?_)))
 exact⟨_,⟨rfl,rfl⟩,hS⟩
theorem YR(rp:Nat)(r:PRd):SP 223 [.pointer (some ⟨rp,0,none⟩)] [.ob (RRdO rp r)] (Gives (.string (textP r).1) [.ob (RRdO rp (textP r).2)]):=by
 obtain⟨l,bad⟩:=r
 intro W F w hS;apply vc223;unfold Vc223;(try simp only[app]at hS)
 obtain⟨v,L,k,⟨hk,hL,hl⟩,hS⟩:=RRdO.iff.1 hS
 have hl:l=L.drop k:=hl
 subst hl
 simp only at hS
 have hbad:∀{w:World},nextP 2 ⟨L.drop k,bad⟩=(fd0,⟨L.drop k,true⟩)→SL W (.pt rp [v,.int .i64 k,.bool true] 275::FdO v L::F) w→∃post,Gives (.string (textP ⟨L.drop k,bad⟩).1) [.ob (RRdO rp (textP ⟨L.drop k,bad⟩).2)] (.string ⟨#[]⟩) post∧SL W (app post F) w:=λe hS=>by
  unfold textP
  rw[e];exact⟨_,⟨rfl,rfl⟩,RRdO.iff.2 ⟨v,L,k,⟨hk,hL,rfl⟩,hS⟩⟩
 repeat first|refine Gp ?_|refine Gw λw hS=>?_|refine Gb λb w hS=>?_
 cases bad with
 | true=>
  refine zy ?_
  repeat first|refine Gp ?_|refine Gw λw hS=>?_|refine Gb λb w hS=>?_
  exact hbad rfl hS
 | false=>
  refine zr ?_
  repeat first|refine Gp ?_|refine Gw λw hS=>?_|refine Gb λb w hS=>?_
  refine zE hS (v:=v) Xh ?_
  repeat first|refine Gp ?_|refine Gw λw hS=>?_|refine Gb λb w hS=>?_
  refine ze (λh=>?_) (λh=>?_)
  ·repeat first|refine Gp ?_|refine Gw λw hS=>?_|refine Gb λb w hS=>?_
   exact hbad (by rw[List.drop_eq_nil_of_le (by omega)];rfl) hS
  ·have hkl:k<L.length:=by omega
   have hx:L[k]?=some L[k]:=List.getElem?_eq_getElem hkl
   have hc:L.drop k=L[k]::L.drop (k+1):=List.drop_eq_getElem_cons hkl
   have hI:nextP 2 ⟨L.drop k,false⟩=if L[k].kind=2 then (L[k],⟨L.drop (k+1),false⟩) else (fd0,⟨L.drop k,true⟩):=by rw[hc];rfl
   repeat first|refine Gp ?_|refine Gw λw hS=>?_|refine Gb λb w hS=>?_
   refine zQ (i:=0) hS (v:=v) Xh fd_len hx hkl rfl ?_
   repeat first|refine Gp ?_|refine Gw λw hS=>?_|refine Gb λb w hS=>?_
   refine ze (λh1=>?_) (λh1=>?_)
   ·repeat first|refine Gp ?_|refine Gw λw hS=>?_|refine Gb λb w hS=>?_
    exact hbad (by rw[hI,if_neg λh=>h1 h]) hS
   repeat first|refine Gp ?_|refine Gw λw hS=>?_|refine Gb λb w hS=>?_
   rw[show ((k+1:Nat):Int)-1=(k:Int) by omega]
   refine zQ (i:=2) hS (v:=v) Xh fd_len hx hkl rfl ?_
   unfold textP
   rw[hI,if_pos (Classical.not_not.1 h1)]
   exact⟨_,⟨rfl,rfl⟩,RRdO.iff.2 ⟨v,L,k+1,⟨hkl,hL,rfl⟩,SL.into hS Xi⟩⟩
theorem Qx(rp:Nat)(r:PRd):SP 176 [.pointer (some ⟨rp,0,none⟩)] [.ob (RRdO rp r)] (Gives (.bool (decide (r.bad=false∧r.l=[]))) [.ob (RRdO rp r)]):=by
 obtain⟨l,bad⟩:=r
 intro W F w hS;apply vc176;unfold Vc176;(try simp only[app]at hS)
 obtain⟨v,L,k,⟨hk,hL,hl⟩,hS⟩:=RRdO.iff.1 hS
 simp only at hl
 repeat first|refine Gp ?_|refine Gw λw hS=>?_|refine Gb λb w hS=>?_
 cases bad with
 | true=>
  refine zr ?_
  rw[decide_eq_false (by simp)]
  exact⟨_,⟨rfl,rfl⟩,RRdO.iff.2 ⟨v,L,k,⟨hk,hL,hl⟩,SL.into hS Xi⟩⟩
 | false=>
  refine zy ?_
  repeat first|refine Gp ?_|refine Gw λw hS=>?_|refine Gb λb w hS=>?_
  refine zE hS (v:=v) Xh ?_
  repeat first|refine Gp ?_|refine Gw λw hS=>?_|refine Gb λb w hS=>?_
  have e:decide ((k:Int)=(L.length:Int))=decide ((PRd.mk l false).bad=false∧(PRd.mk l false).l=[]):=by
   rw[decide_eq_decide]
   simp only[true_and]
   rw[hl,drop_nil hk];omega
  rw[e]
  exact⟨_,⟨rfl,rfl⟩,RRdO.iff.2 ⟨v,L,k,⟨hk,hL,hl⟩,SL.into hS Xi⟩⟩
def chR(r:PRd):Chg × PRd:=
 let b:=intR 7 r;let c:=intR 1099511627776 b.2;let d:=flagR c.2;let e:=textP d.2
 (⟨b.1,c.1,d.1,e.1⟩,e.2)
theorem opR_ch(r:PRd):opR r=(⟨(intR 1099511627776 r).1,(chR (intR 1099511627776 r).2).1.table,(chR (intR 1099511627776 r).2).1.key,(chR (intR 1099511627776 r).2).1.gone,(chR (intR 1099511627776 r).2).1.val⟩,(chR (intR 1099511627776 r).2).2):=rfl
theorem Qs(rp:Nat)(r:PRd):SP 174 [.pointer (some ⟨rp,0,none⟩)] [.ob (RRdO rp r)] (Gives (agg (encChg (chR r).1)) [.ob (RRdO rp (chR r).2)]):=by
 intro W F w hS;apply vc174;unfold Vc174;(try simp only[app]at hS)
 repeat first|refine Gp ?_|refine Gw λw hS=>?_|refine Gb λb w hS=>?_
 (apply zd (zO rp r 7) hS;exact Xp;clear hS)
 (rintro v post ⟨rfl,rfl⟩ w hS;(try simp only[app]at hS);(repeat (first|refine Gp ?_|refine Gw λw hS=>?_|refine Gb λb w hS=>?_)))
 (apply zd (zO rp _ 1099511627776) hS;exact Xp;clear hS)
 (rintro v post ⟨rfl,rfl⟩ w hS;(try simp only[app]at hS);(repeat (first|refine Gp ?_|refine Gw λw hS=>?_|refine Gb λb w hS=>?_)))
 (apply zd (Zx rp _) hS;exact Xp;clear hS)
 (rintro v post ⟨rfl,rfl⟩ w hS;(try simp only[app]at hS);(repeat (first|refine Gp ?_|refine Gw λw hS=>?_|refine Gb λb w hS=>?_)))
 (apply zd (YR rp _) hS;exact Xp;clear hS)
 (rintro v post ⟨rfl,rfl⟩ w hS;(try simp only[app]at hS);(repeat (first|refine Gp ?_|refine Gw λw hS=>?_|refine Gb λb w hS=>?_)))
 simp only[chR]
 exact⟨_,⟨rfl,rfl⟩,SL.into hS Xi⟩
structure ItRR(l:List PFd)(lsn:Int)(r1:PRd):Prop where
 lsn:(itemR ⟨l,false⟩).1.lsn=lsn
 ops:(itemR ⟨l,false⟩).1.ops=(manyP opR (intR 4096 r1).1.toNat (intR 4096 r1).2).1
 nts:∀r2,(manyP opR (intR 4096 r1).1.toNat (intR 4096 r1).2).2=r2→(itemR ⟨l,false⟩).1.notes=(manyP noteRd (intR 256 r2).1.toNat (intR 256 r2).2).1∧(itemR ⟨l,false⟩).2=(manyP noteRd (intR 256 r2).1.toNat (intR 256 r2).2).2
theorem ItRR.is(l:List PFd):ItRR l (intR 1099511627776 ⟨l,false⟩).1 (intR 1099511627776 ⟨l,false⟩).2:=⟨rfl,rfl,λr2 h=>by subst h;exact⟨rfl,rfl⟩⟩
theorem decItemR_no{b:List UInt8}{l:List PFd}(h:decF b= .ok l)(h2:¬((itemR ⟨l,false⟩).2.bad=false∧(itemR ⟨l,false⟩).2.l=[]∧mayItem (itemR ⟨l,false⟩).1=true)):decItem b= .error 3:=by
 unfold decItem;rw[h];simp only;rw[← decR_eq];unfold decRI;simp only;rw[if_neg h2]
theorem decItemR_is{b:List UInt8}{l:List PFd}(h:decF b= .ok l)(h2:(itemR ⟨l,false⟩).2.bad=false∧(itemR ⟨l,false⟩).2.l=[]∧mayItem (itemR ⟨l,false⟩).1=true):decItem b= .ok (itemR ⟨l,false⟩).1:=by
 unfold decItem;rw[h];simp only;rw[← decR_eq];unfold decRI;simp only;rw[if_pos h2]
theorem RRdO.badAt{W w:World}{rp:Nat}{r:PRd}{l:List Chunk}(h:SL W (.ob (RRdO rp r)::l) w){K:Value→Prop}(hK:K (.bool r.bad)):HLd (.pointer (some ⟨rp,2,none⟩)) w K:=by
 obtain⟨v,L,k,_,hS⟩:=RRdO.iff.1 h
 exact zS hS .hd rfl hK
theorem Yg(X:Chunk)(H:Heap)(v:Value)(bs:List UInt8)(hv:Rdb X v bs)(hN:bs.length≤140737488355328):SP 96 [v] [X,.mem H] (DecIQ X H bs):=by
 intro W F w hS;apply vc96;unfold Vc96;(try simp only[app]at hS)
 refine Gb λzb w hS=>?_
 (apply zd (Za X v bs hv hN) hS;exact Xp;clear hS)
 rintro r post hq w hS
 unfold DecQ at hq
 cases hd:decF bs with
 | error e=>
  rw[hd]at hq
  obtain⟨rfl,rfl⟩:=hq
  have he:=decF_er hd
  (try simp only[app]at hS)
  repeat first|refine Gp ?_|refine Gw λw hS=>?_|refine Gb λb w hS=>?_
  refine ze (λ_=>?_) (λh=>absurd he h)
  repeat first|refine Gp ?_|refine Gw λw hS=>?_|refine Gb λb w hS=>?_
  exact⟨[X,.mem H],by unfold DecIQ;rw[decItem_er hd];exact⟨he,H,Heap.le_refl H,rfl,rfl⟩,SL.into hS Xi⟩
 | ok l=>
  rw[hd]at hq
  obtain⟨lv,rfl,rfl⟩:=hq
  (try simp only[app]at hS)
  refine Gp ?_
  refine ze (λh=>absurd rfl h) (λ_=>?_)
  obtain⟨la,lc,rfl,_⟩:=OwnSl.at hS (v:=lv) .hd
  refine Gp ?_
  refine zB hS λrp w hS=>?_
  have hS:=(RRdO.iff (r:=⟨l,false⟩)).2 ⟨_,l,0,⟨Nat.zero_le _,decF_len hd,rfl⟩,hS⟩
  (apply zd (zO rp ⟨l,false⟩ 1099511627776) hS;exact Xp;clear hS)
  rintro v1 post ⟨rfl,rfl⟩ w hS
  (try simp only[app]at hS)
  have hI:=ItRR.is l
  generalize (intR 1099511627776 ⟨l,false⟩).1=lsn at *
  generalize (intR 1099511627776 ⟨l,false⟩).2=r1 at *
  refine Gp ?_
  refine Gb λxb w hS=>?_
  have hn1:=intR_in (m:=4096) (by decide) r1
  (apply zd (zO rp r1 4096) hS;exact Xp;clear hS)
  rintro v1 post ⟨rfl,rfl⟩ w hS
  (try simp only[app]at hS)
  have hS:SL W (OpO (.slice none 0 0) []::_) _:=OwnSl.nil hS
  have hS:SL W (NtO (.slice none 0 0) []::_) _:=OwnSl.nil hS
  refine⟨λus w=>us=[]∧∃ov,SL W (OpO ov (manyP opR (intR 4096 r1).1.toNat (intR 4096 r1).2).1::.ob (RRdO rp (manyP opR (intR 4096 r1).1.toNat (intR 4096 r1).2).2)::NtO (.slice none 0 0) []::.pt xb [.int .i64 lsn,ov,.slice none 0 0] 46::.pt zb [.int .i64 0,.slice none 0 0,.slice none 0 0] 46::X::.mem H::F) w,?_,?_⟩
  ·generalize (intR 4096 r1).1=n1 at *
   generalize (intR 4096 r1).2=r2 at *
   refine⟨λus w=>∃(i k:Nat) (ops:List AOp) (r:PRd) (ov:Value),us=[.int .i64 i]∧n1=((i+k:Nat):Int)∧ManyAt opR n1.toNat r2 ops k r∧SL W (OpO ov ops::.ob (RRdO rp r)::NtO (.slice none 0 0) []::.pt xb [.int .i64 lsn,ov,.slice none 0 0] 46::.pt zb [.int .i64 0,.slice none 0 0,.slice none 0 0] 46::X::.mem H::F) w,
    λus _=>match us with|[.int _ i]=>(n1-i).toNat|_=>0,⟨0,n1.toNat,[],r2,.slice none 0 0,rfl,by omega,ManyAt.start _ _ _,SL.into hS Xi⟩,?_⟩
   clear hS
   rintro v8 w ⟨i,k,ops,r,ov,hus,hn,hM,hS⟩
   cases hus
   have hle:=hM.le
   repeat first|refine Gp ?_|refine Gw λw hS=>?_|refine Gb λb w hS=>?_
   refine ze (λh=>?_) (λh=>?_)
   ·repeat first|refine Gp ?_|refine Gw λw hS=>?_|refine Gb λb w hS=>?_
    refine RRdO.badAt (r:=r) (Has.front hS Xr) ?_
    repeat first|refine Gp ?_|refine Gw λw hS=>?_|refine Gb λb w hS=>?_
    refine zK (λhb=>?_) (λhb=>?_)
    ·obtain⟨k,rfl⟩:∃j,k=j+1:=⟨k-1,by omega⟩
     have hM:=hM.step hb
     rw[opR_ch]at hM
     (apply zd (zO rp r 1099511627776) hS;exact Xp;clear hS)
     (rintro v post ⟨rfl,rfl⟩ w hS;(try simp only[app]at hS);(repeat (first|refine Gp ?_|refine Gw λw hS=>?_|refine Gb λb w hS=>?_)))
     (apply zd (Qs rp _) hS;exact Xp;clear hS)
     (rintro v post ⟨rfl,rfl⟩ w hS;(try simp only[app]at hS);(repeat (first|refine Gp ?_|refine Gw λw hS=>?_|refine Gb λb w hS=>?_)))
     generalize chR (intR 1099511627776 r).2=c at *
     generalize (intR 1099511627776 r).1=ol at *
     refine yD (n:=ops.length) (xs:=ops) (y:=⟨ol,c.1.table,c.1.key,c.1.gone,c.1.val⟩) (enc:=encOp) hS Xr Xh encOp_len' (λx=>encOp_one x) rfl (by omega) (by omega) λu w hS=>?_
     have h1:=OwnSl.one hS
     repeat first|refine Gp ?_|refine Gw λw hS=>?_|refine Gb λb w hS=>?_
     refine⟨⟨i+1,k,_,_,u,rfl,by omega,hM,?_⟩,by dsimp only;omega⟩
     have hS:=hS.snocL (x:=⟨ol,c.1.table,c.1.key,c.1.gone,c.1.val⟩)
     exact SL.into hS Xi
    ·refine⟨rfl,ov,?_⟩
     rw[hM.stop (.inr hb)];exact SL.into hS Xi
   ·refine⟨rfl,ov,?_⟩
    rw[hM.stop (.inl (by omega))];exact SL.into hS Xi
  ·clear hS
   rintro w ⟨_,ov,hS⟩
   have hops:=hI.ops
   obtain⟨hnts,hrd⟩:=hI.nts _ rfl
   generalize (manyP opR (intR 4096 r1).1.toNat (intR 4096 r1).2).1=ops at *
   generalize (manyP opR (intR 4096 r1).1.toNat (intR 4096 r1).2).2=r3 at *
   have hn2:=intR_in (m:=256) (by decide) r3
   (apply zd (zO rp r3 256) hS;exact Xp;clear hS)
   rintro v1 post ⟨rfl,rfl⟩ w hS
   (try simp only[app]at hS)
   generalize (intR 256 r3).1=n1 at *
   generalize (intR 256 r3).2=r2 at *
   have hlsn:=hI.lsn
   generalize ht:(itemR ⟨l,false⟩).1=t at *
   generalize hr:(itemR ⟨l,false⟩).2=r at *
   refine⟨λus w=>∃(i k:Nat) (nts:List PNote) (r:PRd) (nv:Value),us=[.int .i64 i]∧n1=((i+k:Nat):Int)∧ManyAt noteRd n1.toNat r2 nts k r∧SL W (NtO nv nts::.ob (RRdO rp r)::OpO ov ops::.pt xb [.int .i64 lsn,ov,nv] 46::.pt zb [.int .i64 0,.slice none 0 0,.slice none 0 0] 46::X::.mem H::F) w,
    λus _=>match us with|[.int _ i]=>(n1-i).toNat|_=>0,⟨0,n1.toNat,[],r2,.slice none 0 0,rfl,by omega,ManyAt.start _ _ _,SL.into hS Xi⟩,?_⟩
   clear hS
   rintro v8 w ⟨i,k,nts,r',nv,hus,hn,hM,hS⟩
   cases hus
   have hle:=hM.le
   have hend:∀{w:World},(k=0∨r'.bad=true)→SL W (NtO nv nts::.ob (RRdO rp r')::OpO ov ops::.pt xb [.int .i64 lsn,ov,nv] 46::.pt zb [.int .i64 0,.slice none 0 0,.slice none 0 0] 46::X::.mem H::F) w →
     HCl 176 [.pointer (some ⟨rp,0,none⟩)] w λv108 w_45=>zx v108 λv109=>HIf v109
      (zp [.int .i64 0,.slice none 0 0,.slice none 0 0] [] λv115=>zn 3 (.pointer (some ⟨zb,0,none⟩)) v115 w_45 λw_46=>zi 3 (.pointer (some ⟨zb,0,none⟩)) w_46 λr_1=>∃post,DecIQ X H bs (.tuple #[r_1,.int .i64 3]) post∧SL W (app post F) w_46)
      (zi 3 (.pointer (some ⟨xb,0,none⟩)) w_45 λv111=>HCl 42 [v111] w_45 λv112 w_47=>zx v112 λv113=>HIf v113
       (zp [.int .i64 0,.slice none 0 0,.slice none 0 0] [] λv115=>zn 3 (.pointer (some ⟨zb,0,none⟩)) v115 w_47 λw_46=>zi 3 (.pointer (some ⟨zb,0,none⟩)) w_46 λr_1=>∃post,DecIQ X H bs (.tuple #[r_1,.int .i64 3]) post∧SL W (app post F) w_46)
       (zi 3 (.pointer (some ⟨xb,0,none⟩)) w_47 λv116=>zn 3 (.pointer (some ⟨zb,0,none⟩)) v116 w_47 λw_49=>zi 3 (.pointer (some ⟨zb,0,none⟩)) w_49 λr_3=>∃post,DecIQ X H bs (.tuple #[r_3,.int .i64 0]) post∧SL W (app post F) w_49)):=by
    intro w hk hS
    rw[hM.stop hk]at hnts hrd
    have hrd:r=r':=hrd
    have hntq:t.notes=nts:=hnts
    subst hrd
    rw[← hntq,← hops]at hS
    obtain⟨H1,h01,hO,hS⟩:=OwnSl.freeze (SL.into hS (t:=.mem H::OpO ov t.ops::NtO nv t.notes::.ob (RRdO rp r)::.pt xb [.int .i64 lsn,ov,nv] 46::.pt zb [.int .i64 0,.slice none 0 0,.slice none 0 0] 46::X::F) Xi)
    obtain⟨H2,h12,hN2,hS⟩:=OwnSl.freeze hS
    have hx:ItIs H2 ⟨lsn,ov,nv⟩ t:=⟨hlsn.symm,hO.mono h12,hN2⟩
    have h02:=Heap.le_trans h01 h12
    (apply zd (Qx rp r) hS;exact Xp;clear hS)
    (rintro v post ⟨rfl,rfl⟩ w hS;(try simp only[app]at hS);(repeat (first|refine Gp ?_|refine Gw λw hS=>?_|refine Gb λb w hS=>?_)))
    have hno:¬(r.bad=false∧r.l=[]∧mayItem t=true)→∀{w:World},SL W (X::.mem H2::F) w→∃post,DecIQ X H bs (.tuple #[agg (encIt ⟨0,.slice none 0 0,.slice none 0 0⟩),.int .i64 3]) post∧SL W (app post F) w:=λh w hS=>⟨[X,.mem H2],by unfold DecIQ;rw[decItemR_no hd (by rw[ht,hr];exact h)];exact⟨by decide,H2,h02,rfl,rfl⟩,hS⟩
    refine zK (λhb=>?_) (λhb=>?_)
    ·have hb:=of_decide_eq_false hb
     repeat first|refine Gp ?_|refine Gw λw hS=>?_|refine Gb λb w hS=>?_
     exact hno (λh=>hb ⟨h.1,h.2.1⟩) (SL.into hS Xi)
    ·have hb:=of_decide_eq_true hb
     repeat first|refine Gp ?_|refine Gw λw hS=>?_|refine Gb λb w hS=>?_
     (apply zd (zZ H2 ⟨lsn,ov,nv⟩ t hx) hS;exact Xp;clear hS)
     (rintro v post ⟨rfl,rfl⟩ w hS;(try simp only[app]at hS);(repeat (first|refine Gp ?_|refine Gw λw hS=>?_|refine Gb λb w hS=>?_)))
     refine zK (λhm=>?_) (λhm=>?_)
     ·repeat first|refine Gp ?_|refine Gw λw hS=>?_|refine Gb λb w hS=>?_
      exact hno (λh=>by rw[h.2.2]at hm;cases hm) (SL.into hS Xi)
     ·have h1:=encIt_one hx
      refine zA hS Xh rfl ?_
      refine zP hS Xu rfl rfl h1 λw hS=>?_
      repeat first|refine Gp ?_|refine Gw λw hS=>?_|refine Gb λb w hS=>?_
      exact⟨[X,.mem H2],by unfold DecIQ;rw[decItemR_is hd (by rw[ht,hr];exact⟨hb.1,hb.2,hm⟩),ht];exact⟨⟨lsn,ov,nv⟩,H2,h02,rfl,hx,rfl⟩,SL.into hS Xi⟩
   repeat first|refine Gp ?_|refine Gw λw hS=>?_|refine Gb λb w hS=>?_
   refine ze (λh=>?_) (λh=>hend (.inl (by omega)) hS)
   repeat first|refine Gp ?_|refine Gw λw hS=>?_|refine Gb λb w hS=>?_
   refine RRdO.badAt (r:=r') (Has.front hS Xr) ?_
   repeat first|refine Gp ?_|refine Gw λw hS=>?_|refine Gb λb w hS=>?_
   refine zK (λhb=>?_) (λhb=>hend (.inr hb) hS)
   obtain⟨k,rfl⟩:∃j,k=j+1:=⟨k-1,by omega⟩
   have hM:=hM.step hb
   (apply zd (zO rp r' 2) hS;exact Xp;clear hS)
   (rintro v post ⟨rfl,rfl⟩ w hS;(try simp only[app]at hS);(repeat (first|refine Gp ?_|refine Gw λw hS=>?_|refine Gb λb w hS=>?_)))
   (apply zd (zO rp _ 64) hS;exact Xp;clear hS)
   (rintro v post ⟨rfl,rfl⟩ w hS;(try simp only[app]at hS);(repeat (first|refine Gp ?_|refine Gw λw hS=>?_|refine Gb λb w hS=>?_)))
   (apply zd (zO rp _ 8) hS;exact Xp;clear hS)
   (rintro v post ⟨rfl,rfl⟩ w hS;(try simp only[app]at hS);(repeat (first|refine Gp ?_|refine Gw λw hS=>?_|refine Gb λb w hS=>?_)))
   (apply zd (zO rp _ 8) hS;exact Xp;clear hS)
   (rintro v post ⟨rfl,rfl⟩ w hS;(try simp only[app]at hS);(repeat (first|refine Gp ?_|refine Gw λw hS=>?_|refine Gb λb w hS=>?_)))
   (apply zd (zO rp _ 1099511627776) hS;exact Xp;clear hS)
   (rintro v post ⟨rfl,rfl⟩ w hS;(try simp only[app]at hS);(repeat (first|refine Gp ?_|refine Gw λw hS=>?_|refine Gb λb w hS=>?_)))
   (apply zd (zO rp _ 1099511627776) hS;exact Xp;clear hS)
   (rintro v post ⟨rfl,rfl⟩ w hS;(try simp only[app]at hS);(repeat (first|refine Gp ?_|refine Gw λw hS=>?_|refine Gb λb w hS=>?_)))
   (apply zd (Zx rp _) hS;exact Xp;clear hS)
   (rintro v post ⟨rfl,rfl⟩ w hS;(try simp only[app]at hS);(repeat (first|refine Gp ?_|refine Gw λw hS=>?_|refine Gb λb w hS=>?_)))
   refine yD (n:=nts.length) (xs:=nts) (y:=(noteRd r').1) (enc:=encNote) hS Xr (by simp only[noteRd];exact Xh) encNote_len encNote_one rfl (by omega) (by omega) λu w hS=>?_
   have h1:=OwnSl.one hS
   repeat first|refine Gp ?_|refine Gw λw hS=>?_|refine Gb λb w hS=>?_
   refine⟨⟨i+1,k,_,_,u,rfl,by omega,hM,?_⟩,by dsimp only;omega⟩
   have hS:=hS.snocL (x:=(noteRd r').1)
   simp only[noteRd]at hS ⊢
   exact SL.into hS Xi
theorem insC_split:∀(C:List Cell) (c:Cell) (i:Nat),i≤C.length→(∀j (h:j<C.length),j<i→C[j].key<c.key)→(∀h:i<C.length,c.key≤C[i].key) →
  insC C c=C.take i++[c]++C.drop (if ∃h:i<C.length,C[i].key=c.key then i+1 else i)
 | [],c,i,hi,_,_=>by
  have:i=0:=by simpa using hi
  subst this;simp[insC]
 | x::C,c,0,_,_,h2=>by
  have hx:=h2 (by simp)
  simp only[List.getElem_cons_zero]at hx
  have:¬x.key<c.key:=by omega
  by_cases he:x.key=c.key
  ·simp[insC,he]
  ·simp[insC,this,he]
 | x::C,c,i+1,hi,h1,h2=>by
  have hx:x.key<c.key:=h1 0 (by simp) (by omega)
  have ih:=insC_split C c i (by simpa using hi) (λj h hj=>by have:=h1 (j+1) (by simpa using h) (by omega);simpa using this) (λh=>by have:=h2 (by simpa using h);simpa using this)
  simp only[insC,hx,if_true,ih,List.length_cons,List.getElem_cons_succ,Nat.add_lt_add_iff_right]
  split<;>simp
theorem getC_split:∀(C:List Cell) (k:Int) (i:Nat),SortedC C→i≤C.length→(∀j (h:j<C.length),j<i→C[j].key<k)→(∀h:i<C.length,k≤C[i].key) →
  getC C k=if h:∃h:i<C.length,C[i].key=k then some (C[i]'(h.1)) else none
 | [],k,i,_,hi,_,_=>by simp[getC]
 | x::C,k,0,hs,_,_,h2=>by
  have hx:=h2 (by simp)
  simp only[List.getElem_cons_zero]at hx
  unfold SortedC at hs
  rw[List.pairwise_cons]at hs
  by_cases he:x.key=k
  ·simp[getC,he]
  ·have:C.find? (λc=>decide (c.key=k))=none:=by
    rw[List.find?_eq_none]
    intro y hy
    have:=hs.1 y hy
    simp;omega
   simp[getC,he,this]
 | x::C,k,i+1,hs,hi,h1,h2=>by
  have hx:x.key<k:=h1 0 (by simp) (by omega)
  have hs':SortedC C:=by unfold SortedC at *;exact (List.pairwise_cons.1 hs).2
  have ih:=getC_split C k i hs' (by simpa using hi) (λj h hj=>by have:=h1 (j+1) (by simpa using h) (by omega);simpa using this) (λh=>by have:=h2 (by simpa using h);simpa using this)
  have hne:¬x.key=k:=by omega
  unfold getC at ih ⊢
  rw[List.find?_cons]
  simp only[hne,decide_false,ih,List.length_cons,List.getElem_cons_succ,Nat.add_lt_add_iff_right]
def Rd4(H:Heap)(vs:List Value)(ts:List (List Cell)):Prop:=vs.length=ts.length∧∀(i:Nat) (v:Value) (C:List Cell),vs[i]?=some v→ts[i]?=some C→RdSl H 4 v C.length (C.map encCell).flatten
theorem Rd4.mono{H H':Heap}{vs:List Value}{ts:List (List Cell)}(hh:H.le H')(h:Rd4 H vs ts):Rd4 H' vs ts:=⟨h.1,λi v C h1 h2=>(h.2 i v C h1 h2).mono hh⟩
theorem Rd4.set{H:Heap}{vs:List Value}{ts:List (List Cell)}(h:Rd4 H vs ts){t:Nat}{v:Value}{C:List Cell}(hv:RdSl H 4 v C.length (C.map encCell).flatten):Rd4 H (vs.set t v) (ts.set t C):=by
 refine⟨by simpa using h.1,λi v' C' h1 h2=>?_⟩
 rw[List.getElem?_set]at h1 h2
 split at h1
 ·split at h1
  ·cases h1;rename_i e hl;simp only[e,if_true]at h2;split at h2
   ·cases h2;exact hv
   ·cases h2
  ·cases h1
 ·rename_i e;simp only[e,if_false]at h2;exact h.2 i v' C' h1 h2
def Ref(H:Heap)(r:Nat)(ts:List (List Cell)):zG:=HEx λx:Nat × List Value=>zT (Rd4 H x.2 ts∧ts.length≤8)
 [.pt r [.slice (some ⟨x.1,0,none⟩) ts.length ts.length] 161,.pt x.1 x.2 81]
theorem Ref.iff{W w:World}{H:Heap}{r:Nat}{ts:List (List Cell)}{l:List Chunk}:SL W (.ob (Ref H r ts)::l) w↔∃(bv:Nat) (vs:List Value),(Rd4 H vs ts∧ts.length≤8) ∧
  SL W (.pt r [.slice (some ⟨bv,0,none⟩) ts.length ts.length] 161::.pt bv vs 81::l) w:=by
 unfold Ref
 simp only[SL.ex,SL.fact,List.cons_append,List.nil_append]
 constructor
 ·rintro ⟨⟨bv,vs⟩,h1,h2⟩;exact⟨bv,vs,h1,h2⟩
 ·rintro ⟨bv,vs,h1,h2⟩;exact⟨⟨bv,vs⟩,h1,h2⟩
theorem Ref.mono{W w:World}{H H':Heap}(hh:H.le H'){r:Nat}{ts:List (List Cell)}{l:List Chunk}(h:SL W (.ob (Ref H r ts)::l) w):SL W (.ob (Ref H' r ts)::l) w:=by
 obtain⟨bv,vs,hA,hS⟩:=Ref.iff.1 h
 exact Ref.iff.2 ⟨bv,vs,⟨hA.1.mono hh,hA.2⟩,hS⟩
theorem rnew_ok(H:Heap)(n:Nat)(h1:1≤n)(h2:n≤8):SP 15 [.int .i64 n] [] (λv post=>∃r:Nat,v= .pointer (some ⟨r,0,none⟩)∧post=[.ob (Ref H r (List.replicate n []))]):=by
 intro W F w hS;apply vc15;unfold Vc15;(try simp only[app]at hS)
 repeat first|refine Gp ?_|refine Gw λw hS=>?_|refine Gb λb w hS=>?_
 refine ze (λh=>by omega) (λ_=>?_)
 repeat first|refine Gp ?_|refine Gw λw hS=>?_|refine Gb λb w hS=>?_
 refine ze (λh=>by omega) (λ_=>?_)
 refine s_mk hS (by omega) (by omega) (by omega) ?_
 clear hS;intro bv w hS
 repeat first|refine Gp ?_|refine Gw λw hS=>?_|refine Gb λb w hS=>?_
 refine⟨_,rfl,zJ hS ?_⟩
 clear hS;intro r w hS
 have hz:zrow [.slice none 0 0] n=List.replicate n (.slice none 0 0:Value):=by simp[zrow]
 rw[hz]at hS
 have hS:SL W (.ob (Ref H r (List.replicate n []))::F) w:=Ref.iff.2 ⟨bv,List.replicate n (.slice none 0 0),⟨⟨by simp,λi v C h1 h2=>by
  rw[List.getElem?_replicate]at h1 h2
  split at h1
  ·cases h1;split at h2
   all_goals first|(cases h2;exact RdSl.nil H 4)|(cases h2)
  ·cases h1⟩,by simpa using h2⟩,by rw[List.length_replicate];exact hS⟩
 exact⟨_,⟨r,rfl,rfl⟩,hS⟩
theorem QG(H:Heap)(r:Nat)(ts:List (List Cell))(v:Value)(ops:List AOp)(hv:RdSl H 5 v ops.length (ops.map encOp).flatten)(hn:ops.length≤1000000)(hk:∀o∈ops,inI64 o.key)(hok:okS ts)(hsm:small ts ops.length):
  SP 63 [.pointer (some ⟨r,0,none⟩),v] [.mem H,.ob (Ref H r ts)] (λu post=>∃H',H.le H'∧u= .int .i64 ((putAll ts ops).2:Nat)∧post=[.mem H',.ob (Ref H' r (putAll ts ops).1)]):=by
 intro W F w hS;apply vc63;unfold Vc63;(try simp only[app]at hS)
 refine⟨λvs w=>∃(k:Nat) (H2:Heap),vs=[.int .i64 ((putAll ts (ops.take k)).2:Nat),.int .i64 k]∧k≤ops.length∧H.le H2∧SL W (.mem H2::.ob (Ref H2 r (putAll ts (ops.take k)).1)::F) w,λvs _=>match vs with|[_,.int _ k]=>(ops.length-k).toNat|_=>0,⟨0,H,rfl,by omega,Heap.le_refl H,hS⟩,?_⟩
 clear hS
 rintro v5 v6 w ⟨k,H2,hvs,hk1,hH,hS⟩
 cases hvs
 have hv2:=hv.mono hH
 refine zq hv2 ?_
 repeat first|refine Gp ?_|refine Gw λw hS=>?_|refine Gb λb w hS=>?_
 refine ze (λh=>?_) (λh=>?_)
 ·have hk2:k<ops.length:=by omega
  have hx:ops[k]?=some ops[k]:=by simp[hk2]
  refine zH hS Xh encOp_len hv2 hx hk2 ?_
  have hok2:okS (putAll ts (ops.take k)).1:=okS_all hok (λo ho=>hk o (List.mem_of_mem_take ho))
  have hsm2:small (putAll ts (ops.take k)).1 1:=small_all (small_mono hsm (by rw[List.length_take];omega))
  have hpk:putAll ts (ops.take (k+1))=((putS (putAll ts (ops.take k)).1 ops[k]).1,(putAll ts (ops.take k)).2+if (putS (putAll ts (ops.take k)).1 ops[k]).2 then 1 else 0):=by
   rw[List.take_succ_eq_append_getElem hk2,putAll_append];simp[putAll]
  have hle:(putAll ts (ops.take k)).2≤k:=Nat.le_trans (putAll_le _ _) (by simp;omega)
  have hko:=hk _ (List.getElem_mem hk2)
  generalize ops[k]=o at hpk hko ⊢
  generalize (putAll ts (ops.take k)).2=cnt at hpk hle ⊢
  generalize (putAll ts (ops.take k)).1=ts2 at hpk hS hok2 hsm2 ⊢
  obtain⟨bv,vs,hA,hS⟩:=Ref.iff.1 (SL.into hS (t:=.ob (Ref H2 r ts2)::.mem H2::F) Xi)
  refine zJ hS ?_
  clear hS;intro p w hS
  refine zP (vs:=encOp o) hS Xu rfl rfl (encOp_one _) ?_
  clear hS;intro w hS
  simp only[encOp]at hS
  refine yi hS ?_
  clear hS;intro w hS
  repeat first|refine Gp ?_|refine Gw λw hS=>?_|refine Gb λb w hS=>?_
  refine ze (λh0=>?_) (λh0=>?_)
  ·have hp:putS ts2 o=(ts2,false):=by unfold putS;simp[h0]
   have hS:SL W (.ob (Ref H2 r ts2)::.mem H2::F) w:=Ref.iff.2 ⟨bv,vs,hA,by exact SL.into hS Xi⟩
   repeat first|refine Gp ?_|refine Gw λw hS=>?_|refine Gb λb w hS=>?_
   refine⟨⟨k+1,H2,(by rw[hpk,hp];simp),(by omega),hH,(by rw[hpk,hp];exact SL.into hS Xi)⟩,(by dsimp only;omega)⟩
  repeat first|refine Gp ?_|refine Gw λw hS=>?_|refine Gb λb w hS=>?_
  refine ze (λh1=>?_) (λh1=>?_)
  ·have hp:putS ts2 o=(ts2,false):=by unfold putS;rw[List.getElem?_eq_none (by omega)];simp
   have hS:SL W (.ob (Ref H2 r ts2)::.mem H2::F) w:=Ref.iff.2 ⟨bv,vs,hA,by exact SL.into hS Xi⟩
   repeat first|refine Gp ?_|refine Gw λw hS=>?_|refine Gb λb w hS=>?_
   refine⟨⟨k+1,H2,(by rw[hpk,hp];simp),(by omega),hH,(by rw[hpk,hp];exact SL.into hS Xi)⟩,(by dsimp only;omega)⟩
  obtain⟨lsn,table,key,gone,val⟩:=o
  simp only at h0 h1 hko hS ⊢
  obtain⟨t,rfl⟩:∃u:Nat,table=u:=⟨table.toNat,by omega⟩
  have ht:t<ts2.length:=by omega
  have htv:t<vs.length:=by rw[hA.1.1];exact ht
  have hC:=hA.1.2 t vs[t] ts2[t] (by simp[htv]) (by simp[ht])
  have hokC:=hok2 ts2[t] (List.getElem_mem ht)
  have hsmC:=hsm2 ts2[t] (List.getElem_mem ht)
  rw[putS_at (t:=t) rfl ht]at hpk
  have hvt:vs[0+t*1]?=some vs[t]:=by simp[htv]
  refine yi hS ?_
  clear hS;intro w hS
  repeat first|refine Gp ?_|refine Gw λw hS=>?_|refine Gb λb w hS=>?_
  refine zC ht (zS hS Xh hvt ?_)
  generalize hCC:ts2[t]=C at hC hokC hsmC hpk
  generalize hVV:vs[t]=vC at hC
  have hko':inI64 key:=hko
  refine⟨λus w=>∃i:Nat,us=[.int .i64 i]∧i≤C.length∧(∀j (h:j<C.length),j<i→C[j].key<key)∧(∀h:i<C.length,key≤C[i].key)∧SL W (.pt p [.int .i64 lsn,.int .i64 (t:Int),.int .i64 key,.bool gone,.string val] 96::.mem H2::.pt r [.slice (some ⟨bv,0,none⟩) ts2.length ts2.length] 161::.pt bv vs 81::F) w,?_,?_⟩
  ·refine⟨λus w=>∃i:Nat,us=[.int .i64 i]∧i≤C.length∧(∀j (h:j<C.length),j<i→C[j].key<key)∧SL W (.pt p [.int .i64 lsn,.int .i64 (t:Int),.int .i64 key,.bool gone,.string val] 96::.mem H2::.pt r [.slice (some ⟨bv,0,none⟩) ts2.length ts2.length] 161::.pt bv vs 81::F) w,λus _=>match us with|[.int _ i]=>(C.length-i).toNat|_=>0,⟨0,rfl,by omega,λj h hj=>by omega,by exact SL.into hS Xi⟩,?_⟩
   clear hS
   rintro v9 w ⟨i,hus,hi,hlt,hS⟩
   cases hus
   refine yi hS ?_
   clear hS;intro w hS
   refine zq hC ?_
   repeat first|refine Gp ?_|refine Gw λw hS=>?_|refine Gb λb w hS=>?_
   refine ze (λh2=>?_) (λh2=>?_)
   ·have hi2:i<C.length:=by omega
    refine zY hS Xh encCell_len hC (x:=C[i]) (by simp[hi2]) hi2 (i:=0) rfl ?_
    repeat first|refine Gp ?_|refine Gw λw hS=>?_|refine Gb λb w hS=>?_
    refine ze (λh3=>?_) (λh3=>?_)
    ·repeat first|refine Gp ?_|refine Gw λw hS=>?_|refine Gb λb w hS=>?_
     refine⟨⟨i+1,rfl,(by omega),λj h hj=>?_,hS⟩,(by dsimp only;omega)⟩
     rcases Nat.lt_or_ge j i with hji|hji
     ·exact hlt j h hji
     ·obtain rfl:j=i:=by omega
      exact h3
    ·exact⟨i,rfl,hi,hlt,λh=>by omega,hS⟩
   ·exact⟨i,rfl,hi,hlt,λh=>by omega,hS⟩
  ·clear hS
   rintro v9 w ⟨i,hus,hi,hlt,hge,hS⟩
   cases hus
   have hgC:=getC_split C key i hokC.1 hi hlt hge
   have hins:=insC_split C (cellOf ⟨lsn,t,key,gone,val⟩) i hi hlt hge
   refine⟨λus w=>us=[.bool (decide (∃h:i<C.length,C[i].key=key))]∧SL W (.pt p [.int .i64 lsn,.int .i64 (t:Int),.int .i64 key,.bool gone,.string val] 96::.mem H2::.pt r [.slice (some ⟨bv,0,none⟩) ts2.length ts2.length] 161::.pt bv vs 81::F) w,?_,?_⟩
   ·refine yi hS ?_
    clear hS;intro w hS
    refine zq hC ?_
    repeat first|refine Gp ?_|refine Gw λw hS=>?_|refine Gb λb w hS=>?_
    refine ze (λh2=>?_) (λh2=>?_)
    ·have hi2:i<C.length:=by omega
     refine zY hS Xh encCell_len hC (x:=C[i]) (by simp[hi2]) hi2 (i:=0) rfl ?_
     repeat first|refine Gp ?_|refine Gw λw hS=>?_|refine Gb λb w hS=>?_
     refine⟨?_,hS⟩
     simp[hi2]
    ·refine⟨?_,hS⟩
     have:¬(∃h:i<C.length,C[i].key=key):=λ⟨h,_⟩=>by omega
     simp only[this,decide_false]
   ·clear hS
    rintro v10 w ⟨hus,hS⟩
    cases hus
    refine⟨λus w=>us=[]∧(∀c,getC C key=some c→¬lsn<c.lsn)∧SL W (.pt p [.int .i64 lsn,.int .i64 (t:Int),.int .i64 key,.bool gone,.string val] 96::.mem H2::.pt r [.slice (some ⟨bv,0,none⟩) ts2.length ts2.length] 161::.pt bv vs 81::F) w,?_,?_⟩
    ·refine yi hS ?_
     clear hS;intro w hS
     refine ze (λh2=>?_) (λh2=>?_)
     ·obtain⟨hi2,hk3⟩:=h2
      refine zY hS Xh encCell_len hC (x:=C[i]) (by simp[hi2]) hi2 (i:=1) rfl ?_
      repeat first|refine Gp ?_|refine Gw λw hS=>?_|refine Gb λb w hS=>?_
      have hgC':getC C key=some C[i]:=by rw[hgC];simp[hi2,hk3]
      refine ze (λh3=>?_) (λh3=>?_)
      ·have hp:putT C ⟨lsn,t,key,gone,val⟩=(C,false):=by unfold putT;simp only[hgC',h3,if_true]
       rw[hp]at hpk
       have hse:ts2.set t C=ts2:=by rw[← hCC];exact List.set_getElem_self ht
       simp only[hse]at hpk
       have hS:SL W (.ob (Ref H2 r ts2)::.mem H2::F) w:=Ref.iff.2 ⟨bv,vs,hA,by exact SL.into hS Xi⟩
       repeat first|refine Gp ?_|refine Gw λw hS=>?_|refine Gb λb w hS=>?_
       refine⟨⟨k+1,H2,(by rw[hpk];simp),(by omega),hH,(by rw[hpk];exact SL.into hS Xi)⟩,(by dsimp only;omega)⟩
      ·exact⟨rfl,λc hc=>(by rw[hgC']at hc;cases hc;exact h3),hS⟩
     ·refine⟨rfl,λc hc=>?_,hS⟩
      rw[hgC]at hc
      simp only[h2,dite_false]at hc
      cases hc
    ·clear hS
     rintro w ⟨-,hnew,hS⟩
     have hp:putT C ⟨lsn,t,key,gone,val⟩=(insC C (cellOf ⟨lsn,t,key,gone,val⟩),true):=by
      unfold putT
      cases hg:getC C key with
      | none=>simp only
      | some c=>simp only[hnew c hg,if_false]
     rw[hp]at hpk
     repeat first|refine Gp ?_|refine Gw λw hS=>?_|refine Gb λb w hS=>?_
     refine⟨λus w=>us=[]∧SL W (.pt b (encCell (cellOf ⟨lsn,t,key,gone,val⟩)) 80::.pt p [.int .i64 lsn,.int .i64 (t:Int),.int .i64 key,.bool gone,.string val] 96::.mem H2::.pt r [.slice (some ⟨bv,0,none⟩) ts2.length ts2.length] 161::.pt bv vs 81::F) w,?_,?_⟩
     ·repeat first|refine Gp ?_|refine Gw λw hS=>?_|refine Gb λb w hS=>?_
      cases gone with
      | true=>
       refine zy ?_
       repeat first|refine Gp ?_|refine Gw λw hS=>?_|refine Gb λb w hS=>?_
       simp only[cellOf,encCell,if_true];exact SL.into hS Xi
      | false=>
       refine zr ?_
       refine⟨rfl,?_⟩
       simp only[cellOf,encCell,Bool.false_eq_true,if_false];exact SL.into hS Xi
     ·clear hS
      rintro w ⟨-,hS⟩
      generalize hcc:cellOf ⟨lsn,t,key,gone,val⟩=c at hS hins hpk
      have hck:c.key=key:=by rw[← hcc];rfl
      refine⟨λus w=>∃u,us=[u]∧SL W (.ob (OwnSl u 80 4 (i+1) (((C.take i++[c]).map encCell).flatten))::.pt p [.int .i64 lsn,.int .i64 (t:Int),.int .i64 key,.bool gone,.string val] 96::.mem H2::.pt r [.slice (some ⟨bv,0,none⟩) ts2.length ts2.length] 161::.pt bv vs 81::F) w,?_,?_⟩
      ·refine yi hS ?_
       clear hS;intro w hS
       refine qi hC hi (λv100 h100=>?_)
       refine zA hS Xh rfl ?_
       have ht0:(C.map encCell).flatten.take (i*4)=((C.take i).map encCell).flatten:=flat_take_n encCell_len C i
       rw[ht0]at h100
       have hSn:=hS
       refine⟨?_,?_⟩
       ·refine zD hS (cells:=[]) rfl ?_
        clear hS;intro b1 w hS
        have hS:=OwnSl.full (n:=0) (sz:=4) rfl hS
        refine zA hS Xh rfl (ZP ?_)
        refine⟨?_,?_⟩
        ·refine zw (n:=0) (m:=i) hS Xr (src_rd hS Xh h100) (by rw[flat_len encCell_len,List.length_take];omega) rfl (recs_one encCell_one _) (by omega) (by omega) ?_
         clear hS;intro u1 w hS
         refine zA hS Xh rfl (ZP ?_)
         refine zD hS (fill_cell c [.int .i64 0,.int .i64 0,.bool false,.string ⟨#[]⟩] rfl) ?_
         clear hS;intro b2 w hS
         refine zw (n:=0+i) (m:=1) hS Xr (src_pt0 (cs:=encCell c) hS .hd rfl) rfl rfl (encCell_one _) (by omega) (by omega) ?_
         clear hS;intro u2 w hS
         refine⟨u2,rfl,?_⟩
         rw[flat_snoc]
         simp only[Nat.zero_add,List.nil_append]at hS
         exact SL.into hS Xi
        ·refine zD hS (fill_cell c [.int .i64 0,.int .i64 0,.bool false,.string ⟨#[]⟩] rfl) ?_
         clear hS;intro b2 w hS
         refine zw (n:=0) (m:=i) hS Xr (src_rd hS Xh h100) (by rw[flat_len encCell_len,List.length_take];omega) rfl (recs_one encCell_one _) (by omega) (by omega) ?_
         clear hS;intro u1 w hS
         refine zw (n:=0+i) (m:=1) hS Xr (src_pt0 (cs:=encCell c) (b:=b2) hS Xh rfl) rfl rfl (encCell_one _) (by omega) (by omega) ?_
         clear hS;intro u2 w hS
         refine⟨u2,rfl,?_⟩
         rw[flat_snoc]
         simp only[Nat.zero_add,List.nil_append]at hS
         exact SL.into hS Xi
       ·refine zD hS (fill_cell c [.int .i64 0,.int .i64 0,.bool false,.string ⟨#[]⟩] rfl) ?_
        clear hS;intro b2 w hS
        refine zD hS (cells:=[]) rfl ?_
        clear hS;intro b1 w hS
        have hS:=OwnSl.full (n:=0) (sz:=4) rfl hS
        refine zw (n:=0) (m:=i) hS Xr (src_rd hS Xh h100) (by rw[flat_len encCell_len,List.length_take];omega) rfl (recs_one encCell_one _) (by omega) (by omega) ?_
        clear hS;intro u1 w hS
        refine zw (n:=0+i) (m:=1) hS Xr (src_pt0 (cs:=encCell c) (b:=b2) hS Xh rfl) rfl rfl (encCell_one _) (by omega) (by omega) ?_
        clear hS;intro u2 w hS
        refine⟨u2,rfl,?_⟩
        rw[flat_snoc]
        simp only[Nat.zero_add,List.nil_append]at hS
        exact SL.into hS Xi
      ·clear hS
       rintro v12 w ⟨u,hus,hS⟩
       cases hus
       simp only[hck]at hins
       generalize hj:(if ∃h:i<C.length,C[i].key=key then i+1 else i)=j at hins
       have hjl:j≤C.length:=by
        rw[← hj];split
        ·rename_i h9;obtain⟨h9,_⟩:=h9;omega
        ·exact hi
       refine⟨λus w=>us=[.int .i64 (j:Nat)]∧SL W (.ob (OwnSl v12 80 4 (i+1) (((C.take i++[c]).map encCell).flatten))::.pt p [.int .i64 lsn,.int .i64 (t:Int),.int .i64 key,.bool gone,.string val] 96::.mem H2::.pt r [.slice (some ⟨bv,0,none⟩) ts2.length ts2.length] 161::.pt bv vs 81::F) w,?_,?_⟩
       ·refine ze (λh9=>?_) (λh9=>?_)
        ·simp only[h9,if_true]at hj
         subst hj
         repeat first|refine Gp ?_|refine Gw λw hS=>?_|refine Gb λb w hS=>?_
         exact hS
        ·simp only[h9,if_false]at hj
         subst hj
         exact⟨rfl,hS⟩
       ·clear hS
        rintro v9 w ⟨hus,hS⟩
        cases hus
        refine yi hS ?_
        clear hS;intro w hS
        repeat first|refine Gp ?_|refine Gw λw hS=>?_|refine Gb λb w hS=>?_
        refine QX hC hjl (λv117 h117=>?_)
        rw[flat_drop_n encCell_len]at h117
        refine zw (n:=i+1) (m:=C.length-j) hS Xr (src_rd hS Xh h117) (by rw[flat_len encCell_len,List.length_drop]) rfl (recs_one encCell_one _) (by omega) (by omega) ?_
        clear hS;intro u2 w hS
        have hlI:(insC C c).length=i+1+(C.length-j):=by
         rw[hins];simp only[List.length_append,List.length_take,List.length_drop,List.length_singleton];omega
        have hfI:((C.take i++[c]).map encCell).flatten++((C.drop j).map encCell).flatten=((insC C c).map encCell).flatten:=by
         rw[hins];simp
        rw[hfI,← hlI]at hS
        have h1:=OwnSl.one hS
        repeat first|refine Gp ?_|refine Gw λw hS=>?_|refine Gb λb w hS=>?_
        refine zC ht (yW hS Xu hvt h1 ?_)
        clear hS;intro w hS
        obtain⟨H3,hH3,hR3,hS⟩:=OwnSl.freeze (SL.into hS (t:=.mem H2::.ob (OwnSl u2 80 4 (insC C c).length (((insC C c).map encCell).flatten))::.pt r [.slice (some ⟨bv,0,none⟩) ts2.length ts2.length] 161::.pt bv (vs.set (0+t*1) u2) 81::F) Xi)
        rw[show 0+t*1=t by omega]at hS
        have hS:SL W (.ob (Ref H3 r (ts2.set t (insC C c)))::.mem H3::F) w:=Ref.iff.2 ⟨bv,vs.set t u2,⟨(hA.1.mono hH3).set hR3,by rw[List.length_set];exact hA.2⟩,by rw[List.length_set];exact SL.into hS Xi⟩
        repeat first|refine Gp ?_|refine Gw λw hS=>?_|refine Gb λb w hS=>?_
        refine⟨⟨k+1,H3,(by rw[hpk];simp),(by omega),Heap.le_trans hH hH3,(by rw[hpk];exact SL.into hS Xi)⟩,(by dsimp only;omega)⟩
 ·obtain rfl:k=ops.length:=by omega
  rw[List.take_length]at hS ⊢
  exact⟨_,⟨H2,hH,rfl,rfl⟩,SL.into hS Xi⟩
theorem YQ(H:Heap)(r:Nat)(ts:List (List Cell))(t:Int)(hs:small ts 0):SP 36 [.pointer (some ⟨r,0,none⟩),.int .i64 t] [.mem H,.ob (Ref H r ts)]
  (λv post=>post=[.mem H,.ob (Ref H r ts),.ob (OwnSl v 80 4 (cellsAt ts t).length ((cellsAt ts t).map encCell).flatten)]):=by
 intro W F w hS;apply vc36;unfold Vc36;(try simp only[app]at hS)
 obtain⟨bv,vs,hA,hS⟩:=Ref.iff.1 (SL.into hS (t:=.ob (Ref H r ts)::.mem H::F) Xi)
 repeat first|refine Gp ?_|refine Gw λw hS=>?_|refine Gb λb w hS=>?_
 refine ze (λh0=>?_) (λh0=>?_)
 ·have hc:cellsAt ts t=[]:=by unfold cellsAt;split;omega;rfl
  rw[hc]
  have hS:SL W (.ob (Ref H r ts)::.mem H::F) w:=Ref.iff.2 ⟨bv,vs,hA,by exact SL.into hS Xi⟩
  have hS:SL W (.ob (OwnSl (.slice none 0 0) 80 4 ([]:List Cell).length (([]:List Cell).map encCell).flatten)::.ob (Ref H r ts)::.mem H::F) w:=OwnSl.nil hS
  exact⟨_,rfl,SL.into hS Xi⟩
 repeat first|refine Gp ?_|refine Gw λw hS=>?_|refine Gb λb w hS=>?_
 refine ze (λh1=>?_) (λh1=>?_)
 ·have hc:cellsAt ts t=[]:=by unfold cellsAt;split;rw[List.getElem?_eq_none (by omega)];rfl;rfl
  rw[hc]
  have hS:SL W (.ob (Ref H r ts)::.mem H::F) w:=Ref.iff.2 ⟨bv,vs,hA,by exact SL.into hS Xi⟩
  have hS:SL W (.ob (OwnSl (.slice none 0 0) 80 4 ([]:List Cell).length (([]:List Cell).map encCell).flatten)::.ob (Ref H r ts)::.mem H::F) w:=OwnSl.nil hS
  exact⟨_,rfl,SL.into hS Xi⟩
 obtain⟨t,rfl⟩:∃u:Nat,t=u:=⟨t.toNat,by omega⟩
 have ht:t<ts.length:=by omega
 have htv:t<vs.length:=by rw[hA.1.1];exact ht
 have hC:=hA.1.2 t vs[t] ts[t] (by simp[htv]) (by simp[ht])
 have hc:cellsAt ts t=ts[t]:=by unfold cellsAt;simp[ht]
 have hsm:=hs ts[t] (List.getElem_mem ht)
 rw[hc]
 refine zD hS (cells:=[]) rfl ?_
 clear hS;intro b1 w hS
 have hS:=OwnSl.full (n:=0) (sz:=4) rfl hS
 repeat first|refine Gp ?_|refine Gw λw hS=>?_|refine Gb λb w hS=>?_
 refine zC ht (zS hS Xh (v:=vs[t]) (by simp[htv]) ?_)
 refine zw (n:=0) (m:=ts[t].length) hS Xr (src_rd hS Xh hC) (by rw[flat_len encCell_len]) rfl (recs_one encCell_one _) (by omega) (by omega) ?_
 clear hS;intro u w hS
 simp only[Nat.zero_add,List.nil_append]at hS
 have hS:SL W (.ob (Ref H r ts)::.mem H::.ob (OwnSl u 80 4 ts[t].length ((ts[t].map encCell).flatten))::F) w:=Ref.iff.2 ⟨bv,vs,hA,by exact SL.into hS Xi⟩
 exact⟨_,rfl,SL.into hS Xi⟩
section
variable {W w:World} {l:List Chunk}
theorem Q4{b o n cap sz:Nat}{t:TypeId}{cells:List Value}{u:Value}{K:Value→Prop}(h:SL W l w)(m:Has (.ob (OwnSl (.slice (some ⟨b,0,none⟩) n cap) t sz n cells)) l)(hn:0<n)(hu:cells[o]?=some u)(hK:K u):
  HLd (.pointer (some ⟨b,o,none⟩)) w K:=by
 obtain⟨a,cap',e,_,h2⟩:=OwnSl.at h m
 cases e
 obtain⟨b',e,h3⟩:=h2 0 hn
 cases e
 exact⟨_,u,rfl,h3 o u hu,hK⟩
theorem q9{v:Value}{t:TypeId}{sz n k:Nat}{kk:IntKind}{cells:List Value}{K:Value→Prop}(h:SL W l w)(m:Has (.ob (OwnSl v t sz n cells)) l)(hk:k≤n)
  (hK:∀u,(∀w' l',SL W l' w'→Has (.ob (OwnSl v t sz n cells)) l'→srcCells w' sz u (n-k) (cells.drop (k*sz)))→K u):HSl sz v (some (.int kk (k:Int))) none none K:=by
 obtain⟨a,cap,rfl,hl,hx⟩:=OwnSl.at h m
 have hcap:n≤cap:=by
  obtain⟨l2,r⟩:=m.rem
  rcases OwnSl.open (h.perm r.perm) with ⟨⟨a',e⟩,rfl,rfl,_⟩|⟨b,cap',rest,e,hc,_⟩
  ·cases e;omega
  ·cases e;exact hc
 refine⟨a,n,cap,k,n,cap,rfl,rfl,rfl,⟨kk,rfl⟩,hk,hcap,Nat.le_refl _,hK _ λw' l' h' m'=>?_⟩
 have hs:=src_own h' m'
 have hld:(cells.drop (k*sz)).length=(n-k)*sz:=by rw[List.length_drop,hl,Nat.mul_sub_right_distrib]
 cases a with
 | none=>
  obtain⟨e1,e2⟩:=hs
  subst e2
  have e:(if cap=k then (none:Option Addr) else Option.map (λx:Addr=>x.add (k*sz)) none)=none:=by split<;>rfl
  rw[e]
  exact⟨rfl,by simp⟩
 | some p=>
  obtain⟨_,e2,e3⟩:=hs
  by_cases hc:cap=k
  ·rw[if_pos hc]
   have hnk:n-k=0:=by omega
   rw[hnk]at hld ⊢
   have:cells.drop (k*sz)=[]:=List.eq_nil_of_length_eq_zero (by simpa using hld)
   rw[this]
   exact⟨rfl,by simp,λj v e=>by simp at e⟩
  ·rw[if_neg hc]
   refine⟨rfl,hld,λj v e=>?_⟩
   rw[List.getElem?_drop]at e
   have:=e3 _ v e
   rwa [Addr.add_add]at *
end
theorem flat_set{α:Type}{enc:α→List Value}{n:Nat}(hn:∀x,(enc x).length=n):∀(xs:List α) (j k:Nat) (hj:j<xs.length) (x:α) (v:Value),k<n→(enc xs[j]).set k v=enc x→((xs.map enc).flatten).set (j*n+k) v=((xs.set j x).map enc).flatten
 | y::xs,0,k,_,x,v,hk,h=>by
  simp only[List.map_cons,List.flatten_cons,List.set_cons_zero,Nat.zero_mul,Nat.zero_add]
  rw[List.set_append_left _ _ (by rw[hn];exact hk)]
  rw[show (enc y).set k v=enc x from h]
 | y::xs,j+1,k,hj,x,v,hk,h=>by
  simp only[List.map_cons,List.flatten_cons,List.set_cons_succ]
  rw[List.set_append_right _ _ (by rw[hn,Nat.add_mul];omega),hn,show (j+1)*n+k-n=j*n+k by rw[Nat.add_mul];omega,flat_set hn xs j k (by simpa using hj) x v hk (by simpa using h)]
abbrev YF:=PF × Value
def idR(y:YF):Int:=y.1.id
theorem idR_fst(y:YF):PF.id (Prod.fst y)=idR y:=rfl
def encRF(y:YF):List Value:=[.int .i64 y.1.id,.int .i64 (y.1.safe:Int),y.2]
theorem encRF_len(y:YF):(encRF y).length=3:=rfl
def RdB(H:Heap)(ys:List YF):Prop:=∀y∈ys,RdSl H 1 y.2 y.1.b.length (y.1.b.map u8c)
theorem RdB.mono{H H':Heap}(hh:H.le H'){ys:List YF}(h:RdB H ys):RdB H' ys:=λy hy=>(h y hy).mono hh
theorem RdB.set{H:Heap}{ys:List YF}(h:RdB H ys){i:Nat}{y:YF}(hy:RdSl H 1 y.2 y.1.b.length (y.1.b.map u8c)):RdB H (ys.set i y):=λz hz=>by
 rcases List.mem_or_eq_of_mem_set hz with hz|rfl
 ·exact h z hz
 ·exact hy
abbrev rcells(fv:Value)(s:DS):List Value:=[fv,.int .i64 s.arm,.bool s.off,.int .i64 (s.ops:Int)]
abbrev FilesO(fv:Value)(ys:List YF):zG:=OwnSl fv 61 3 ys.length (ys.map encRF).flatten
def RDO(H:Heap)(xp:Nat)(s:DS):zG:=HEx λx:Value × List YF=>zT (x.2.map Prod.fst=s.R∧RdB H x.2) [.pt xp (rcells x.1 s) 29,.ob (FilesO x.1 x.2)]
theorem RDO.iff{W w:World}{H:Heap}{xp:Nat}{s:DS}{l:List Chunk}:SL W (.ob (RDO H xp s)::l) w↔∃fv ys,(ys.map Prod.fst=s.R∧RdB H ys)∧SL W (.pt xp (rcells fv s) 29::.ob (FilesO fv ys)::l) w:=by
 unfold RDO
 simp only[SL.ex,SL.fact,List.cons_append,List.nil_append]
 exact⟨λ⟨x,h1,h2⟩=>⟨x.1,x.2,h1,h2⟩,λ⟨fv,ys,h1,h2⟩=>⟨(fv,ys),h1,h2⟩⟩
theorem RDO.mono{W w:World}{H H':Heap}(hh:H.le H'){xp:Nat}{s:DS}{l:List Chunk}(h:SL W (.ob (RDO H xp s)::l) w):SL W (.ob (RDO H' xp s)::l) w:=by
 obtain⟨fv,ys,⟨h1,h2⟩,hS⟩:=RDO.iff.1 h
 exact RDO.iff.2 ⟨fv,ys,⟨h1,h2.mono hh⟩,hS⟩
theorem encRF_at{ys:List YF}{j i o:Nat}(hj:j<ys.length)(ho:o=j*3+i){u:Value}(hu:(encRF ys[j])[i]?=some u):((ys.map encRF).flatten)[o]?=some u:=by
 subst ho;exact flat_at encRF_len ys j i _ u (List.getElem?_eq_getElem hj) hu
theorem y9(xp:Nat)(s:DS)(fv:Value)(ys:List YF)(hs:SortedK PF.id (ys.map Prod.fst))(hn:ys.length≤100000)(f:Int):
  SP 158 [.pointer (some ⟨xp,0,none⟩),.int .i64 f] [.pt xp (rcells fv s) 29,.ob (FilesO fv ys)]
   (Gives (.tuple #[.int .i64 (cntK idR ys f:Int),.bool (isK idR ys f)]) [.pt xp (rcells fv s) 29,.ob (FilesO fv ys)]):=by
 intro W F w hS;apply vc158;unfold Vc158;(try simp only[app]at hS)
 have hs:SortedK idR ys:=(sorted_map idR_fst).1 hs
 refine⟨λus w=>∃i:Nat,us=[.int .i64 i]∧i≤ys.length∧(∀j (h:j<ys.length),j<i→idR ys[j]<f)∧SL W (.pt xp (rcells fv s) 29::.ob (FilesO fv ys)::F) w,
  λus _=>match us with|[.int _ i]=>(ys.length-i).toNat|_=>0,⟨0,rfl,by omega,λj h h0=>by omega,hS⟩,?_⟩
 clear hS
 rintro v6 w ⟨i,hus,hi,hlt,hS⟩
 cases hus
 repeat first|refine Gp ?_|refine Gw λw hS=>?_|refine Gb λb w hS=>?_
 refine zE hS (t:=61) (sz:=3) (n:=ys.length) (cells:=(ys.map encRF).flatten) Xh ?_
 repeat first|refine Gp ?_|refine Gw λw hS=>?_|refine Gb λb w hS=>?_
 refine ze (λh=>?_) (λh=>?_)
 ·have hil:i<ys.length:=by omega
  obtain⟨a,cap,rfl,_,hx⟩:=OwnSl.at hS (t:=61) (sz:=3) (n:=ys.length) (cells:=(ys.map encRF).flatten) Xh
  obtain⟨b,rfl,_⟩:=hx i hil
  have hid:((ys.map encRF).flatten)[0+i*3+0]?=some (.int .i64 ys[i].1.id):=encRF_at hil (i:=0) (by omega) rfl
  repeat first|refine Gp ?_|refine Gw λw hS=>?_|refine Gb λb w hS=>?_
  refine zC hil (zW ?_)
  refine Q4 hS (t:=61) (sz:=3) (cells:=(ys.map encRF).flatten) Xh (by omega) hid ?_
  repeat first|refine Gp ?_|refine Gw λw hS=>?_|refine Gb λb w hS=>?_
  refine ze (λh2=>?_) (λh2=>?_)
  ·repeat first|refine Gp ?_|refine Gw λw hS=>?_|refine Gb λb w hS=>?_
   refine⟨⟨i+1,by simp,by omega,λj h3 h4=>?_,SL.into hS Xi⟩,by dsimp only;omega⟩
   by_cases e:j=i
   ·subst e;exact h2
   ·exact hlt j h3 (by omega)
  ·have hc:cntK idR ys f=i:=cntK_eq hs f hi hlt λ_=>h2
   have hk:isK idR ys f=decide (ys[i].1.id=f):=by
    unfold isK;rw[hc,List.getElem?_eq_getElem hil];rfl
   rw[hc,hk]
   repeat first|refine Gp ?_|refine Gw λw hS=>?_|refine Gb λb w hS=>?_
   refine ze (λ_=>?_) (λh=>absurd (by omega) h)
   repeat first|refine Gp ?_|refine Gw λw hS=>?_|refine Gb λb w hS=>?_
   refine zC hil (zW ?_)
   refine Q4 hS (t:=61) (sz:=3) (cells:=(ys.map encRF).flatten) Xh (by omega) hid ?_
   repeat first|refine Gp ?_|refine Gw λw hS=>?_|refine Gb λb w hS=>?_
   refine Q4 hS (t:=61) (sz:=3) (cells:=(ys.map encRF).flatten) Xh (by omega) hid ?_
   repeat first|refine Gp ?_|refine Gw λw hS=>?_|refine Gb λb w hS=>?_
   exact⟨_,⟨rfl,rfl⟩,SL.into hS Xi⟩
 ·have hie:i=ys.length:=by omega
  have hc:cntK idR ys f=i:=cntK_eq hs f hi hlt λh=>by omega
  have hk:isK idR ys f=false:=by
   unfold isK;rw[hc,List.getElem?_eq_none (by omega)]
  rw[hc,hk]
  repeat first|refine Gp ?_|refine Gw λw hS=>?_|refine Gb λb w hS=>?_
  refine zE hS (t:=61) (sz:=3) (n:=ys.length) (cells:=(ys.map encRF).flatten) Xh ?_
  repeat first|refine Gp ?_|refine Gw λw hS=>?_|refine Gb λb w hS=>?_
  refine ze (λh=>absurd h (by omega)) (λ_=>?_)
  exact⟨_,⟨rfl,rfl⟩,SL.into hS Xi⟩
theorem isK_R{s:DS}{ys:List YF}(h:ys.map Prod.fst=s.R)(f:Int):isK PF.id s.R f=isK idR ys f:=by rw[← h];exact isK_map idR_fst ys f
theorem yt(xp:Nat)(s:DS)(fv:Value)(ys:List YF)(he:ys.map Prod.fst=s.R)(hs:SortedK PF.id s.R)(hn:ys.length≤100000)(f:Int)(needs:Bool):
  SP 156 [.pointer (some ⟨xp,0,none⟩),.int .i64 f,.bool needs] [.pt xp (rcells fv s) 29,.ob (FilesO fv ys)]
   (Gives (.int .i64 (if needs then s.find f else may s f)) [.pt xp (rcells fv s) 29,.ob (FilesO fv ys)]):=by
 intro W F w hS;apply vc156;unfold Vc156;(try simp only[app]at hS)
 have hs':SortedK PF.id (ys.map Prod.fst):=by rw[he];exact hs
 have hbad:may s f≠0→(if needs then s.find f else may s f)=may s f:=λh=>by
  unfold DS.find;rw[if_pos h];split<;>rfl
 have hgood:may s f=0→(if needs then s.find f else may s f)=if needs then (if isK idR ys f then 0 else 5) else 0:=λh=>by
  unfold DS.find;rw[if_neg (show ¬may s f≠0 by omega),isK_R he,h]
 generalize (if needs then s.find f else may s f)=r at *
 repeat first|refine Gp ?_|refine Gw λw hS=>?_|refine Gb λb w hS=>?_
 refine yO (λh=>?_) (λh=>?_)
 ·have hm:may s f=8:=by unfold may;rw[if_pos h]
  rw[hbad (by omega),hm]
  (exact⟨_,⟨rfl,rfl⟩,SL.into hS Xi⟩)
 ·repeat first|refine Gp ?_|refine Gw λw hS=>?_|refine Gb λb w hS=>?_
  refine ze (λh2=>?_) (λh2=>?_)
  ·have hm:may s f=1:=by unfold may;rw[if_neg (by rw[h];decide),if_pos (.inl h2)]
   rw[hbad (by omega),hm]
   (exact⟨_,⟨rfl,rfl⟩,SL.into hS Xi⟩)
  ·repeat first|refine Gp ?_|refine Gw λw hS=>?_|refine Gb λb w hS=>?_
   refine ze (λh3=>?_) (λh3=>?_)
   ·have hm:may s f=1:=by unfold may;rw[if_neg (by rw[h];decide),if_pos (.inr h3)]
    rw[hbad (by omega),hm]
    (exact⟨_,⟨rfl,rfl⟩,SL.into hS Xi⟩)
   ·have hm:may s f=0:=by unfold may;rw[if_neg (by rw[h];decide),if_neg (by omega)]
    rw[hgood hm]
    (apply zd (y9 xp s fv ys hs' hn f) hS;exact Xp;clear hS)
    (rintro v post ⟨rfl,rfl⟩ w hS;(try simp only[app]at hS);(repeat (first|refine Gp ?_|refine Gw λw hS=>?_|refine Gb λb w hS=>?_)))
    cases needs with
    | true=>
     refine zy ?_
     cases isK idR ys f with
     | true=>
      refine yA (zr ?_)
      (exact⟨_,⟨rfl,rfl⟩,SL.into hS Xi⟩)
     | false=>
      refine yA (zy ?_)
      (exact⟨_,⟨rfl,rfl⟩,SL.into hS Xi⟩)
    | false=>
     refine zr ?_
     (exact⟨_,⟨rfl,rfl⟩,SL.into hS Xi⟩)
theorem yV(xp:Nat)(s:DS)(fv:Value)(h0:s.off=false)(h1:0≤s.arm)(h2:s.arm≤9223372036854775807)(h3:s.ops≤100000):
  SP 157 [.pointer (some ⟨xp,0,none⟩)] [.pt xp (rcells fv s) 29] (Gives (.bool s.cnt.off) [.pt xp (rcells fv s.cnt) 29]):=by
 intro W F w hS;apply vc157;unfold Vc157;(try simp only[app]at hS)
 repeat first|refine Gp ?_|refine Gw λw hS=>?_|refine Gb λb w hS=>?_
 refine ze (λh=>?_) (λh=>?_)
 ·repeat first|refine Gp ?_|refine Gw λw hS=>?_|refine Gb λb w hS=>?_
  refine ze (λh4=>?_) (λh4=>?_)
  ·repeat first|refine Gp ?_|refine Gw λw hS=>?_|refine Gb λb w hS=>?_
   have e:s.cnt.off=true:=by simp[DS.cnt];omega
   have hS:SL W (.pt xp (rcells fv s.cnt) 29::F) w:=by
    unfold rcells;rw[e]
    simp only[DS.cnt,if_pos h]
    exact hS
   rw[e]
   (exact⟨_,⟨rfl,rfl⟩,SL.into hS Xi⟩)
  ·repeat first|refine Gp ?_|refine Gw λw hS=>?_|refine Gb λb w hS=>?_
   have e:s.cnt.off=false:=by simp[DS.cnt];omega
   have hS:SL W (.pt xp (rcells fv s.cnt) 29::F) w:=by
    unfold rcells;rw[e]
    rw[h0]at hS
    simp only[DS.cnt,if_pos h]
    exact hS
   rw[e,h0]
   (exact⟨_,⟨rfl,rfl⟩,SL.into hS Xi⟩)
 ·repeat first|refine Gp ?_|refine Gw λw hS=>?_|refine Gb λb w hS=>?_
  have e:s.cnt.off=false:=by simp[DS.cnt];omega
  have hS:SL W (.pt xp (rcells fv s.cnt) 29::F) w:=by
   unfold rcells;rw[e]
   rw[h0]at hS
   simp only[DS.cnt,if_neg h]
   exact hS
  rw[e,h0]
  (exact⟨_,⟨rfl,rfl⟩,SL.into hS Xi⟩)
theorem yk(g:Bool):SP 159 [.bool g] [] (Gives (.int .i64 (if g then 8 else 0)) []):=by
 intro W F w hS;apply vc159;unfold Vc159;(try simp only[app]at hS)
 cases g with
 | true=>(repeat (first|refine Gp ?_|refine Gw λw hS=>?_|refine Gb λb w hS=>?_));(exact⟨_,⟨rfl,rfl⟩,SL.into hS Xi⟩)
 | false=>(repeat (first|refine Gp ?_|refine Gw λw hS=>?_|refine Gb λb w hS=>?_));(exact⟨_,⟨rfl,rfl⟩,SL.into hS Xi⟩)
theorem FilesO.pt{W w:World}{l:List Chunk}{fv:Value}{ys:List YF}(h:SL W (.ob (FilesO fv ys)::l) w)(hn:0<ys.length):∃b cap rest,fv= .slice (some ⟨b,0,none⟩) ys.length cap∧SL W (.pt b ((ys.map encRF).flatten++rest) 61::l) w ∧
  ∀ys' w' l',ys'.length=ys.length→SL W (.pt b ((ys'.map encRF).flatten++rest) 61::l') w'→SL W (.ob (FilesO (.slice (some ⟨b,0,none⟩) ys.length cap) ys')::l') w':=by
 rcases OwnSl.open h with ⟨_,h0,_⟩|⟨b,cap,rest,rfl,hc,hl,hr,hS⟩
 ·omega
 ·refine⟨b,cap,rest,rfl,hS,λys' w' l' hlen h'=>?_⟩
  unfold FilesO
  rw[hlen]
  exact OwnSl.mk hc (by rw[flat_len encRF_len,hlen]) hr h'
theorem encRF_pt{ys:List YF}{rest:List Value}{j i o:Nat}(hj:j<ys.length)(ho:o=j*3+i){u:Value}(hu:(encRF ys[j])[i]?=some u):((ys.map encRF).flatten++rest)[o]?=some u:=by
 have h:=encRF_at hj ho hu
 rw[List.getElem?_append_left (List.getElem?_eq_some_iff.1 h).1];exact h
theorem encRF_set{ys:List YF}{rest:List Value}{j i o:Nat}(hj:j<ys.length)(ho:o=j*3+i)(hi:i<3){v:Value}{y:YF}(hy:(encRF ys[j]).set i v=encRF y):((ys.map encRF).flatten++rest).set o v=((ys.set j y).map encRF).flatten++rest:=by
 subst ho
 rw[List.set_append_left _ _ (by rw[flat_len encRF_len];omega),flat_set encRF_len ys j i hj y v hi hy]
structure AppI(R:List PF)(ys2:List YF)(i:Nat)(f:Int):Prop where
 lt:i<ys2.length
 at_:∀h:i<ys2.length,ys2[i].1=⟨f,((getK PF.id R f).getD (newF f)).safe,((getK PF.id R f).getD (newF f)).b⟩
 put:∀y:YF,y.1.id=f→(ys2.set i y).map Prod.fst=putK PF.id R y.1
 len:ys2.length≤R.length+1
theorem appI_old{R:List PF}{ys:List YF}(he:ys.map Prod.fst=R){f:Int}(hk:isK idR ys f=true):AppI R ys (cntK idR ys f) f:=by
 obtain⟨h1,h2⟩:=isK_true hk
 have hg:getK PF.id R f=some ys[cntK idR ys f].1:=by
  rw[← he,getK_map idR_fst]
  unfold getK;rw[if_pos hk,List.getElem?_eq_getElem h1];rfl
 refine⟨h1,λ_=>?_,λy hy=>?_,by rw[← he,List.length_map];omega⟩
 ·rw[hg]
  have h3:∀p:PF,p.id=f→p=⟨f,p.safe,p.b⟩:=by rintro ⟨a,b,c⟩ rfl;rfl
  exact h3 _ h2
 ·have hi:isK PF.id R y.1.id=true:=by rw[hy,← he,isK_map idR_fst];exact hk
  rw[putK_is hi,hy,← he,cntK_map idR_fst,List.map_set]
theorem appI_new{R:List PF}{ys:List YF}(he:ys.map Prod.fst=R){f:Int}(hk:isK idR ys f=false)(v:Value):AppI R (ys.take (cntK idR ys f)++[(newF f,v)]++ys.drop (cntK idR ys f)) (cntK idR ys f) f:=by
 have hle:=cntK_le (key:=idR) ys f
 have hg:getK PF.id R f=none:=by
  rw[← he,getK_map idR_fst]
  unfold getK;rw[if_neg (by rw[hk];decide)];rfl
 have hl:(ys.take (cntK idR ys f)).length=cntK idR ys f:=by rw[List.length_take];omega
 refine⟨by simp;omega,λh=>?_,λy hy=>?_,by rw[← he];simp;omega⟩
 ·rw[hg]
  rw[List.getElem_append_left (by simp;omega),List.getElem_append_right (by omega)]
  simp[hl];rfl
 ·have hi:isK PF.id R y.1.id=false:=by rw[hy,← he,isK_map idR_fst];exact hk
  unfold putK
  rw[hi,hy,← he,cntK_map idR_fst]
  rw[List.append_assoc,List.set_append_right _ _ (by omega),hl,Nat.sub_self]
  simp
theorem nilF_rd(H:Heap)(f:Int):RdSl H 1 (.slice none 0 0) (newF f).b.length ((newF f).b.map u8c):=RdSl.nil H 1
theorem encRF_one{H:Heap}{ys:List YF}(hB:RdB H ys):∀v∈(ys.map encRF).flatten,v.oneCell'=true:=by
 intro v hv
 obtain⟨l,hl,hv⟩:=List.mem_flatten.1 hv
 obtain⟨y,hy,rfl⟩:=List.mem_map.1 hl
 simp only[encRF,List.mem_cons,List.not_mem_nil,or_false]at hv
 rcases hv with rfl|rfl|rfl
 ·rfl
 ·rfl
 ·exact (hB y hy).one
theorem y8(H:Heap)(xp:Nat)(s:DS)(N:Nat)(hok:s.Ok N)(hops:s.ops≤100000)(hR:s.R.length≤90000)(f:Int)(bv:Value)(bs:List UInt8)(hb:RdSl H 1 bv bs.length (bs.map u8c))(hN:N+bs.length≤140737488355328):
  SP 84 [.pointer (some ⟨xp,0,none⟩),.int .i64 f,bv] [.ob (RDO H xp s),.mem H] (λv post=>v= .int .i64 (s.append f bs).2∧∃H',H.le H'∧post=[.ob (RDO H' xp (s.append f bs).1),.mem H']):=by
 intro W F w hS;apply vc84;unfold Vc84;(try simp only[app]at hS)
 obtain⟨fv,ys,⟨he,hrb⟩,hS⟩:=RDO.iff.1 hS
 have hyl:ys.length=s.R.length:=by rw[← he,List.length_map]
 (apply zd (yt xp s fv ys he hok.sorted (by omega) f false) hS;exact Xp;clear hS)
 rintro v post ⟨rfl,rfl⟩ w hS
 (try simp only[app]at hS)
 simp only[Bool.false_eq_true,if_false]
 unfold DS.append
 repeat first|refine Gp ?_|refine Gw λw hS=>?_|refine Gb λb w hS=>?_
 refine ze (λh=>?_) (λh=>?_)
 ·rw[if_pos h]
  exact⟨_,⟨rfl,H,Heap.le_refl H,rfl⟩,RDO.iff.2 ⟨fv,ys,⟨he,hrb⟩,SL.into hS Xi⟩⟩
 ·rw[if_neg h]
  have hm:may s f=0:=by omega
  obtain⟨h0,hf0,hf1⟩:=may_zero hm
  (apply zd (yV xp s fv h0 hok.arm0 hok.arm1 hops) hS;exact Xp;clear hS)
  (rintro v post ⟨rfl,rfl⟩ w hS;(try simp only[app]at hS);(repeat (first|refine Gp ?_|refine Gw λw hS=>?_|refine Gb λb w hS=>?_)))
  (apply zd (y9 xp s.cnt fv ys (by rw[he];exact hok.sorted) (by omega) f) hS;exact Xp;clear hS)
  (rintro v post ⟨rfl,rfl⟩ w hS;(try simp only[app]at hS);(repeat (first|refine Gp ?_|refine Gw λw hS=>?_|refine Gb λb w hS=>?_)))
  have hcl:=cntK_le (key:=idR) ys f
  have hAo:=appI_old he (f:=f)
  have hAn:=λhk=>appI_new he (f:=f) hk (.slice none 0 0)
  generalize hci:cntK idR ys f=i at *
  refine⟨λus w=>us=[]∧∃fv2 ys2,AppI s.R ys2 i f∧RdB H ys2∧SL W (.pt xp (rcells fv2 s.cnt) 29::.ob (FilesO fv2 ys2)::.mem H::F) w,?_,?_⟩
  ·cases hk:isK idR ys f with
   | true=>
    refine yA (zr ?_)
    exact⟨rfl,fv,ys,hAo hk,hrb,SL.into hS Xi⟩
   | false=>
    refine yA (zy ?_)
    repeat first|refine Gp ?_|refine Gw λw hS=>?_|refine Gb λb w hS=>?_
    have hS:=OwnSl.full (n:=0) (sz:=3) rfl hS
    refine Q8 hS (t:=61) (sz:=3) (n:=ys.length) (cells:=(ys.map encRF).flatten) Xh hcl ?_
    intro a cap hsrc
    have h1c:=encRF_one hrb
    refine zw (n:=0) (m:=i) hS .hd (hsrc _ _ hS Xh) (by rw[List.length_take,flat_len encRF_len];exact Nat.min_eq_left (Nat.mul_le_mul_right _ hcl)) rfl (λv hv=>h1c v (List.mem_of_mem_take hv)) (by omega) (by omega) ?_
    clear hS;intro v1 w hS
    rw[Nat.zero_add,List.nil_append,flat_take_n encRF_len]at hS
    refine ZW rfl ?_
    refine zD hS rfl ?_
    clear hS;intro b2 w hS
    refine zw (n:=i) (m:=1) (cells:=((ys.take i).map encRF).flatten) hS Xr (src_pt0 (cs:=encRF (newF f,Value.slice none 0 0)) hS .hd rfl) rfl rfl (by simp[encRF,Value.oneCell']) (by omega) (by omega) ?_
    clear hS;intro v2 w hS
    repeat first|refine Gp ?_|refine Gw λw hS=>?_|refine Gb λb w hS=>?_
    refine q9 hS (t:=61) (sz:=3) (n:=ys.length) (cells:=(ys.map encRF).flatten) Xh hcl ?_
    intro u hsrc2
    refine zw (n:=i+1) (m:=ys.length-i) (cells:=((ys.take i).map encRF).flatten++encRF (newF f,Value.slice none 0 0)) hS Xr (hsrc2 _ _ hS Xh) (by rw[List.length_drop,flat_len encRF_len,Nat.mul_sub_right_distrib]) rfl (λv hv=>h1c v (List.mem_of_mem_drop hv)) (by omega) (by omega) ?_
    clear hS;intro v3 w hS
    have hone:=hS.ownOne .hd
    repeat first|refine Gp ?_|refine Gw λw hS=>?_|refine Gb λb w hS=>?_
    rw[flat_drop_n encRF_len]at hS
    have e1:((ys.take i).map encRF).flatten++encRF (newF f,Value.slice none 0 0)++((ys.drop i).map encRF).flatten=((ys.take i++[(newF f,Value.slice none 0 0)]++ys.drop i).map encRF).flatten:=by simp
    have e2:i+1+(ys.length-i)=(ys.take i++[(newF f,Value.slice none 0 0)]++ys.drop i).length:=by simp;omega
    rw[e1,e2]at hS
    refine⟨v3,ys.take i++[(newF f,Value.slice none 0 0)]++ys.drop i,hAn hk,λy hy=>?_,SL.into hS Xi⟩
    rcases List.mem_append.1 hy with hy|hy
    ·rcases List.mem_append.1 hy with hy|hy
     ·exact hrb y (List.mem_of_mem_take hy)
     ·rw[List.mem_singleton]at hy;subst hy;exact nilF_rd H f
    ·exact hrb y (List.mem_of_mem_drop hy)
  ·clear hS hAo hAn hci hcl
   rintro w ⟨-,fv2,ys2,hA,hB,hS⟩
   have hi:=hA.lt
   have hat:=hA.at_ hi
   have hold:=hB _ (List.getElem_mem hi)
   have hgl:=getK_len (f:=f) hok.len
   have hlen2:=hA.len
   obtain⟨b0,cap,rest,rfl,hS,hback⟩:=FilesO.pt (SL.into hS (t:=.ob (FilesO fv2 ys2)::.pt xp (rcells fv2 s.cnt) 29::.mem H::F) Xi) (by omega)
   have hcell:((ys2.map encRF).flatten++rest)[0+i*3+2]?=some ys2[i].2:=encRF_pt hi (i:=2) (by omega) rfl
   have hb1:ys2[i].1.b.length≤N:=by rw[hat];exact hgl
   repeat first|refine Gp ?_|refine Gw λw hS=>?_|refine Gb λb w hS=>?_
   refine zC hi (zW (zS hS Xh hcell ?_))
   repeat first|refine Gp ?_|refine Gw λw hS=>?_|refine Gb λb w hS=>?_
   refine zS hS Xh hcell ?_
   repeat first|refine Gp ?_|refine Gw λw hS=>?_|refine Gb λb w hS=>?_
   have hS:=OwnSl.full (n:=0) (sz:=1) rfl hS
   refine zw (n:=0) (m:=ys2[i].1.b.length) hS .hd (src_rd hS Xh hold) (by simp) rfl (u8c_one _) (by omega) (by omega) ?_
   clear hS;intro v1 w hS
   rw[Nat.zero_add,List.nil_append]at hS
   repeat first|refine Gp ?_|refine Gw λw hS=>?_|refine Gb λb w hS=>?_
   refine zw (n:=ys2[i].1.b.length) (m:=bs.length) (cells:=ys2[i].1.b.map u8c) hS Xr (src_rd hS Xh hb) (by simp) rfl (u8c_one _) (by omega) (by omega) ?_
   clear hS;intro v2 w hS
   have hone:=hS.ownOne .hd
   repeat first|refine Gp ?_|refine Gw λw hS=>?_|refine Gb λb w hS=>?_
   refine zC hi (zW ?_)
   refine yW hS Xu hcell hone ?_
   clear hS;intro w hS
   have e1:ys2[i].1.b.map u8c++bs.map u8c=(ys2[i].1.b++bs).map u8c:=by rw[List.map_append]
   have e2:ys2[i].1.b.length+bs.length=(ys2[i].1.b++bs).length:=by rw[List.length_append]
   rw[e1,e2]at hS
   rw[encRF_set (y:=(⟨f,ys2[i].1.safe,ys2[i].1.b++bs⟩,v2)) hi (i:=2) (by omega) (by omega) (by
    rw[show ys2[i]=((⟨f,ys2[i].1.safe,ys2[i].1.b⟩:PF),ys2[i].2) from Prod.ext (by rw[hat]) rfl];rfl)]at hS
   obtain⟨H',h01,hR2,hS⟩:=zz (H:=H) (v:=v2) (n:=(ys2[i].1.b++bs).length) (sz:=1) (t:=5) (cells:=(ys2[i].1.b++bs).map u8c) hS Xp
   (apply zd (yk s.cnt.off) hS;exact Xp;clear hS)
   (rintro v post ⟨rfl,rfl⟩ w hS;(try simp only[app]at hS);(repeat (first|refine Gp ?_|refine Gw λw hS=>?_|refine Gb λb w hS=>?_)))
   refine⟨_,⟨by unfold DS.err;rfl,H',h01,rfl⟩,RDO.iff.2 ⟨Value.slice (some ⟨b0,0,none⟩) ys2.length cap,ys2.set i (⟨f,ys2[i].1.safe,ys2[i].1.b++bs⟩,v2),⟨?_,(hB.mono h01).set hR2⟩,?_⟩⟩
   ·show _=appF s.R f bs
    rw[hA.put _ rfl]
    unfold appF
    simp only[hat]
   ·have:=hback (ys2.set i (⟨f,ys2[i].1.safe,ys2[i].1.b++bs⟩,v2)) w (.pt xp (rcells (.slice (some ⟨b0,0,none⟩) ys2.length cap) s.cnt) 29::.mem H'::F) (by simp) (SL.into hS Xi)
    exact SL.into this Xi
theorem find_zero{s:DS}{f:Int}(h:s.find f=0):may s f=0∧isK PF.id s.R f=true:=by
 unfold DS.find at h
 by_cases hm:may s f=0
 ·rw[if_neg (show ¬may s f≠0 from λe=>e hm)]at h
  refine⟨hm,?_⟩
  by_cases hk:isK PF.id s.R f=true
  ·exact hk
  ·rw[if_neg hk]at h;cases h
 ·rw[if_pos hm]at h;exact absurd h hm
theorem getK_ys{R:List PF}{ys:List YF}(he:ys.map Prod.fst=R){f:Int}(hk:isK idR ys f=true):∃h:cntK idR ys f<ys.length,getK PF.id R f=some ys[cntK idR ys f].1∧ys[cntK idR ys f].1.id=f:=by
 obtain⟨h1,h2⟩:=isK_true hk
 refine⟨h1,?_,h2⟩
 rw[← he,getK_map idR_fst]
 unfold getK;rw[if_pos hk,List.getElem?_eq_getElem h1];rfl
theorem qY(H:Heap)(xp:Nat)(s:DS)(N:Nat)(hok:s.Ok N)(hops:s.ops≤100000)(hR:s.R.length≤100000)(f:Int):
  SP 85 [.pointer (some ⟨xp,0,none⟩),.int .i64 f] [.ob (RDO H xp s),.mem H] (Gives (.int .i64 (s.sync f).2) [.ob (RDO H xp (s.sync f).1),.mem H]):=by
 intro W F w hS;apply vc85;unfold Vc85;(try simp only[app]at hS)
 obtain⟨fv,ys,⟨he,hrb⟩,hS⟩:=RDO.iff.1 hS
 have hyl:ys.length=s.R.length:=by rw[← he,List.length_map]
 (apply zd (yt xp s fv ys he hok.sorted (by omega) f true) hS;exact Xp;clear hS)
 rintro v post ⟨rfl,rfl⟩ w hS
 (try simp only[app]at hS)
 simp only[if_true]
 unfold DS.sync
 repeat first|refine Gp ?_|refine Gw λw hS=>?_|refine Gb λb w hS=>?_
 refine ze (λh=>?_) (λh=>?_)
 ·rw[if_pos h]
  exact⟨_,⟨rfl,rfl⟩,RDO.iff.2 ⟨fv,ys,⟨he,hrb⟩,SL.into hS Xi⟩⟩
 ·rw[if_neg h]
  obtain⟨hm,hk⟩:=find_zero (s:=s) (f:=f) (by omega)
  rw[isK_R he]at hk
  obtain⟨h0,hf0,hf1⟩:=may_zero hm
  (apply zd (yV xp s fv h0 hok.arm0 hok.arm1 hops) hS;exact Xp;clear hS)
  (rintro v post ⟨rfl,rfl⟩ w hS;(try simp only[app]at hS);(repeat (first|refine Gp ?_|refine Gw λw hS=>?_|refine Gb λb w hS=>?_)))
  by_cases hc:s.cnt.off=true
  ·rw[if_pos hc,hc]
   refine zr ?_
   (apply zd (yk true) hS;exact Xp;clear hS)
   (rintro v post ⟨rfl,rfl⟩ w hS;(try simp only[app]at hS);(repeat (first|refine Gp ?_|refine Gw λw hS=>?_|refine Gb λb w hS=>?_)))
   exact⟨_,⟨rfl,rfl⟩,RDO.iff.2 ⟨fv,ys,⟨he,hrb⟩,SL.into hS Xi⟩⟩
  ·rw[if_neg hc,(by simpa using hc:s.cnt.off=false)]
   refine zy ?_
   (apply zd (y9 xp s.cnt fv ys (by rw[he];exact hok.sorted) (by omega) f) hS;exact Xp;clear hS)
   (rintro v post ⟨rfl,rfl⟩ w hS;(try simp only[app]at hS);(repeat (first|refine Gp ?_|refine Gw λw hS=>?_|refine Gb λb w hS=>?_)))
   obtain⟨hi,hg,hid⟩:=getK_ys he hk
   have hA:=appI_old he hk
   generalize cntK idR ys f=i at *
   obtain⟨b0,cap,rest,rfl,hS,hback⟩:=FilesO.pt (SL.into hS (t:=.ob (FilesO fv ys)::.pt xp (rcells fv s.cnt) 29::.mem H::F) Xi) (by omega)
   have hcell:((ys.map encRF).flatten++rest)[0+i*3+2]?=some ys[i].2:=encRF_pt hi (i:=2) (by omega) rfl
   have hcell1:((ys.map encRF).flatten++rest)[0+i*3+1]?=some (.int .i64 (ys[i].1.safe:Int)):=encRF_pt hi (i:=1) (by omega) rfl
   have hold:=hrb _ (List.getElem_mem hi)
   repeat first|refine Gp ?_|refine Gw λw hS=>?_|refine Gb λb w hS=>?_
   refine zC hi (zW (zS hS Xh hcell ?_))
   refine zq hold ?_
   repeat first|refine Gp ?_|refine Gw λw hS=>?_|refine Gb λb w hS=>?_
   refine zC hi (zW ?_)
   refine yW hS Xu hcell1 rfl ?_
   clear hS;intro w hS
   rw[encRF_set (y:=(⟨f,ys[i].1.b.length,ys[i].1.b⟩,ys[i].2)) hi (i:=1) (by omega) (by omega) (by rw[← hid];rfl)]at hS
   (apply zd (yk false) hS;exact Xp;clear hS)
   (rintro v post ⟨rfl,rfl⟩ w hS;(try simp only[app]at hS);(repeat (first|refine Gp ?_|refine Gw λw hS=>?_|refine Gb λb w hS=>?_)))
   refine⟨_,⟨rfl,rfl⟩,RDO.iff.2 ⟨Value.slice (some ⟨b0,0,none⟩) ys.length cap,ys.set i (⟨f,ys[i].1.b.length,ys[i].1.b⟩,ys[i].2),⟨?_,hrb.set hold⟩,?_⟩⟩
   ·show _=updF s.R f _
    rw[hA.put _ rfl,updF_some hg]
   ·have:=hback (ys.set i (⟨f,ys[i].1.b.length,ys[i].1.b⟩,ys[i].2)) w (.pt xp (rcells (.slice (some ⟨b0,0,none⟩) ys.length cap) s.cnt) 29::.mem H::F) (by simp) (SL.into hS Xi)
    exact SL.into this Xi
theorem Yj(H:Heap)(xp:Nat)(s:DS)(N:Nat)(hok:s.Ok N)(hN:N≤140737488355328)(hops:s.ops≤100000)(hR:s.R.length≤100000)(f n:Int):
  SP 74 [.pointer (some ⟨xp,0,none⟩),.int .i64 f,.int .i64 n] [.ob (RDO H xp s),.mem H] (λv post=>v= .int .i64 (s.cut f n).2∧∃H',H.le H'∧post=[.ob (RDO H' xp (s.cut f n).1),.mem H']):=by
 intro W F w hS;apply vc74;unfold Vc74;(try simp only[app]at hS)
 obtain⟨fv,ys,⟨he,hrb⟩,hS⟩:=RDO.iff.1 hS
 have hyl:ys.length=s.R.length:=by rw[← he,List.length_map]
 (apply zd (yt xp s fv ys he hok.sorted (by omega) f true) hS;exact Xp;clear hS)
 rintro v post ⟨rfl,rfl⟩ w hS
 (try simp only[app]at hS)
 simp only[if_true]
 unfold DS.cut
 repeat first|refine Gp ?_|refine Gw λw hS=>?_|refine Gb λb w hS=>?_
 refine ze (λh=>?_) (λh=>?_)
 ·rw[if_pos h]
  exact⟨_,⟨rfl,H,Heap.le_refl H,rfl⟩,RDO.iff.2 ⟨fv,ys,⟨he,hrb⟩,SL.into hS Xi⟩⟩
 ·rw[if_neg h]
  obtain⟨hm,hk⟩:=find_zero (s:=s) (f:=f) (by omega)
  rw[isK_R he]at hk
  obtain⟨h0,hf0,hf1⟩:=may_zero hm
  (apply zd (y9 xp s fv ys (by rw[he];exact hok.sorted) (by omega) f) hS;exact Xp;clear hS)
  (rintro v post ⟨rfl,rfl⟩ w hS;(try simp only[app]at hS);(repeat (first|refine Gp ?_|refine Gw λw hS=>?_|refine Gb λb w hS=>?_)))
  obtain⟨hi,hg,hid⟩:=getK_ys he hk
  have hA:=appI_old he hk
  generalize cntK idR ys f=i at *
  have hlenF:lenF s.R f=ys[i].1.b.length:=by unfold lenF;rw[hg]
  have hold:=hrb _ (List.getElem_mem hi)
  have hb1:ys[i].1.b.length≤N:=hok.len _ (by rw[← he];exact List.mem_map.2 ⟨_,List.getElem_mem hi,rfl⟩)
  rw[hlenF]
  refine ze (λh3=>?_) (λh3=>?_)
  ·rw[if_pos (.inl h3)]
   exact⟨_,⟨rfl,H,Heap.le_refl H,rfl⟩,RDO.iff.2 ⟨fv,ys,⟨he,hrb⟩,SL.into hS Xi⟩⟩
  ·obtain⟨b0,cap,rest,rfl,hS,hback⟩:=FilesO.pt (SL.into hS (t:=.ob (FilesO fv ys)::.pt xp (rcells fv s) 29::.mem H::F) Xi) (by omega)
   have hcell:((ys.map encRF).flatten++rest)[0+i*3+2]?=some ys[i].2:=encRF_pt hi (i:=2) (by omega) rfl
   repeat first|refine Gp ?_|refine Gw λw hS=>?_|refine Gb λb w hS=>?_
   refine zC hi (zW (zS hS Xh hcell ?_))
   refine zq hold ?_
   repeat first|refine Gp ?_|refine Gw λw hS=>?_|refine Gb λb w hS=>?_
   refine ze (λh4=>?_) (λh4=>?_)
   ·rw[if_pos (.inr h4)]
    have:=hback ys w (.pt xp (rcells (.slice (some ⟨b0,0,none⟩) ys.length cap) s) 29::.mem H::F) rfl (SL.into hS Xi)
    exact⟨_,⟨rfl,H,Heap.le_refl H,rfl⟩,RDO.iff.2 ⟨_,ys,⟨he,hrb⟩,SL.into this Xi⟩⟩
   ·rw[if_neg (by omega)]
    obtain⟨k,rfl⟩:∃k:Nat,n=(k:Int):=⟨n.toNat,by omega⟩
    rw[Int.toNat_natCast]
    (apply zd (yV xp s (.slice (some ⟨b0,0,none⟩) ys.length cap) h0 hok.arm0 hok.arm1 hops) hS;exact Xp;clear hS)
    (rintro v post ⟨rfl,rfl⟩ w hS;(try simp only[app]at hS);(repeat (first|refine Gp ?_|refine Gw λw hS=>?_|refine Gb λb w hS=>?_)))
    by_cases hc:s.cnt.off=true
    ·rw[if_pos hc,hc]
     refine zr ?_
     (apply zd (yk true) hS;exact Xp;clear hS)
     (rintro v post ⟨rfl,rfl⟩ w hS;(try simp only[app]at hS);(repeat (first|refine Gp ?_|refine Gw λw hS=>?_|refine Gb λb w hS=>?_)))
     have:=hback ys w (.pt xp (rcells (.slice (some ⟨b0,0,none⟩) ys.length cap) s.cnt) 29::.mem H::F) rfl (SL.into hS Xi)
     exact⟨_,⟨rfl,H,Heap.le_refl H,rfl⟩,RDO.iff.2 ⟨_,ys,⟨he,hrb⟩,SL.into this Xi⟩⟩
    ·rw[if_neg hc,(by simpa using hc:s.cnt.off=false)]
     refine zy ?_
     repeat first|refine Gp ?_|refine Gw λw hS=>?_|refine Gb λb w hS=>?_
     refine zC hi (zW (zS hS Xh hcell ?_))
     refine qi hold (k:=k) (by omega) ?_
     intro v' hcut
     repeat first|refine Gp ?_|refine Gw λw hS=>?_|refine Gb λb w hS=>?_
     refine zS hS Xh hcell ?_
     repeat first|refine Gp ?_|refine Gw λw hS=>?_|refine Gb λb w hS=>?_
     have hS:=OwnSl.full (n:=0) (sz:=1) rfl hS
     refine zw (n:=0) (m:=k) hS .hd (src_rd hS Xh hcut) (by rw[List.length_take,List.length_map];omega) rfl (λv hv=>u8c_one _ v (List.mem_of_mem_take hv)) (by omega) (by omega) ?_
     clear hS;intro v2 w hS
     have hone:=hS.ownOne .hd
     rw[Nat.zero_add,List.nil_append]at hS
     repeat first|refine Gp ?_|refine Gw λw hS=>?_|refine Gb λb w hS=>?_
     refine zC hi (zW ?_)
     refine yW hS Xu hcell hone ?_
     clear hS;intro w hS
     rw[encRF_set (y:=(⟨f,ys[i].1.safe,ys[i].1.b.take k⟩,v2)) hi (i:=2) (by omega) (by omega) (by rw[← hid];rfl)]at hS
     have hi':i<(ys.set i (⟨f,ys[i].1.safe,ys[i].1.b.take k⟩,v2)).length:=by simpa using hi
     have hcell1:(((ys.set i (⟨f,ys[i].1.safe,ys[i].1.b.take k⟩,v2)).map encRF).flatten++rest)[0+i*3+1]?=some (.int .i64 (ys[i].1.safe:Int)):=encRF_pt hi' (i:=1) (by omega) (by simp[encRF])
     repeat first|refine Gp ?_|refine Gw λw hS=>?_|refine Gb λb w hS=>?_
     refine zC hi (zW (zS hS Xh hcell1 ?_))
     repeat first|refine Gp ?_|refine Gw λw hS=>?_|refine Gb λb w hS=>?_
     refine zC hi (zW ?_)
     refine yW hS Xu hcell1 rfl ?_
     clear hS;intro w hS
     have emin:min (ys[i].1.safe:Int) (k:Int)=((min ys[i].1.safe k:Nat):Int):=by omega
     rw[emin]at hS
     rw[encRF_set (y:=(⟨f,min ys[i].1.safe k,ys[i].1.b.take k⟩,v2)) hi' (i:=1) (by omega) (by omega) (by simp[encRF]),List.set_set]at hS
     have e1:(ys[i].1.b.map u8c).take (k*1)=(ys[i].1.b.take k).map u8c:=by rw[Nat.mul_one,List.map_take]
     have e2:(ys[i].1.b.take k).length=k:=by rw[List.length_take];omega
     rw[e1]at hS
     obtain⟨H',h01,hR2,hS⟩:=zz (H:=H) (v:=v2) (n:=k) (sz:=1) (t:=5) (cells:=(ys[i].1.b.take k).map u8c) hS Xp
     (apply zd (yk false) hS;exact Xp;clear hS)
     (rintro v post ⟨rfl,rfl⟩ w hS;(try simp only[app]at hS);(repeat (first|refine Gp ?_|refine Gw λw hS=>?_|refine Gb λb w hS=>?_)))
     refine⟨_,⟨rfl,H',h01,rfl⟩,RDO.iff.2 ⟨Value.slice (some ⟨b0,0,none⟩) ys.length cap,ys.set i (⟨f,min ys[i].1.safe k,ys[i].1.b.take k⟩,v2),⟨?_,(hrb.mono h01).set (by rw[e2];exact hR2)⟩,?_⟩⟩
     ·show _=updF s.R f _
      rw[hA.put _ rfl,updF_some hg];rfl
     ·have:=hback (ys.set i (⟨f,min ys[i].1.safe k,ys[i].1.b.take k⟩,v2)) w (.pt xp (rcells (.slice (some ⟨b0,0,none⟩) ys.length cap) s.cnt) 29::.mem H'::F) (by simp) (SL.into hS Xi)
      exact SL.into this Xi
theorem y7(H:Heap)(xp:Nat)(s:DS)(N:Nat)(hok:s.Ok N)(hops:s.ops≤100000)(hR:s.R.length≤100000)(f:Int):
  SP 72 [.pointer (some ⟨xp,0,none⟩),.int .i64 f] [.ob (RDO H xp s),.mem H] (Gives (.int .i64 (s.remove f).2) [.ob (RDO H xp (s.remove f).1),.mem H]):=by
 intro W F w hS;apply vc72;unfold Vc72;(try simp only[app]at hS)
 obtain⟨fv,ys,⟨he,hrb⟩,hS⟩:=RDO.iff.1 hS
 have hyl:ys.length=s.R.length:=by rw[← he,List.length_map]
 (apply zd (yt xp s fv ys he hok.sorted (by omega) f true) hS;exact Xp;clear hS)
 rintro v post ⟨rfl,rfl⟩ w hS
 (try simp only[app]at hS)
 simp only[if_true]
 unfold DS.remove
 repeat first|refine Gp ?_|refine Gw λw hS=>?_|refine Gb λb w hS=>?_
 refine ze (λh=>?_) (λh=>?_)
 ·rw[if_pos h]
  exact⟨_,⟨rfl,rfl⟩,RDO.iff.2 ⟨fv,ys,⟨he,hrb⟩,SL.into hS Xi⟩⟩
 ·rw[if_neg h]
  obtain⟨hm,hk⟩:=find_zero (s:=s) (f:=f) (by omega)
  rw[isK_R he]at hk
  obtain⟨h0,hf0,hf1⟩:=may_zero hm
  (apply zd (yV xp s fv h0 hok.arm0 hok.arm1 hops) hS;exact Xp;clear hS)
  (rintro v post ⟨rfl,rfl⟩ w hS;(try simp only[app]at hS);(repeat (first|refine Gp ?_|refine Gw λw hS=>?_|refine Gb λb w hS=>?_)))
  by_cases hc:s.cnt.off=true
  ·rw[if_pos hc,hc]
   refine zr ?_
   (apply zd (yk true) hS;exact Xp;clear hS)
   (rintro v post ⟨rfl,rfl⟩ w hS;(try simp only[app]at hS);(repeat (first|refine Gp ?_|refine Gw λw hS=>?_|refine Gb λb w hS=>?_)))
   exact⟨_,⟨rfl,rfl⟩,RDO.iff.2 ⟨fv,ys,⟨he,hrb⟩,SL.into hS Xi⟩⟩
  ·rw[if_neg hc,(by simpa using hc:s.cnt.off=false)]
   refine zy ?_
   (apply zd (y9 xp s.cnt fv ys (by rw[he];exact hok.sorted) (by omega) f) hS;exact Xp;clear hS)
   (rintro v post ⟨rfl,rfl⟩ w hS;(try simp only[app]at hS);(repeat (first|refine Gp ?_|refine Gw λw hS=>?_|refine Gb λb w hS=>?_)))
   obtain⟨hi,hg,hid⟩:=getK_ys he hk
   have hdel:delK idR ys f=ys.eraseIdx (cntK idR ys f):=by unfold delK;rw[if_pos hk]
   have hdelm:=delK_map idR_fst ys f
   rw[he,hdel]at hdelm
   generalize cntK idR ys f=i at *
   have h1c:=encRF_one hrb
   refine Q8 hS (t:=61) (sz:=3) (n:=ys.length) (cells:=(ys.map encRF).flatten) Xh (Nat.le_of_lt hi) ?_
   intro a cap hsrc
   repeat first|refine Gp ?_|refine Gw λw hS=>?_|refine Gb λb w hS=>?_
   refine q9 hS (t:=61) (sz:=3) (n:=ys.length) (cells:=(ys.map encRF).flatten) Xh hi ?_
   intro u hsrc2
   repeat first|refine Gp ?_|refine Gw λw hS=>?_|refine Gb λb w hS=>?_
   have hS:=OwnSl.full (n:=0) (sz:=3) rfl hS
   refine zw (n:=0) (m:=i) hS .hd (hsrc _ _ hS Xh) (by rw[List.length_take,flat_len encRF_len];exact Nat.min_eq_left (Nat.mul_le_mul_right _ (Nat.le_of_lt hi))) rfl (λv hv=>h1c v (List.mem_of_mem_take hv)) (by omega) (by omega) ?_
   clear hS;intro v1 w hS
   rw[Nat.zero_add,List.nil_append,flat_take_n encRF_len]at hS
   repeat first|refine Gp ?_|refine Gw λw hS=>?_|refine Gb λb w hS=>?_
   refine zw (n:=i) (m:=ys.length-(i+1)) (cells:=((ys.take i).map encRF).flatten) hS Xr (hsrc2 _ _ hS Xh) (by rw[List.length_drop,flat_len encRF_len,Nat.mul_sub_right_distrib]) rfl (λv hv=>h1c v (List.mem_of_mem_drop hv)) (by omega) (by omega) ?_
   clear hS;intro v3 w hS
   have hone:=hS.ownOne .hd
   repeat first|refine Gp ?_|refine Gw λw hS=>?_|refine Gb λb w hS=>?_
   rw[flat_drop_n encRF_len]at hS
   have e1:((ys.take i).map encRF).flatten++((ys.drop (i+1)).map encRF).flatten=((ys.eraseIdx i).map encRF).flatten:=by rw[List.eraseIdx_eq_take_drop_succ];simp
   have e2:i+(ys.length-(i+1))=(ys.eraseIdx i).length:=by rw[List.length_eraseIdx,if_pos hi];omega
   rw[e1,e2]at hS
   (apply zd (yk false) hS;exact Xp;clear hS)
   (rintro v post ⟨rfl,rfl⟩ w hS;(try simp only[app]at hS);(repeat (first|refine Gp ?_|refine Gw λw hS=>?_|refine Gb λb w hS=>?_)))
   exact⟨_,⟨rfl,rfl⟩,RDO.iff.2 ⟨v3,ys.eraseIdx i,⟨hdelm,λy hy=>hrb y (List.mem_of_mem_eraseIdx hy)⟩,SL.into hS Xi⟩⟩
theorem Qw(H:Heap)(xp:Nat)(s:DS)(n:Int):
  SP 45 [.pointer (some ⟨xp,0,none⟩),.int .i64 n] [.ob (RDO H xp s)] (Gives (.tuple #[]) [.ob (RDO H xp (s.armed n))]):=by
 intro W F w hS;apply vc45;unfold Vc45;(try simp only[app]at hS)
 obtain⟨fv,ys,he,hS⟩:=RDO.iff.1 hS
 repeat first|refine Gp ?_|refine Gw λw hS=>?_|refine Gb λb w hS=>?_
 have hS:SL W (.pt xp (rcells fv (s.armed n)) 29::.ob (FilesO fv ys)::F) w:=hS
 exact⟨_,⟨rfl,rfl⟩,RDO.iff.2 ⟨fv,ys,he,SL.into hS Xi⟩⟩
theorem qO(X:Chunk)(v:Value)(q:List UInt8)(hq:Rdb X v q)(hN:q.length≤10000000000):SP 71 [v] [X] (ReadQ2 X q):=by
 intro W F w hS;apply vc71;unfold Vc71;(try simp only[app]at hS)
 (apply zd (qT X v q hq hN) hS;exact Xp;clear hS)
 rintro r post ⟨u,es,he,rfl,rfl⟩ w hS;(try simp only[app]at hS)
 have hr:=readS_es he
 have hno:∀{w:World},readS q=none→SL W (X::F) w→∃post,ReadQ2 X q (.tuple #[.int .i64 0,.slice none 0 0,.int .i64 0,.int .i64 3]) post∧SL W (app post F) w:=λh hS=>⟨[X],by unfold ReadQ2;rw[h];exact⟨rfl,rfl⟩,hS⟩
 repeat first|refine Gp ?_|refine Gw λw hS=>?_|refine Gb λb w hS=>?_
 refine zE hS (v:=u) (t:=54) (sz:=1) (n:=es.length) (cells:=vals es) Xh ?_
 repeat first|refine Gp ?_|refine Gw λw hS=>?_|refine Gb λb w hS=>?_
 refine ze (λh=>?_) (λh=>?_)
 ·have:es=[]:=List.eq_nil_of_length_eq_zero (by omega)
  subst this
  exact hno hr (SL.into hS Xi)
 ·obtain⟨e,es,rfl⟩:∃e es',es=e::es':=by
   cases es with
   | nil=>simp at h
   | cons e es=>exact⟨e,es,rfl⟩
  have hr:readS q=(hdOf e.2).map λk=>(k,byts es,(scanA q).2):=hr
  refine yI (j:=0) hS (v:=u) (t:=54) (n:=(e::es).length) (cells:=vals (e::es)) Xh (by simp) (u:=e.1) rfl ?_
  have hS:=zh.take (t:=0) (x:=e) (SL.into hS (t:=.ob (zh BEntO (e::es))::.ob (OwnSl u 54 1 (e::es).length (vals (e::es)))::X::F) Xi) rfl
  have e3:(e::es).eraseIdx 0=es:=rfl
  rw[e3]at hS
  have hR:Rdb (.ob (BEntO e)) e.1 e.2:=Rdb.own
  have hel:e.2.length≤1048576:=(scanA_ok2 (q.length+1) q (by omega)).1 e.2 (by rw[← he];simp[byts])
  (apply zd (Za (.ob (BEntO e)) e.1 e.2 hR (by omega)) hS;exact Xp;clear hS)
  intro r post hQ w hS
  unfold DecQ at hQ
  unfold hdOf at hr
  cases hd:decF e.2 with
  | error k=>
   rw[hd]at hQ hr
   obtain⟨rfl,rfl⟩:=hQ
   (try simp only[app]at hS)
   repeat first|refine Gp ?_|refine Gw λw hS=>?_|refine Gb λb w hS=>?_
   have hk:k≠0:=by
    intro hk
    rw[decF_eq]at hd
    split at hd
    ·cases hd
    ·rename_i h0
     cases hd;exact h0 hk
   refine ze (λ_=>?_) (λh=>absurd hk h)
   exact hno hr (SL.into hS Xi)
  | ok l=>
   rw[hd]at hQ hr
   obtain⟨y,rfl,rfl⟩:=hQ
   (try simp only[app]at hS)
   repeat first|refine Gp ?_|refine Gw λw hS=>?_|refine Gb λb w hS=>?_
   refine ze (λh=>absurd rfl h) (λ_=>?_)
   refine zE hS (v:=y) (t:=165) (sz:=3) (n:=l.length) (cells:=(l.map fdcells).flatten) Xh ?_
   repeat first|refine Gp ?_|refine Gw λw hS=>?_|refine Gb λb w hS=>?_
   refine ze (λh1=>?_) (λh1=>?_)
   ·have:hdF l=none:=by
     match l,h1 with
     | [],_=>rfl
     | [x],h1=>simp at h1
     | _::_::_,_=>rfl
    simp only[this,Option.map_none]at hr
    exact hno hr (SL.into hS Xi)
   ·obtain⟨x,rfl⟩:∃x,l=[x]:=List.length_eq_one_iff.1 (by omega)
    have hx:hdF [x]=if x.kind=1∧1≤x.n∧x.n≤1099511627776 then some x.n else none:=rfl
    simp only[hx]at hr
    refine zQ (j:=0) (i:=0) (x:=x) (xs:=[x]) hS (v:=y) (t:=165) (sz:=3) (n:=1) Xh fdcells_len rfl (by omega) (u:=.int .i64 x.kind) rfl ?_
    repeat first|refine Gp ?_|refine Gw λw hS=>?_|refine Gb λb w hS=>?_
    refine ze (λh2=>?_) (λh2=>?_)
    ·rw[if_neg (by omega)]at hr
     exact hno hr (SL.into hS Xi)
    ·refine zQ (j:=0) (i:=1) (x:=x) (xs:=[x]) hS (v:=y) (t:=165) (sz:=3) (n:=1) Xh fdcells_len rfl (by omega) (u:=.int .i64 x.n) rfl ?_
     repeat first|refine Gp ?_|refine Gw λw hS=>?_|refine Gb λb w hS=>?_
     refine ze (λh3=>?_) (λh3=>?_)
     ·rw[if_neg (by omega)]at hr
      exact hno hr (SL.into hS Xi)
     ·refine zQ (j:=0) (i:=1) (x:=x) (xs:=[x]) hS (v:=y) (t:=165) (sz:=3) (n:=1) Xh fdcells_len rfl (by omega) (u:=.int .i64 x.n) rfl ?_
      repeat first|refine Gp ?_|refine Gw λw hS=>?_|refine Gb λb w hS=>?_
      refine ze (λh4=>?_) (λh4=>?_)
      ·rw[if_neg (by omega)]at hr
       exact hno hr (SL.into hS Xi)
      ·rw[if_pos ⟨by omega,by omega,by omega⟩]at hr
       repeat first|refine Gp ?_|refine Gw λw hS=>?_|refine Gb λb w hS=>?_
       refine zQ (j:=0) (i:=1) (x:=x) (xs:=[x]) hS (v:=y) (t:=165) (sz:=3) (n:=1) Xh fdcells_len rfl (by omega) (u:=.int .i64 x.n) rfl ?_
       have hS:=OwnSo.of (SL.into hS (t:=.ob (OwnSl u 54 1 (e::es).length (vals (e::es)))::.ob (zh BEntO es)::X::F) Xi)
       refine Yp (k:=1) hS (by simp) ?_
       clear hS;intro z hS
       have e1:(e::es).length-1=es.length:=by simp
       have e2:(vals (e::es)).drop (1*1)=vals es:=rfl
       rw[e1,e2]at hS
       refine⟨[.ob (OwnSo z 54 1 es.length (vals es)),.ob (zh BEntO es),X],?_,SL.into hS Xi⟩
       unfold ReadQ2
       rw[hr]
       exact⟨z,es,rfl,rfl,rfl⟩
def ownY(base:Int)(ys:List YF):List YF:=ys.filter λy=>decide (base≤y.1.id∧y.1.id<base+4096)
theorem ownY_ids{base:Int}{ys:List YF}{R:List PF}(h:ys.map Prod.fst=R):(ownY base ys).map (λy=>y.1.id)=idsG base R:=by
 subst h
 unfold idsG ownY
 rw[List.map_map,List.filter_map]
 rfl
theorem ownY_mem{base:Int}{ys:List YF}{y:YF}(h:y∈ownY base ys):y∈ys:=(List.mem_filter.1 h).1
theorem Qu(H:Heap)(xp:Nat)(s:DS)(fv:Value)(ys:List YF)(hrb:RdB H ys)(base:Int)(b0:0≤base)(b1:base≤12288)(hyl:ys.length≤100000):
  SP 70 [.pointer (some ⟨xp,0,none⟩),.int .i64 base] [.pt xp (rcells fv s) 29,.ob (FilesO fv ys)]
   (λv post=>post=[.ob (FilesO v (ownY base ys)),.pt xp (rcells fv s) 29,.ob (FilesO fv ys)]):=by
 intro W F w hS;apply vc70;unfold Vc70;(try simp only[app]at hS)
 have hS0:SL W (.ob (FilesO (.slice none 0 0) (ownY base (ys.take 0)))::.pt xp (rcells fv s) 29::.ob (FilesO fv ys)::F) w:=OwnSl.nil hS
 refine⟨λvs w=>∃(u:Value) (i:Nat),i≤ys.length∧vs=[u,.int .i64 i]∧SL W (.ob (FilesO u (ownY base (ys.take i)))::.pt xp (rcells fv s) 29::.ob (FilesO fv ys)::F) w,
  λvs _=>match vs with|[_,.int _ i]=>(ys.length-i).toNat|_=>0,⟨_,0,by omega,rfl,hS0⟩,?_⟩
 clear hS hS0
 rintro v5 v6 w ⟨u,i,hi,hvs,hS⟩
 cases hvs
 repeat first|refine Gp ?_|refine Gw λw hS=>?_|refine Gb λb w hS=>?_
 refine zE hS (v:=fv) (t:=61) (sz:=3) (n:=ys.length) (cells:=(ys.map encRF).flatten) Xh ?_
 repeat first|refine Gp ?_|refine Gw λw hS=>?_|refine Gb λb w hS=>?_
 refine ze (λh=>?_) (λh=>?_)
 ·have hil:i<ys.length:=by omega
  have hx:ys[i]?=some ys[i]:=List.getElem?_eq_getElem hil
  have hstep:ownY base (ys.take (i+1))=ownY base (ys.take i)++if base≤ys[i].1.id∧ys[i].1.id<base+4096 then [ys[i]] else []:=by
   unfold ownY
   rw[List.take_add_one,hx,List.filter_append]
   congr 1
   simp only[Option.toList_some,List.filter_cons,List.filter_nil,decide_eq_true_eq]
  have hol:(ownY base (ys.take i)).length≤100000:=by
   unfold ownY
   have:=List.length_filter_le (λy:YF=>decide (base≤y.1.id∧y.1.id<base+4096)) (ys.take i)
   rw[List.length_take]at this;omega
  have hone:=(hrb _ (List.getElem_mem hil)).one
  generalize ys[i]=y at *
  repeat first|refine Gp ?_|refine Gw λw hS=>?_|refine Gb λb w hS=>?_
  refine zQ (i:=0) hS (v:=fv) (t:=61) Xh encRF_len hx hil (u:=.int .i64 y.1.id) rfl ?_
  repeat first|refine Gp ?_|refine Gw λw hS=>?_|refine Gb λb w hS=>?_
  refine ze (λh1=>?_) (λh1=>?_)
  ·repeat first|refine Gp ?_|refine Gw λw hS=>?_|refine Gb λb w hS=>?_
   refine zQ (i:=0) hS (v:=fv) (t:=61) Xh encRF_len hx hil (u:=.int .i64 y.1.id) rfl ?_
   repeat first|refine Gp ?_|refine Gw λw hS=>?_|refine Gb λb w hS=>?_
   refine ze (λh2=>?_) (λh2=>?_)
   ·rw[if_pos ⟨by omega,h2⟩]at hstep
    repeat first|refine Gp ?_|refine Gw λw hS=>?_|refine Gb λb w hS=>?_
    refine Yn hS (v:=fv) (t:=61) Xh encRF_len hx hil ?_
    refine zD (cells:=encRF y) hS rfl ?_
    clear hS;intro p w hS
    have h1c:∀v∈encRF y,v.oneCell'=true:=by
     intro v hv
     simp only[encRF,List.mem_cons,List.not_mem_nil,or_false]at hv
     rcases hv with rfl|rfl|rfl
     ·rfl
     ·rfl
     ·exact hone
    refine zw (m:=1) (cs:=encRF y) hS Xr (src_pt0 hS .hd rfl) rfl rfl h1c (by omega) (by omega) ?_
    clear hS;intro u' w hS
    repeat first|refine Gp ?_|refine Gw λw hS=>?_|refine Gb λb w hS=>?_
    have e1:(ownY base (ys.take i)).length+1=(ownY base (ys.take (i+1))).length:=by rw[hstep,List.length_append];rfl
    have e2:((ownY base (ys.take i)).map encRF).flatten++encRF y=((ownY base (ys.take (i+1))).map encRF).flatten:=by rw[hstep];simp
    rw[e1,e2]at hS
    exact⟨⟨u',i+1,by omega,rfl,SL.into hS Xi⟩,by dsimp only;omega⟩
   ·rw[if_neg (by omega),List.append_nil]at hstep
    repeat first|refine Gp ?_|refine Gw λw hS=>?_|refine Gb λb w hS=>?_
    exact⟨⟨_,i+1,by omega,rfl,by rw[hstep];exact hS⟩,by dsimp only;omega⟩
  ·rw[if_neg (by omega),List.append_nil]at hstep
   repeat first|refine Gp ?_|refine Gw λw hS=>?_|refine Gb λb w hS=>?_
   exact⟨⟨_,i+1,by omega,rfl,by rw[hstep];exact hS⟩,by dsimp only;omega⟩
 ·obtain rfl:i=ys.length:=by omega
  rw[List.take_length]at hS
  exact⟨_,rfl,hS⟩
def tornI(t:Option PTorn):Int:=match t with
 | none=>-1
 | some x=>x.file
abbrev rlcells(sv:Value)(xp:Nat)(base size t:Int):List Value:=[.pointer (some ⟨xp,0,none⟩),.int .i64 base,.int .i64 size,sv,.int .i64 t]
abbrev RowR(sv:Value)(xs:List XSeg):Chunk:=.ob (OwnSo sv 157 4 xs.length (xs.map xcells).flatten)
def RLogO(lp xp:Nat)(g:PLog):zG:=HEx λx:Value × List XSeg=>zT (x.2.map XSeg.pl=g.segs) [.pt lp (rlcells x.1 xp g.base g.size (tornI g.torn)) 152,RowR x.1 x.2,.ob (zh XSegO x.2)]
theorem RLogO.iff{W w:World}{lp xp:Nat}{g:PLog}{l:List Chunk}:SL W (.ob (RLogO lp xp g)::l) w↔∃sv xs,xs.map XSeg.pl=g.segs∧SL W (.pt lp (rlcells sv xp g.base g.size (tornI g.torn)) 152::RowR sv xs::.ob (zh XSegO xs)::l) w:=by
 unfold RLogO
 simp only[SL.ex,SL.fact,List.cons_append,List.nil_append]
 exact⟨λ⟨x,h1,h2⟩=>⟨x.1,x.2,h1,h2⟩,λ⟨a,b,h1,h2⟩=>⟨(a,b),h1,h2⟩⟩
theorem RLogO.close{W w:World}{lp xp:Nat}{g:PLog}{l F:List Chunk}{sv:Value}{xs:List XSeg}(h:SL W l w)(hx:xs.map XSeg.pl=g.segs)(k:Into (.pt lp (rlcells sv xp g.base g.size (tornI g.torn)) 152::RowR sv xs::.ob (zh XSegO xs)::F) l):SL W (app [.ob (RLogO lp xp g)] F) w:=
 RLogO.iff.2 ⟨sv,xs,hx,h.into k⟩
theorem RLogO.closeN{W w:World}{lp xp:Nat}{L:List PSeg}{base size:Int}{l F:List Chunk}{sv:Value}{xs:List XSeg}(h:SL W l w)(hx:xs.map XSeg.pl=L)(k:Into (.pt lp (rlcells sv xp base size (-1)) 152::RowR sv xs::.ob (zh XSegO xs)::F) l):SL W (app [.ob (RLogO lp xp ⟨L,base,size,none⟩)] F) w:=
 RLogO.iff.2 ⟨sv,xs,hx,h.into k⟩
theorem RLogO.openN{W w:World}{lp xp:Nat}{L:List PSeg}{base size:Int}{F:List Chunk}(h:SL W (.ob (RLogO lp xp ⟨L,base,size,none⟩)::F) w):∃sv xs,xs.map XSeg.pl=L∧SL W (.pt lp (rlcells sv xp base size (-1)) 152::RowR sv xs::.ob (zh XSegO xs)::F) w:=RLogO.iff.1 h
section
variable {W w:World} {l:List Chunk}
theorem s_segRo{v:Value}{xs:List XSeg}{j:Nat}{k:IntKind}{K:Value→Prop}(h:SL W l w)(m:Has (RowR v xs) l)(hj:j<xs.length)(hK:K (.agg (xcells xs[j]).toArray)):zj 4 v (.int k (j:Int)) λp=>zi 4 p w K:=by
 refine yo h m hj λb o hb=>⟨⟨b,o,none⟩,xcells xs[j],rfl,rfl,λi u hu=>?_,hK⟩
 rw[Addr.add_lit]
 have hi:i<4:=(List.getElem?_eq_some_iff.1 hu).1
 exact hb i u hi (flat_get xcells_len hj hu)
theorem ye{v u:Value}{xs:List XSeg}{i j:Nat}{k:IntKind}{K:Value→Prop}(h:SL W l w)(m:Has (RowR v xs) l)(hj:j<xs.length)(hu:(xcells xs[j])[i]?=some u)(hK:K u):zj 4 v (.int k (j:Int)) λp=>za i p λq=>HLd q w K:=by
 refine yo h m hj λb o hb=>?_
 refine zW ?_
 have hi:i<4:=(List.getElem?_eq_some_iff.1 hu).1
 exact⟨_,u,rfl,hb i u hi (flat_get xcells_len hj hu),hK⟩
end
theorem z7(lp xp:Nat)(sv:Value)(xs:List XSeg)(base size t:Int)(hl:xs.length≤1000000000000000):SP 73 [.pointer (some ⟨lp,0,none⟩)] [.pt lp (rlcells sv xp base size t) 152,RowR sv xs]
  (Gives (.int .i64 ((xs.length:Int)-1)) [.pt lp (rlcells sv xp base size t) 152,RowR sv xs]):=by
 intro W F w hS;apply vc73;unfold Vc73;(try simp only[app]at hS)
 repeat first|refine Gp ?_|refine Gw λw hS=>?_|refine Gb λb w hS=>?_
 refine zL hS (v:=sv) (t:=157) (sz:=4) (n:=xs.length) (cells:=(xs.map xcells).flatten) Xh ?_
 repeat first|refine Gp ?_|refine Gw λw hS=>?_|refine Gb λb w hS=>?_
 exact⟨_,⟨rfl,rfl⟩,hS⟩
theorem yG(lp xp:Nat)(g:PLog){M:Nat}(hg:g.Ok M)(hM:M≤1000000000000):SP 94 [.pointer (some ⟨lp,0,none⟩)] [.ob (RLogO lp xp g)] (Gives (.int .i64 (lowG g.segs)) [.ob (RLogO lp xp g)]):=by
 intro W F w hS;apply vc94;unfold Vc94;(try simp only[app]at hS)
 obtain⟨sv,xs,hx,hS⟩:=RLogO.iff.1 hS
 obtain⟨h1,h2,_,_⟩:=hg.xs hx
 repeat first|refine Gp ?_|refine Gw λw hS=>?_|refine Gb λb w hS=>?_
 refine zL hS (v:=sv) (t:=157) (sz:=4) (n:=xs.length) (cells:=(xs.map xcells).flatten) Xh ?_
 repeat first|refine Gp ?_|refine Gw λw hS=>?_|refine Gb λb w hS=>?_
 refine ze (λh0=>?_) (λh0=>?_)
 ·have:xs=[]:=List.eq_nil_of_length_eq_zero (by omega)
  have e:lowG g.segs=1:=by rw[← hx,this];rfl
  rw[e]
  exact⟨_,⟨rfl,rfl⟩,RLogO.close hS hx Xi⟩
 ·cases xs with
  | nil=>simp at h0
  | cons x xs=>
   have e:lowG g.segs=x.first:=by rw[← hx];rfl
   rw[e]
   repeat first|refine Gp ?_|refine Gw λw hS=>?_|refine Gb λb w hS=>?_
   refine ye (j:=0) (i:=1) hS Xh (by simp) (u:=.int .i64 x.first) rfl ?_
   exact⟨_,⟨rfl,rfl⟩,RLogO.close hS hx Xi⟩
theorem yP(lp xp:Nat)(sv:Value)(xs:List XSeg)(base size t:Int){M:Nat}(h1:∀s∈xs.map XSeg.pl,SegOk s M)(h2:xs.length≤1000000000000)(hM:M≤1000000000000):SP 86 [.pointer (some ⟨lp,0,none⟩)] [.pt lp (rlcells sv xp base size t) 152,RowR sv xs] (Gives (.int .i64 (headG (xs.map XSeg.pl))) [.pt lp (rlcells sv xp base size t) 152,RowR sv xs]):=by
 intro W F w hS;apply vc86;unfold Vc86;(try simp only[app]at hS)
 repeat first|refine Gp ?_|refine Gw λw hS=>?_|refine Gb λb w hS=>?_
 refine zL hS (v:=sv) (t:=157) (sz:=4) (n:=xs.length) (cells:=(xs.map xcells).flatten) Xh ?_
 repeat first|refine Gp ?_|refine Gw λw hS=>?_|refine Gb λb w hS=>?_
 refine ze (λh0=>?_) (λh0=>?_)
 ·have:xs=[]:=List.eq_nil_of_length_eq_zero (by omega)
  have e:headG (xs.map XSeg.pl)=0:=by rw[this];rfl
  rw[e]
  exact⟨_,⟨rfl,rfl⟩,SL.into hS Xi⟩
 ·repeat first|refine Gp ?_|refine Gw λw hS=>?_|refine Gb λb w hS=>?_
  have hj:xs.length-1<xs.length:=by omega
  have hg2:headG (xs.map XSeg.pl)=(xs[xs.length-1]'hj).first-1+((xs[xs.length-1]'hj).es.length:Nat):=by
   unfold headG
   rw[List.getLast?_map,List.getLast?_eq_getElem?,List.getElem?_eq_getElem hj]
   show (xs[xs.length-1]'hj).pl.next-1=_
   rw[xseg_next];omega
  have hok:=h1 _ (List.mem_map.2 ⟨_,List.getElem_mem hj,rfl⟩)
  have e:((xs.length:Nat):Int)-1=((xs.length-1:Nat):Int):=by omega
  have k1:1≤(xs[xs.length-1]'hj).first:=hok.n0
  have k2:(xs[xs.length-1]'hj).first≤1099511627776:=hok.n1
  have k3:(xs[xs.length-1]'hj).es.length≤M:=by have:=hok.ln;simpa [XSeg.pl,byts_len] using this
  have hseg:∀{w:World} {l:List Chunk} {K:Value→Prop},SL W l w→Has (RowR sv xs) l→K (.agg #[.int .i64 (xs[xs.length-1]'hj).file,.int .i64 (xs[xs.length-1]'hj).first,.int .i64 ((xs[xs.length-1]'hj).size:Nat),.slice (xs[xs.length-1]'hj).a (xs[xs.length-1]'hj).es.length (xs[xs.length-1]'hj).c])→zj 4 sv (.int .i64 ((xs.length-1:Nat):Int)) λp=>zi 4 p w K:=λhS m hK=>s_segRo hS m hj hK
  have hsegP:∀{w:World} {l:List Chunk} {K:Value→Prop},SL W l w→Has (RowR sv xs) l→(∀p,(∀(w':World) (l':List Chunk) (K':Value→Prop),SL W l' w'→Has (RowR sv xs) l'→K' (.agg #[.int .i64 (xs[xs.length-1]'hj).file,.int .i64 (xs[xs.length-1]'hj).first,.int .i64 ((xs[xs.length-1]'hj).size:Nat),.slice (xs[xs.length-1]'hj).a (xs[xs.length-1]'hj).es.length (xs[xs.length-1]'hj).c])→zi 4 p w' K')→K p)→zj 4 sv (.int .i64 ((xs.length-1:Nat):Int)) K:=by
   intro w l K hS m hK
   obtain⟨l2,r⟩:=m.rem
   rcases OwnSo.open (hS.perm r.perm) with ⟨_,h00,_⟩|⟨b,pre,cap,rest,hsv,hc,hl,hr,_⟩
   ·omega
   ·rw[hsv]
    refine zC hj (hK _ λw' l' K' hS' m' hK'=>?_)
    obtain⟨l3,r3⟩:=m'.rem
    rcases OwnSo.open (hS'.perm r3.perm) with ⟨_,h00,_⟩|⟨b',pre',cap',rest',hsv',hc',hl',hr',hS3⟩
    ·omega
    ·rw[hsv]at hsv'
     simp only[Value.slice.injEq,Option.some.injEq,Addr.mk.injEq,true_and,and_true]at hsv'
     obtain⟨⟨rfl,hpl⟩,rfl⟩:=hsv'
     rw[hpl]
     refine⟨_,_,rfl,rfl,λi u hu=>?_,hK'⟩
     rw[Addr.add_lit]
     refine hS3.cell .hd ?_
     have hi:i<4:=(List.getElem?_eq_some_iff.1 hu).1
     have:=flat_get xcells_len hj (i:=i) (u:=u) hu
     rw[Nat.add_assoc,List.getElem?_append_right (by omega),Nat.add_sub_cancel_left,List.getElem?_append_left (List.getElem?_eq_some_iff.1 this).1]
     exact this
  rw[hg2]
  generalize xs[xs.length-1]'hj=x at *
  refine⟨?_,?_⟩
  ·(apply zd (z7 lp xp sv xs base size t (by omega)) hS;exact Xp;clear hS)
   (rintro v post ⟨rfl,rfl⟩ w hS;(try simp only[app]at hS);(repeat (first|refine Gp ?_|refine Gw λw hS=>?_|refine Gb λb w hS=>?_)))
   rw[e]
   refine hsegP hS Xh λp hp=>?_
   refine hp _ _ _ hS Xh ?_
   repeat first|refine Gp ?_|refine Gw λw hS=>?_|refine Gb λb w hS=>?_
   refine hp _ _ _ hS Xh ?_
   repeat first|refine Gp ?_|refine Gw λw hS=>?_|refine Gb λb w hS=>?_
   exact⟨_,⟨rfl,rfl⟩,SL.into hS Xi⟩
  ·repeat first|refine Gp ?_|refine Gw λw hS=>?_|refine Gb λb w hS=>?_
   (apply zd (z7 lp xp sv xs base size t (by omega)) hS;exact Xp;clear hS)
   (rintro v post ⟨rfl,rfl⟩ w hS;(try simp only[app]at hS);(repeat (first|refine Gp ?_|refine Gw λw hS=>?_|refine Gb λb w hS=>?_)))
   rw[e]
   refine hseg hS Xh ?_
   repeat first|refine Gp ?_|refine Gw λw hS=>?_|refine Gb λb w hS=>?_
   exact⟨_,⟨rfl,rfl⟩,SL.into hS Xi⟩
theorem z8(lp xp:Nat)(g:PLog){M:Nat}(hg:g.Ok M)(hM:M≤1000000000000):SP 86 [.pointer (some ⟨lp,0,none⟩)] [.ob (RLogO lp xp g)] (Gives (.int .i64 (headG g.segs)) [.ob (RLogO lp xp g)]):=by
 intro W F w hS
 obtain⟨sv,xs,hx,hS⟩:=RLogO.iff.1 hS
 obtain⟨h1,h2,_,_⟩:=hg.xs hx
 (apply zd (yP lp xp sv xs g.base g.size (tornI g.torn) h1 (by omega) hM) hS;exact Xp;clear hS)
 rintro v post ⟨rfl,rfl⟩ w hS;(try simp only[app]at hS)
 rw[hx]
 exact⟨_,⟨rfl,rfl⟩,RLogO.close hS hx Xi⟩
theorem YD(lp xp:Nat)(g:PLog)(n:Int){M:Nat}(hg:GOk g M)(hM:M≤1000000000000)(hn : -9000000000000000000≤n∧n≤9000000000000000000):
  SP 95 [.pointer (some ⟨lp,0,none⟩),.int .i64 n] [.ob (RLogO lp xp g)] (ReadLQ [.ob (RLogO lp xp g)] (readG g.segs n)):=by
 intro W F w hS;apply vc95;unfold Vc95;(try simp only[app]at hS)
 (apply zd (yG lp xp g hg.ok hM) hS;exact Xp;clear hS)
 (rintro v post ⟨rfl,rfl⟩ w hS;(try simp only[app]at hS);(repeat (first|refine Gp ?_|refine Gw λw hS=>?_|refine Gb λb w hS=>?_)))
 refine ze (λh1=>?_) (λh1=>?_)
 ·rw[readG_low g.segs n hg.seq (λs _=>by omega) h1]
  exact⟨_,⟨rfl,rfl⟩,hS⟩
 ·repeat first|refine Gp ?_|refine Gw λw hS=>?_|refine Gb λb w hS=>?_
  (apply zd (z8 lp xp g hg.ok hM) hS;exact Xp;clear hS)
  (rintro v post ⟨rfl,rfl⟩ w hS;(try simp only[app]at hS);(repeat (first|refine Gp ?_|refine Gw λw hS=>?_|refine Gb λb w hS=>?_)))
  refine ze (λh2=>?_) (λh2=>?_)
  ·rw[readG_high g.segs n hg.seq h2]
   exact⟨_,⟨rfl,rfl⟩,hS⟩
  ·have hfr:findR g.segs n=readG g.segs n:=findR_eq g.segs n hg.seq λs hs=>by
    cases hL:g.segs with
    | nil=>rw[hL]at hs;cases hs
    | cons a r=>
     rw[hL]at hs h1
     cases hs
     have:¬n<s.first:=h1
     omega
   rw[← hfr]
   obtain⟨sv,xs,hx,hS⟩:=RLogO.iff.1 hS
   obtain⟨hok,hl,_,_⟩:=hg.ok.xs hx
   have hseq:SeqG (xs.map XSeg.pl):=by rw[hx];exact hg.seq
   have hhd0:∀s,((xs.drop 0).map XSeg.pl).head?=some s→s.first≤n:=by
    intro s hs
    rw[List.drop_zero]at hs
    cases xs with
    | nil=>cases hs
    | cons a r=>
     cases hs
     have:¬n<lowG g.segs:=h1
     rw[← hx]at this
     have:¬n<a.pl.first:=this
     omega
   rw[← hx]
   refine⟨λvs w=>∃i:Nat,i≤xs.length∧vs=[.int .i64 i]∧findR (xs.map XSeg.pl) n=findR ((xs.drop i).map XSeg.pl) n∧(∀s,((xs.drop i).map XSeg.pl).head?=some s→s.first≤n)∧SL W (.pt lp (rlcells sv xp g.base g.size (tornI g.torn)) 152::RowR sv xs::.ob (zh XSegO xs)::F) w,
    λvs _=>match vs with|[.int _ i]=>xs.length-i.toNat|_=>0,⟨0,by omega,rfl,rfl,hhd0,SL.into hS Xi⟩,?_⟩
   clear hS hhd0
   rintro v6 w ⟨i,hi,hv,hr,hlo,hS⟩
   cases hv
   rw[hr]
   repeat first|refine Gp ?_|refine Gw λw hS=>?_|refine Gb λb w hS=>?_
   refine zL hS (v:=sv) (t:=157) (sz:=4) (n:=xs.length) (cells:=(xs.map xcells).flatten) Xh ?_
   repeat first|refine Gp ?_|refine Gw λw hS=>?_|refine Gb λb w hS=>?_
   refine ze (λh0=>?_) (λh0=>?_)
   ·have hj:i<xs.length:=by omega
    have hxj:xs[i]?=some xs[i]:=List.getElem?_eq_getElem hj
    have hok:=hok _ (List.mem_map.2 ⟨_,List.getElem_mem hj,rfl⟩)
    have hdr:(xs.drop i).map XSeg.pl=xs[i].pl::(xs.drop (i+1)).map XSeg.pl:=by rw[List.drop_eq_getElem_cons hj];rfl
    have hsd:=hseq.drop i
    rw[← List.map_drop,hdr]at hsd
    rw[hdr]at hlo ⊢
    have hlo0:=hlo _ rfl
    have hstep:findR (xs[i].pl::(xs.drop (i+1)).map XSeg.pl) n=if n-xs[i].pl.first<xs[i].pl.l.length then xs[i].pl.l[(n-xs[i].pl.first).toNat]? else findR ((xs.drop (i+1)).map XSeg.pl) n:=rfl
    rw[hstep]
    have hnext:¬n-xs[i].pl.first<xs[i].pl.l.length→∀s,((xs.drop (i+1)).map XSeg.pl).head?=some s→s.first≤n:=by
     intro h s hs
     cases hL:(xs.drop (i+1)).map XSeg.pl with
     | nil=>rw[hL]at hs;cases hs
     | cons a r=>
      rw[hL]at hs hsd
      cases hs
      have:=hsd.1
      simp only[PSeg.next]at this
      omega
    have k1:=hok.n0
    have k2:=hok.n1
    repeat first|refine Gp ?_|refine Gw λw hS=>?_|refine Gb λb w hS=>?_
    refine ye (i:=1) hS Xh hj (u:=.int .i64 xs[i].first) rfl ?_
    have e1:xs[i].pl.first=xs[i].first:=rfl
    have e2:xs[i].pl.l.length=xs[i].es.length:=by simp[XSeg.pl,byts_len]
    have e3:xs[i].pl.l=byts xs[i].es:=rfl
    rw[e1]at k1 k2 hlo0
    repeat first|refine Gp ?_|refine Gw λw hS=>?_|refine Gb λb w hS=>?_
    refine ye (i:=3) hS Xh hj (u:=.slice xs[i].a xs[i].es.length xs[i].c) rfl ?_
    repeat first|refine Gp ?_|refine Gw λw hS=>?_|refine Gb λb w hS=>?_
    refine ze (λh3=>?_) (λh3=>?_)
    ·rw[if_pos (by rw[e1,e2];exact h3)]
     obtain⟨j,hjn⟩:=Int.eq_ofNat_of_zero_le (show 0≤n-xs[i].first by omega)
     have hjl:j<xs[i].es.length:=by omega
     repeat first|refine Gp ?_|refine Gw λw hS=>?_|refine Gb λb w hS=>?_
     have hS:=OwnSl.full (n:=0) (sz:=1) rfl hS
     refine ye (i:=3) hS Xh hj (u:=.slice xs[i].a xs[i].es.length xs[i].c) rfl ?_
     rw[e1,hjn]
     have hS:=zh.take (SL.into hS (t:=.ob (zh XSegO xs)::.ob (OwnSl (.slice (some ⟨b,0,none⟩) 0 0) 5 1 0 [])::.pt lp (rlcells sv xp g.base g.size (tornI g.torn)) 152::RowR sv xs::F) Xi) hxj
     have hS:=XSegO.iff.1 hS
     unfold XSeg.lv at hS
     refine yo (j:=j) hS .hd hjl λp o hb=>?_
     have hej:xs[i].es[j]?=some xs[i].es[j]:=List.getElem?_eq_getElem hjl
     have hval:(vals xs[i].es)[j*1+0]?=some xs[i].es[j].1:=by simp[vals,hjl]
     refine⟨_,_,rfl,hb 0 _ (by omega) hval,?_⟩
     have hS:=zh.take (SL.into hS (t:=.ob (zh BEntO xs[i].es)::.ob (OwnSo (.slice xs[i].a xs[i].es.length xs[i].c) 54 1 xs[i].es.length (vals xs[i].es))::.ob (zh XSegO (xs.eraseIdx i))::.ob (OwnSl (.slice (some ⟨b,0,none⟩) 0 0) 5 1 0 [])::.pt lp (rlcells sv xp g.base g.size (tornI g.torn)) 152::RowR sv xs::F) Xi) hej
     have hbl:xs[i].es[j].2.length≤1048576:=hok.bl _ (List.mem_map.2 ⟨_,List.getElem_mem hjl,rfl⟩)
     have hby:xs[i].pl.l[((j:Int)).toNat]?=some xs[i].es[j].2:=by rw[e3];simp[byts,hjl]
     rw[hby]
     have hR:Rdb (.ob (BEntO xs[i].es[j])) xs[i].es[j].1 xs[i].es[j].2:=Rdb.own
     refine zw (t:=5) (sz:=1) (n:=0) (cells:=[]) (m:=xs[i].es[j].2.length) (cs:=xs[i].es[j].2.map u8c) hS Xr (hR.src hS .hd) (by simp) rfl (u8c_one _) (by omega) (by omega) ?_
     clear hS;intro u w hS
     rw[Nat.zero_add,List.nil_append]at hS
     have hS:=zh.back (SL.into hS (t:=.ob (BEntO xs[i].es[j])::.ob (zh BEntO (xs[i].es.eraseIdx j))::.ob (OwnSo (.slice xs[i].a xs[i].es.length xs[i].c) 54 1 xs[i].es.length (vals xs[i].es))::.ob (OwnSl u 5 1 xs[i].es[j].2.length (xs[i].es[j].2.map u8c))::.ob (zh XSegO (xs.eraseIdx i))::.pt lp (rlcells sv xp g.base g.size (tornI g.torn)) 152::RowR sv xs::F) Xi) hej
     have hS:=(XSegO.iff (x:=xs[i])).2 (SL.into hS (t:=.ob (OwnSo (.slice xs[i].a xs[i].es.length xs[i].c) 54 1 xs[i].es.length (vals xs[i].es))::.ob (zh BEntO xs[i].es)::.ob (OwnSl u 5 1 xs[i].es[j].2.length (xs[i].es[j].2.map u8c))::.ob (zh XSegO (xs.eraseIdx i))::.pt lp (rlcells sv xp g.base g.size (tornI g.torn)) 152::RowR sv xs::F) Xi)
     have hS:=zh.back (SL.into hS (t:=.ob (XSegO xs[i])::.ob (zh XSegO (xs.eraseIdx i))::.ob (OwnSl u 5 1 xs[i].es[j].2.length (xs[i].es[j].2.map u8c))::.pt lp (rlcells sv xp g.base g.size (tornI g.torn)) 152::RowR sv xs::F) Xi) hxj
     have hS:=RLogO.close (lp:=lp) (xp:=xp) (F:=.ob (OwnSl u 5 1 xs[i].es[j].2.length (xs[i].es[j].2.map u8c))::F) hS hx Xi
     exact⟨_,⟨u,rfl,rfl⟩,SL.into hS Xi⟩
    ·rw[if_neg (by rw[e1,e2];exact h3)]
     repeat first|refine Gp ?_|refine Gw λw hS=>?_|refine Gb λb w hS=>?_
     exact⟨⟨i+1,by omega,rfl,rfl,hnext (by rw[e1,e2];exact h3),SL.into hS Xi⟩,by simp only[Int.toNat_natCast];omega⟩
   ·have:xs.drop i=[]:=List.drop_eq_nil_of_le (by omega)
    rw[this]
    exact⟨_,⟨rfl,rfl⟩,RLogO.close hS hx Xi⟩
def ROpenQ(H:Heap)(xp:Nat)(y:DS × Except Int PLog)(r:Value)(post:List Chunk):Prop:=match y.2 with
 | .error e=>e≠0∧r= .tuple #[.pointer none,.int .i64 e]∧∃H',H.le H'∧post=[.ob (RDO H' xp y.1),.mem H']
 | .ok g=>∃(lp:Nat) (H':Heap),H.le H'∧r= .tuple #[.pointer (some ⟨lp,0,none⟩),.int .i64 0]∧post=[.ob (RLogO lp xp g),.ob (RDO H' xp y.1),.mem H']
structure RAt(R:List PF)(ids:List Int)(i:Nat)(L:List PSeg)(wh:Bool)(next:Int)(M:Nat):Prop where
 le:i≤ids.length
 eq:loadsG R ids none [] true=loadsG R (ids.drop i) (if i=0 then none else ids[i-1]?) L wh
 len:(wh=true∧L.length=i)∨(wh=false∧i=ids.length∧L.length+1=i)
 next:0<i→wh=true→next=headG L+1
 ok:∀s∈L,SegOk s M
theorem qA(H:Heap)(xp:Nat)(s:DS)(base size:Int){N:Nat}(hok:s.Ok N)(hN:N≤1000000000)(hR:s.R.length≤100000)(hops:s.ops≤100000):
  SP 14 [.pointer (some ⟨xp,0,none⟩),.int .i64 base,.int .i64 size] [.ob (RDO H xp s),.mem H] (ROpenQ H xp (openG s base size)):=by
 intro W F w hS;apply vc14;unfold Vc14;(try simp only[app]at hS)
 have hE:∀{w:World} {e:Int},openG s base size=(s,.error e)→e≠0→SL W (.ob (RDO H xp s)::.mem H::F) w→∃post,ROpenQ H xp (openG s base size) (.tuple #[.pointer none,.int .i64 e]) post∧SL W (app post F) w:=λh he hS=>⟨[.ob (RDO H xp s),.mem H],by rw[h];exact⟨he,rfl,H,Heap.le_refl H,rfl⟩,hS⟩
 by_cases hbd:base<0∨12288<base∨size<64∨65536<size
 ·have e:openG s base size=(s,.error 1):=by unfold openG;rw[if_pos hbd]
  repeat first|refine Gp ?_|refine Gw λw hS=>?_|refine Gb λb w hS=>?_
  refine ze (λh=>hE e (by decide) hS) (λh1=>?_)
  repeat first|refine Gp ?_|refine Gw λw hS=>?_|refine Gb λb w hS=>?_
  refine ze (λh=>hE e (by decide) hS) (λh2=>?_)
  repeat first|refine Gp ?_|refine Gw λw hS=>?_|refine Gb λb w hS=>?_
  refine ze (λh=>hE e (by decide) hS) (λh3=>?_)
  repeat first|refine Gp ?_|refine Gw λw hS=>?_|refine Gb λb w hS=>?_
  refine ze (λh=>hE e (by decide) hS) (λh4=>by omega)
 ·repeat first|refine Gp ?_|refine Gw λw hS=>?_|refine Gb λb w hS=>?_
  refine ze (λh=>by omega) (λ_=>?_)
  repeat first|refine Gp ?_|refine Gw λw hS=>?_|refine Gb λb w hS=>?_
  refine ze (λh=>by omega) (λ_=>?_)
  repeat first|refine Gp ?_|refine Gw λw hS=>?_|refine Gb λb w hS=>?_
  refine ze (λh=>by omega) (λ_=>?_)
  repeat first|refine Gp ?_|refine Gw λw hS=>?_|refine Gb λb w hS=>?_
  refine ze (λh=>by omega) (λ_=>?_)
  obtain⟨fv,ys,⟨he,hrb⟩,hS⟩:=RDO.iff.1 hS
  have hyl:ys.length=s.R.length:=by rw[← he,List.length_map]
  have hcl:∀{w:World} {l F':List Chunk},SL W l w→Pick [.pt xp (rcells fv s) 29,.ob (FilesO fv ys)] l F'→SL W (.ob (RDO H xp s)::F') w:=λh k=>RDO.iff.2 ⟨fv,ys,⟨he,hrb⟩,h.pick k⟩
  repeat first|refine Gp ?_|refine Gw λw hS=>?_|refine Gb λb w hS=>?_
  refine yO (λho=>?_) (λho=>?_)
  ·have e:openG s base size=(s,.error 8):=by unfold openG;rw[if_neg hbd,if_pos ho]
   exact hE e (by decide) (SL.into (hcl hS Xp) Xi)
  ·have eo:openG s base size=match loadsG s.R (idsG base s.R) none [] true with
    | none=>(s,.error 3)
    | some (L,whole)=>if (beginG L s (idsG base s.R) whole).2≠0 then ((beginG L s (idsG base s.R) whole).1,.error (beginG L s (idsG base s.R) whole).2) else ((beginG L s (idsG base s.R) whole).1,.ok ⟨L,base,size,none⟩):=by
    unfold openG;rw[if_neg hbd,if_neg (by rw[ho];decide)];rfl
   have hi:∀f∈idsG base s.R,base≤f∧f<base+4096:=λf hf=>idsG_mem hf
   have hil:=idsG_len base s.R
   have hids:=ownY_ids (base:=base) he
   repeat first|refine Gp ?_|refine Gw λw hS=>?_|refine Gb λb w hS=>?_
   refine⟨_,rfl,zJ hS ?_⟩
   clear hS;intro lp w hS
   (apply zd (Qu H xp s fv ys hrb base (by omega) (by omega) (by omega)) hS;exact Xp;clear hS)
   rintro ov post rfl w hS;(try simp only[app]at hS)
   have hS:=OwnSo.nil0 (a:=none) (t:=157) (sz:=4) hS
   have hS:=zh.nil (A:=XSegO) hS
   have hS:=SL.into hS (t:=.pt lp (rlcells (.slice none 0 0) xp base size (-1)) 152::.ob (OwnSo (.slice none 0 0) 157 4 0 [])::.ob (zh XSegO [])::.ob (FilesO ov (ownY base ys))::.pt xp (rcells fv s) 29::.ob (FilesO fv ys)::.mem H::F) Xi
   have hS:=(RLogO.iff (g:=⟨[],base,size,none⟩)).2 ⟨_,[],rfl,hS⟩
   have hzm:∀y∈ownY base ys,y∈ys:=λy hy=>ownY_mem hy
   generalize hzs:ownY base ys=zs at *
   generalize hidd:idsG base s.R=ids at *
   have hzl:zs.length=ids.length:=by rw[← hids,List.length_map]
   have hget:∀j (h:j<zs.length) (h':j<ids.length),ids[j]=zs[j].1.id:=λj h h'=>by
    have:ids[j]?=some zs[j].1.id:=by rw[← hids,List.getElem?_map,List.getElem?_eq_getElem h];rfl
    rw[List.getElem?_eq_getElem h']at this
    exact Option.some.inj this
   have hgK:∀j (h:j<zs.length),getK PF.id s.R zs[j].1.id=some zs[j].1:=λj h=>getK_of hok.sorted (by rw[← he];exact List.mem_map.2 ⟨_,hzm _ (List.getElem_mem h),rfl⟩)
   have hE3:∀{w:World} {l F':List Chunk},loadsG s.R ids none [] true=none→SL W (.ob (RDO H xp s)::.mem H::F) w→∃post,ROpenQ H xp (openG s base size) (.tuple #[.pointer none,.int .i64 3]) post∧SL W (app post F) w:=λh hS=>hE (by rw[eo,h]) (by decide) hS
   have hRA0:RAt s.R ids 0 [] true 0 (N+100000):=⟨Nat.zero_le _,rfl,.inl ⟨rfl,rfl⟩,λh=>by omega,by simp⟩
   refine⟨λvs w=>∃(i:Nat) (next:Int) (L:List PSeg) (wh:Bool),vs=[.int .i64 next,.int .i64 i]∧RAt s.R ids i L wh next (N+100000)∧SL W (.ob (RLogO lp xp ⟨L,base,size,none⟩)::.ob (FilesO ov zs)::.pt xp (rcells fv s) 29::.ob (FilesO fv ys)::.mem H::F) w,
    λvs _=>match vs with|[_,.int _ i]=>(ids.length-i).toNat|_=>0,⟨0,0,[],true,rfl,hRA0,SL.into hS Xi⟩,?_⟩
   clear hS hRA0
   rintro v10 v11 w ⟨i,next,L,wh,hvs,hA,hS⟩
   cases hvs
   have hile:=hA.le
   have hLl:L.length≤100000:=by rcases hA.len with ⟨_,h⟩|⟨_,_,h⟩<;>omega
   have hLO:(⟨L,base,size,none⟩:PLog).Ok (N+100000):=⟨hA.ok,by show 0≤base;omega,by show base≤12288;omega,by show 64≤size;omega,by show size≤65536;omega,by show L.length≤_;omega⟩
   refine zE hS (v:=ov) (t:=61) (sz:=3) (n:=zs.length) (cells:=(zs.map encRF).flatten) Xh ?_
   repeat first|refine Gp ?_|refine Gw λw hS=>?_|refine Gb λb w hS=>?_
   refine ze (λh1=>?_) (λh1=>?_)
   ·have hiz:i<zs.length:=by omega
    have hii:i<ids.length:=by omega
    have hwh:wh=true∧L.length=i:=by
     rcases hA.len with h|⟨_,h,_⟩
     ·exact h
     ·omega
    obtain⟨rfl,hLi⟩:=hwh
    have hx:zs[i]?=some zs[i]:=List.getElem?_eq_getElem hiz
    have hid:=hget i hiz hii
    have hgk:=hgK i hiz
    have hyB:=hrb _ (hzm _ (List.getElem_mem hiz))
    have hyN:zs[i].1.b.length≤N:=hok.len _ (by rw[← he];exact List.mem_map.2 ⟨_,hzm _ (List.getElem_mem hiz),rfl⟩)
    have hfi:=hi _ (List.getElem_mem hii)
    have heq:=hA.eq
    rw[List.drop_eq_getElem_cons hii,loadsG_cons,hid]at heq
    rw[hid]at hfi
    have hgap:0<i→∀h:i-1<zs.length,gapG (if i=0 then none else ids[i-1]?) zs[i].1.id=decide (zs[i].1.id≠zs[i-1].1.id+1):=λh0 h=>by
     rw[if_neg (by omega),List.getElem?_eq_getElem (show i-1<ids.length by omega),hget (i-1) h (by omega)];rfl
    have hgap0:i=0→gapG (if i=0 then none else ids[i-1]?) zs[i].1.id=false:=λh=>by rw[if_pos h];rfl
    have hlast:(ids.drop (i+1)).isEmpty=decide (i+1=ids.length):=by
     rw[Bool.eq_iff_iff,decide_eq_true_iff,List.isEmpty_iff,List.drop_eq_nil_iff]
     omega
    rw[hlast]at heq
    have hload:loadG L s.R zs[i].1.id (decide (i+1=ids.length))=match readS zs[i].1.b with
     | none=>((false,decide (i+1=ids.length)),L)
     | some (first,l,n)=>if ((decide (i+1=ids.length)=false∧(n≠zs[i].1.b.length∨l.length=0))∨(0<L.length∧first≠headG L+1)∨1099511627776<first+l.length-1) then ((true,false),L)
      else ((true,true),L++[⟨zs[i].1.id,first,n,l⟩]):=by
     unfold loadG
     rw[hgk];rfl
    have hlok:=loadG_ok (L:=L) (f:=zs[i].1.id) (last:=decide (i+1=ids.length)) (M:=N+100000) hok.len (by omega) (by omega) (by omega) hA.ok
    have hpid:∀h:i-1<zs.length,(zs[i-1]?)=some zs[i-1]:=λh=>List.getElem?_eq_getElem h
    have hpr:∀h:i-1<zs.length,base≤zs[i-1].1.id∧zs[i-1].1.id<base+4096:=λh=>by
     have:=hi _ (List.getElem_mem (show i-1<ids.length by omega))
     rwa [hget (i-1) h (by omega)]at this
    refine Yn hS (v:=ov) (t:=61) Xh encRF_len hx hiz ?_
    generalize zs[i]=y at *
    obtain⟨yf,yv⟩:=y
    simp only at *
    obtain⟨_,ya,yc,rfl,_,_⟩:=id hyB
    refine zJ hS ?_
    clear hS;intro fb w hS
    refine zP (vs:=[.int .i64 yf.id,.int .i64 (yf.safe:Int),.slice ya yf.b.length yc]) hS Xu rfl rfl (by simp[Value.oneCell']) ?_
    clear hS;intro w hS
    by_cases hg:gapG (if i=0 then none else ids[i-1]?) yf.id=true
    ·
     have hno:loadsG s.R ids none [] true=none:=by
      rw[heq]
      split
      ·rfl
      ·first|rfl|rw[if_pos hg]
     refine⟨λvs w=>False,?_,λw h=>h.elim⟩
     repeat first|refine Gp ?_|refine Gw λw hS=>?_|refine Gb λb w hS=>?_
     refine ze (λh2=>?_) (λh2=>?_)
     ·have hj0:i-1<zs.length:=by omega
      repeat first|refine Gp ?_|refine Gw λw hS=>?_|refine Gb λb w hS=>?_
      have e:((i:Nat):Int)-1=((i-1:Nat):Int):=by omega
      rw[e]
      have hp2:=hpr hj0
      refine zQ (i:=0) hS (v:=ov) (t:=61) Xh encRF_len (hpid hj0) hj0 (u:=.int .i64 zs[i-1].1.id) rfl ?_
      repeat first|refine Gp ?_|refine Gw λw hS=>?_|refine Gb λb w hS=>?_
      have hgv:=hgap (by omega) hj0
      rw[hg]at hgv
      refine ze (λh3=>?_) (λh3=>absurd (of_decide_eq_true hgv.symm) h3)
      exact hE3 (l:=[]) (F':=[]) hno (SL.into (hcl hS Xp) Xi)
     ·rw[hgap0 (by omega)]at hg;cases hg
    ·rw[if_neg hg]at heq
     refine⟨λvs w=>vs=[]∧SL W (.pt fb [.int .i64 yf.id,.int .i64 (yf.safe:Int),.slice ya yf.b.length yc] 61::.ob (RLogO lp xp ⟨L,base,size,none⟩)::.ob (FilesO ov zs)::.pt xp (rcells fv s) 29::.ob (FilesO fv ys)::.mem H::F) w,?_,?_⟩
     ·repeat first|refine Gp ?_|refine Gw λw hS=>?_|refine Gb λb w hS=>?_
      refine ze (λh2=>?_) (λh2=>⟨rfl,SL.into hS Xi⟩)
      have hj0:i-1<zs.length:=by omega
      repeat first|refine Gp ?_|refine Gw λw hS=>?_|refine Gb λb w hS=>?_
      have e:((i:Nat):Int)-1=((i-1:Nat):Int):=by omega
      rw[e]
      have hp2:=hpr hj0
      refine zQ (i:=0) hS (v:=ov) (t:=61) Xh encRF_len (hpid hj0) hj0 (u:=.int .i64 zs[i-1].1.id) rfl ?_
      repeat first|refine Gp ?_|refine Gw λw hS=>?_|refine Gb λb w hS=>?_
      have hgv:=hgap (by omega) hj0
      refine ze (λh3=>absurd (by rw[hgv];exact decide_eq_true h3) hg) (λh3=>?_)
      exact⟨rfl,SL.into hS Xi⟩
     ·clear hS
      rintro w ⟨-,hS⟩
      repeat first|refine Gp ?_|refine Gw λw hS=>?_|refine Gb λb w hS=>?_
      have hyr:Rdb (.mem H) (.slice ya yf.b.length yc) yf.b:=Rdb.rd hyB
      (apply zd (qO (.mem H) _ yf.b hyr (by omega)) hS;exact Xp;clear hS)
      rintro r post hQ w hS
      unfold ReadQ2 at hQ
      cases hr:readS yf.b with
      | none=>
       rw[hr]at hQ hload
       obtain⟨rfl,rfl⟩:=hQ
       simp only at hload
       rw[hload]at heq
       (try simp only[app]at hS)
       repeat first|refine Gp ?_|refine Gw λw hS=>?_|refine Gb λb w hS=>?_
       refine⟨λvs w=>vs=[.bool false]∧SL W (.pt fb [.int .i64 yf.id,.int .i64 (yf.safe:Int),.slice ya yf.b.length yc] 61::.ob (RLogO lp xp ⟨L,base,size,none⟩)::.ob (FilesO ov zs)::.pt xp (rcells fv s) 29::.ob (FilesO fv ys)::.mem H::F) w,?_,?_⟩
       ·repeat first|refine Gp ?_|refine Gw λw hS=>?_|refine Gb λb w hS=>?_
        refine ze (λh=>absurd h (by decide)) (λ_=>⟨rfl,SL.into hS Xi⟩)
       ·clear hS
        rintro v17 w ⟨hvs,hS⟩
        cases hvs
        refine⟨λvs w=>vs=[.bool (decide (i+1≠ids.length))]∧SL W (.pt fb [.int .i64 yf.id,.int .i64 (yf.safe:Int),.slice ya yf.b.length yc] 61::.ob (RLogO lp xp ⟨L,base,size,none⟩)::.ob (FilesO ov zs)::.pt xp (rcells fv s) 29::.ob (FilesO fv ys)::.mem H::F) w,?_,?_⟩
        ·refine zE hS (v:=ov) (t:=61) (sz:=3) (n:=zs.length) (cells:=(zs.map encRF).flatten) Xh ?_
         repeat first|refine Gp ?_|refine Gw λw hS=>?_|refine Gb λb w hS=>?_
         refine ze (λh=>?_) (λh=>?_)
         ·rw[decide_eq_true (show i+1≠ids.length by omega)]
          refine yA ?_
          refine zy ?_
          exact⟨rfl,SL.into hS Xi⟩
         ·rw[decide_eq_false (show ¬i+1≠ids.length by omega)]
          repeat first|refine Gp ?_|refine Gw λw hS=>?_|refine Gb λb w hS=>?_
          refine ze (λh=>absurd h (by decide)) (λ_=>⟨rfl,SL.into hS Xi⟩)
        ·clear hS
         rintro v114 w ⟨hvs,hS⟩
         cases hvs
         refine ze (λhb=>?_) (λhb=>?_)
         ·rw[decide_eq_false (show ¬i+1=ids.length from hb),if_pos rfl]at heq
          exact hE3 (l:=[]) (F':=[]) heq (SL.into (hcl hS Xp) Xi)
         ·have hb':i+1=ids.length:=Classical.not_not.1 hb
          rw[decide_eq_true hb',if_neg (by simp)]at heq
          repeat first|refine Gp ?_|refine Gw λw hS=>?_|refine Gb λb w hS=>?_
          refine ze (λ_=>?_) (λh=>absurd (by decide) h)
          repeat first|refine Gp ?_|refine Gw λw hS=>?_|refine Gb λb w hS=>?_
          refine⟨⟨i+1,next,L,false,rfl,⟨by omega,?_,.inr ⟨rfl,hb',by omega⟩,λ_ h=>(by cases h),hA.ok⟩,SL.into hS Xi⟩,by dsimp only;omega⟩
          rw[heq,if_neg (by omega),Nat.add_sub_cancel,List.getElem?_eq_getElem hii,hid]
      | some q=>
       obtain⟨first,l,n⟩:=q
       have hrk:=readS_ok hr
       obtain⟨r1,r2,r3,r4,r5⟩:=hrk
       rw[hr]at hQ hload
       obtain⟨u,es,hes,rfl,rfl⟩:=hQ
       simp only at hload
       (try simp only[app]at hS)
       have hel:l.length=es.length:=by rw[← hes,byts_len]
       obtain⟨ua,uc,rfl,_⟩:=OwnSo.at hS (v:=u) .hd
       repeat first|refine Gp ?_|refine Gw λw hS=>?_|refine Gb λb w hS=>?_
       refine⟨λvs w=>vs=[.bool (decide (n=yf.b.length∧0<es.length))]∧SL W (.pt fb [.int .i64 yf.id,.int .i64 (yf.safe:Int),.slice ya yf.b.length yc] 61::.ob (OwnSo (.slice ua es.length uc) 54 1 es.length (vals es))::.ob (zh BEntO es)::.ob (RLogO lp xp ⟨L,base,size,none⟩)::.ob (FilesO ov zs)::.pt xp (rcells fv s) 29::.ob (FilesO fv ys)::.mem H::F) w,?_,?_⟩
       ·repeat first|refine Gp ?_|refine Gw λw hS=>?_|refine Gb λb w hS=>?_
        refine ze (λ_=>?_) (λh=>absurd rfl h)
        repeat first|refine Gp ?_|refine Gw λw hS=>?_|refine Gb λb w hS=>?_
        refine ze (λh=>?_) (λh=>?_)
        ·repeat first|refine Gp ?_|refine Gw λw hS=>?_|refine Gb λb w hS=>?_
         refine⟨?_,SL.into hS Xi⟩
         congr 2
         rw[Bool.eq_iff_iff,decide_eq_true_iff,decide_eq_true_iff];omega
        ·refine⟨?_,SL.into hS Xi⟩
         rw[decide_eq_false (show ¬(n=yf.b.length∧0<es.length) by omega)]
       ·clear hS
        rintro v17 w ⟨hvs,hS⟩
        cases hvs
        refine⟨λvs w=>vs=[.bool (decide ((i+1≠ids.length∧¬(n=yf.b.length∧0<es.length))∨(0<i∧first≠next)))]∧SL W (.pt fb [.int .i64 yf.id,.int .i64 (yf.safe:Int),.slice ya yf.b.length yc] 61::.ob (OwnSo (.slice ua es.length uc) 54 1 es.length (vals es))::.ob (zh BEntO es)::.ob (RLogO lp xp ⟨L,base,size,none⟩)::.ob (FilesO ov zs)::.pt xp (rcells fv s) 29::.ob (FilesO fv ys)::.mem H::F) w,?_,?_⟩
        ·have hq2:∀b:Bool,(b=decide ((i+1≠ids.length∧¬(n=yf.b.length∧0<es.length))∨(0<i∧first≠next)))→[Value.bool b]=[.bool (decide ((i+1≠ids.length∧¬(n=yf.b.length∧0<es.length))∨(0<i∧first≠next)))]:=λb h=>by rw[h]
         refine zE hS (v:=ov) (t:=61) (sz:=3) (n:=zs.length) (cells:=(zs.map encRF).flatten) Xh ?_
         repeat first|refine Gp ?_|refine Gw λw hS=>?_|refine Gb λb w hS=>?_
         refine ze (λh=>?_) (λh=>?_)
         ·refine yA ?_
          by_cases hw:n=yf.b.length∧0<es.length
          ·rw[decide_eq_true hw]
           refine zr ?_
           repeat first|refine Gp ?_|refine Gw λw hS=>?_|refine Gb λb w hS=>?_
           refine ze (λ_=>?_) (λh=>absurd rfl h)
           repeat first|refine Gp ?_|refine Gw λw hS=>?_|refine Gb λb w hS=>?_
           refine ze (λh2=>?_) (λh2=>?_)
           ·repeat first|refine Gp ?_|refine Gw λw hS=>?_|refine Gb λb w hS=>?_
            refine⟨hq2 _ ?_,SL.into hS Xi⟩
            rw[Bool.eq_iff_iff,decide_eq_true_iff,decide_eq_true_iff]
            constructor
            ·intro h;exact .inr ⟨by omega,h⟩
            ·rintro (⟨_,h⟩|⟨_,h⟩)
             ·exact absurd hw h
             ·exact h
           ·refine⟨hq2 _ ?_,SL.into hS Xi⟩
            refine (decide_eq_false ?_).symm
            rintro (⟨_,h⟩|⟨h,_⟩)
            ·exact absurd hw h
            ·omega
          ·rw[decide_eq_false hw]
           refine zy ?_
           exact⟨hq2 _ (decide_eq_true (.inl ⟨by omega,hw⟩)).symm,SL.into hS Xi⟩
         ·repeat first|refine Gp ?_|refine Gw λw hS=>?_|refine Gb λb w hS=>?_
          refine ze (λ_=>?_) (λh=>absurd rfl h)
          repeat first|refine Gp ?_|refine Gw λw hS=>?_|refine Gb λb w hS=>?_
          refine ze (λh2=>?_) (λh2=>?_)
          ·repeat first|refine Gp ?_|refine Gw λw hS=>?_|refine Gb λb w hS=>?_
           refine⟨hq2 _ ?_,SL.into hS Xi⟩
           rw[Bool.eq_iff_iff,decide_eq_true_iff,decide_eq_true_iff]
           constructor
           ·intro h;exact .inr ⟨by omega,h⟩
           ·rintro (⟨h,_⟩|⟨_,h⟩)
            ·omega
            ·exact h
          ·refine⟨hq2 _ ?_,SL.into hS Xi⟩
           refine (decide_eq_false ?_).symm
           rintro (⟨h,_⟩|⟨h,_⟩)<;>omega
        ·clear hS
         rintro v114 w ⟨hvs,hS⟩
         cases hvs
         have hnx:0<i→next=headG L+1:=λh=>hA.next h rfl
         refine ze (λhb=>?_) (λhb=>?_)
         ·rw[hload,if_pos (c:=(decide (i+1=ids.length)=false∧(n≠yf.b.length∨l.length=0))∨(0<L.length∧first≠headG L+1)∨1099511627776<first+l.length-1) (by
           rcases hb with ⟨h1,h2⟩|⟨h1,h2⟩
           ·exact .inl ⟨decide_eq_false h1,by rw[hel];omega⟩
           ·exact .inr (.inl ⟨by omega,by rw[← hnx h1];exact h2⟩)),if_pos rfl]at heq
          exact hE3 (l:=[]) (F':=[]) heq (SL.into (hcl hS Xp) Xi)
         ·repeat first|refine Gp ?_|refine Gw λw hS=>?_|refine Gb λb w hS=>?_
          refine ze (λh=>absurd rfl h) (λ_=>?_)
          repeat first|refine Gp ?_|refine Gw λw hS=>?_|refine Gb λb w hS=>?_
          refine ze (λhmx=>?_) (λhmx=>?_)
          ·rw[hload,if_pos (c:=(decide (i+1=ids.length)=false∧(n≠yf.b.length∨l.length=0))∨(0<L.length∧first≠headG L+1)∨1099511627776<first+l.length-1) (.inr (.inr (by rw[hel];omega))),if_pos rfl]at heq
           exact hE3 (l:=[]) (F':=[]) heq (SL.into (hcl hS Xp) Xi)
          ·have hcond:¬((decide (i+1=ids.length)=false∧(n≠yf.b.length∨l.length=0))∨(0<L.length∧first≠headG L+1)∨1099511627776<first+l.length-1):=by
            rintro (⟨h1,h2⟩|⟨h1,h2⟩|h)
            ·exact hb (.inl ⟨of_decide_eq_false h1,by rw[hel]at h2;omega⟩)
            ·exact hb (.inr ⟨by omega,by rw[hnx (by omega)];exact h2⟩)
            ·rw[hel]at h;omega
           rw[hload,if_neg hcond,if_neg (by simp)]at heq
           rw[hload,if_neg hcond]at hlok
           simp only at heq hlok
           obtain⟨sv,xs,hx2,hS⟩:=RLogO.openN (SL.into hS (t:=.ob (RLogO lp xp ⟨L,base,size,none⟩)::.pt fb [.int .i64 yf.id,.int .i64 (yf.safe:Int),.slice ya yf.b.length yc] 61::.ob (OwnSo (.slice ua es.length uc) 54 1 es.length (vals es))::.ob (zh BEntO es)::.ob (FilesO ov zs)::.pt xp (rcells fv s) 29::.ob (FilesO fv ys)::.mem H::F) Xi)
           have hxl:xs.length=L.length:=by
            have:=congrArg List.length hx2
            rwa [List.length_map]at this
           repeat first|refine Gp ?_|refine Gw λw hS=>?_|refine Gb λb w hS=>?_
           have hone0:=OwnSo.one hS (v:=sv) (t:=157) (sz:=4) (n:=xs.length) (cells:=(xs.map xcells).flatten) Xh
           refine yM (t:=157) (sz:=4) (n:=xs.length) (cells:=(xs.map xcells).flatten) (m:=1) (cs:=[.int .i64 yf.id,.int .i64 first,.int .i64 n,.slice ua es.length uc]) hS Xr (src_pt0 hS .hd rfl) rfl rfl (by simp[Value.oneCell']) (by omega) (by omega) ?_
           clear hS;intro sv' w hS
           have hone:=OwnSo.one hS (v:=sv') .hd
           repeat first|refine Gp ?_|refine Gw λw hS=>?_|refine Gb λb w hS=>?_
           have hS:=(XSegO.iff (x:=⟨yf.id,first,n,es,ua,uc⟩)).2 (SL.into hS (t:=.ob (OwnSo (.slice ua es.length uc) 54 1 es.length (vals es))::.ob (zh BEntO es)::.ob (zh XSegO xs)::.pt lp (rlcells sv' xp base size (-1)) 152::.ob (OwnSo sv' 157 4 (xs.length+1) ((xs.map xcells).flatten++[.int .i64 yf.id,.int .i64 first,.int .i64 n,.slice ua es.length uc]))::.ob (FilesO ov zs)::.pt xp (rcells fv s) 29::.ob (FilesO fv ys)::.mem H::F) Xi)
           have hS:=zh.snoc (hS.into (t:=.ob (zh XSegO xs)::.ob (XSegO ⟨yf.id,first,n,es,ua,uc⟩)::.pt lp (rlcells sv' xp base size (-1)) 152::.ob (OwnSo sv' 157 4 (xs.length+1) ((xs.map xcells).flatten++[.int .i64 yf.id,.int .i64 first,.int .i64 n,.slice ua es.length uc]))::.ob (FilesO ov zs)::.pt xp (rcells fv s) 29::.ob (FilesO fv ys)::.mem H::F) Xi)
           have e1:xs.length+1=(xs++[(⟨yf.id,first,n,es,ua,uc⟩:XSeg)]).length:=by simp
           have e2:(xs.map xcells).flatten++[.int .i64 yf.id,.int .i64 first,.int .i64 n,.slice ua es.length uc]=((xs++[(⟨yf.id,first,n,es,ua,uc⟩:XSeg)]).map xcells).flatten:=by simp[xcells,XSeg.lv]
           rw[e1,e2]at hS
           have hx3:(xs++[(⟨yf.id,first,n,es,ua,uc⟩:XSeg)]).map XSeg.pl=L++[⟨yf.id,first,n,l⟩]:=by
            have:xs.map XSeg.pl=L:=hx2
            rw[List.map_append,this];simp[XSeg.pl,hes]
           have hS:=RLogO.closeN (L:=L++[⟨yf.id,first,n,l⟩]) (base:=base) (size:=size) (lp:=lp) (xp:=xp) (F:=.ob (FilesO ov zs)::.pt xp (rcells fv s) 29::.ob (FilesO fv ys)::.mem H::F) hS hx3 Xi
           have hnew:headG (L++[⟨yf.id,first,n,l⟩])+1=first+es.length:=by
            rw[headG_snoc];simp only[PSeg.next,hel];omega
           refine⟨⟨i+1,first+es.length,L++[⟨yf.id,first,n,l⟩],true,rfl,⟨by omega,?_,.inl ⟨rfl,by simp;omega⟩,λ_ _=>hnew.symm,hlok.1⟩,SL.into hS Xi⟩,by dsimp only;omega⟩
           rw[heq,if_neg (by omega),Nat.add_sub_cancel,List.getElem?_eq_getElem hii,hid]
   ·have hie:i=ids.length:=by omega
    have heq:=hA.eq
    rw[hie,List.drop_length]at heq
    simp only[loadsG]at heq
    rw[heq]at eo
    simp only at eo
    refine zE hS (v:=ov) (t:=61) (sz:=3) (n:=zs.length) (cells:=(zs.map encRF).flatten) Xh ?_
    repeat first|refine Gp ?_|refine Gw λw hS=>?_|refine Gb λb w hS=>?_
    refine ze (λh2=>?_) (λh2=>?_)
    ·have hnil:ids=[]:=List.eq_nil_of_length_eq_zero (by omega)
     have hb:beginG L s ids wh=(s,0):=by rw[hnil];rfl
     rw[hb,if_neg (by simp)]at eo
     rw[eo]
     have hS:=hcl hS Xp
     exact⟨_,⟨lp,H,Heap.le_refl H,rfl,rfl⟩,SL.into hS Xi⟩
    ·have hj:ids.length-1<ids.length:=by omega
     have hjz:zs.length-1<zs.length:=by omega
     have hx:zs[zs.length-1]?=some zs[zs.length-1]:=List.getElem?_eq_getElem hjz
     have hgl:ids.getLast?=some zs[zs.length-1].1.id:=by
      rw[List.getLast?_eq_getElem?,← hzl,List.getElem?_eq_getElem (by omega),hget _ hjz]
     have hgk:=hgK _ hjz
     have hyB:=hrb _ (hzm _ (List.getElem_mem hjz))
     refine zE hS (v:=ov) (t:=61) (sz:=3) (n:=zs.length) (cells:=(zs.map encRF).flatten) Xh ?_
     repeat first|refine Gp ?_|refine Gw λw hS=>?_|refine Gb λb w hS=>?_
     have e:((zs.length:Nat):Int)-1=((zs.length-1:Nat):Int):=by omega
     rw[e]
     refine Yn hS (v:=ov) (t:=61) Xh encRF_len hx hjz ?_
     generalize zs[zs.length-1]=y at *
     obtain⟨yf,yv⟩:=y
     simp only at *
     obtain⟨_,ya,yc,rfl,_,_⟩:=id hyB
     refine zJ hS ?_
     clear hS;intro fb w hS
     refine zP (vs:=[.int .i64 yf.id,.int .i64 (yf.safe:Int),.slice ya yf.b.length yc]) hS Xu rfl rfl (by simp[Value.oneCell']) ?_
     clear hS;intro w hS
     obtain⟨sv,xs,hx2,hS⟩:=RLogO.openN (SL.into hS (t:=.ob (RLogO lp xp ⟨L,base,size,none⟩)::.pt fb [.int .i64 yf.id,.int .i64 (yf.safe:Int),.slice ya yf.b.length yc] 61::.ob (FilesO ov zs)::.pt xp (rcells fv s) 29::.ob (FilesO fv ys)::.mem H::F) Xi)
     have hx2:xs.map XSeg.pl=L:=hx2
     have hxl:xs.length=L.length:=by rw[← hx2,List.length_map]
     repeat first|refine Gp ?_|refine Gw λw hS=>?_|refine Gb λb w hS=>?_
     refine zL hS (v:=sv) (t:=157) (sz:=4) (n:=xs.length) (cells:=(xs.map xcells).flatten) Xh ?_
     refine zE hS (v:=ov) (t:=61) (sz:=3) (n:=zs.length) (cells:=(zs.map encRF).flatten) Xh ?_
     repeat first|refine Gp ?_|refine Gw λw hS=>?_|refine Gb λb w hS=>?_
     refine ze (λh3=>?_) (λh3=>?_)
     ·have hwf:wh=false:=by rcases hA.len with ⟨_,h⟩|⟨h,_⟩;omega;exact h
      have hb:beginG L s ids wh=s.remove yf.id:=by
       unfold beginG;rw[hgl,hwf];rfl
      rw[hb]at eo
      rw[eo]
      repeat first|refine Gp ?_|refine Gw λw hS=>?_|refine Gb λb w hS=>?_
      have hS:=hcl hS Xp
      (apply zd (y7 H xp s N hok hops hR yf.id) hS;exact Xp;clear hS)
      rintro v post ⟨rfl,rfl⟩ w hS;(try simp only[app]at hS)
      repeat first|refine Gp ?_|refine Gw λw hS=>?_|refine Gb λb w hS=>?_
      refine ze (λh4=>?_) (λh4=>?_)
      ·rw[if_pos h4]
       exact⟨_,⟨h4,rfl,H,Heap.le_refl H,rfl⟩,SL.into hS Xi⟩
      ·rw[if_neg h4]
       have hS:=RLogO.closeN (L:=L) (base:=base) (size:=size) (lp:=lp) (xp:=xp) (F:=.ob (RDO H xp (s.remove yf.id).1)::.mem H::F) hS hx2 Xi
       exact⟨_,⟨lp,H,Heap.le_refl H,rfl,rfl⟩,SL.into hS Xi⟩
     ·have hwt:wh=true:=by rcases hA.len with ⟨h,_⟩|⟨_,_,h⟩;exact h;omega
      have hlenF:lenF s.R yf.id=yf.b.length:=by unfold lenF;rw[hgk]
      have hb:beginG L s ids wh=if lastSize L<(yf.b.length:Int) then s.cut yf.id (lastSize L) else (s,0):=by
       unfold beginG;rw[hgl,hwt]
       simp only[hlenF]
       rw[if_neg (by decide)]
      rw[hb]at eo
      have hjx:xs.length-1<xs.length:=by omega
      have hlz:lastSize L=((xs[xs.length-1]'hjx).size:Nat):=by
       unfold lastSize
       rw[← hx2,List.getLast?_map,List.getLast?_eq_getElem?,List.getElem?_eq_getElem hjx];rfl
      rw[hlz]at eo
      have ex:((xs.length:Nat):Int)-1=((xs.length-1:Nat):Int):=by omega
      repeat first|refine Gp ?_|refine Gw λw hS=>?_|refine Gb λb w hS=>?_
      (apply zd (z7 lp xp sv xs base size (-1) (by omega)) hS;exact Xp;clear hS)
      (rintro v post ⟨rfl,rfl⟩ w hS;(try simp only[app]at hS);(repeat (first|refine Gp ?_|refine Gw λw hS=>?_|refine Gb λb w hS=>?_)))
      rw[ex]
      refine ye (i:=2) hS Xh hjx (u:=.int .i64 ((xs[xs.length-1]'hjx).size:Nat)) rfl ?_
      generalize hz:(xs[xs.length-1]'hjx).size=z at *
      repeat first|refine Gp ?_|refine Gw λw hS=>?_|refine Gb λb w hS=>?_
      refine ze (λh4=>?_) (λh4=>?_)
      ·rw[if_pos h4]at eo
       rw[eo]
       repeat first|refine Gp ?_|refine Gw λw hS=>?_|refine Gb λb w hS=>?_
       (apply zd (z7 lp xp sv xs base size (-1) (by omega)) hS;exact Xp;clear hS)
       (rintro v post ⟨rfl,rfl⟩ w hS;(try simp only[app]at hS);(repeat (first|refine Gp ?_|refine Gw λw hS=>?_|refine Gb λb w hS=>?_)))
       rw[ex]
       refine ye (i:=2) hS Xh hjx (u:=.int .i64 (z:Int)) (by show some (Value.int .i64 ((xs[xs.length-1]'hjx).size:Nat))=_;rw[hz]) ?_
       have hS:=hcl hS Xp
       (apply zd (Yj H xp s N hok (by omega) hops hR yf.id (z:Int)) hS;exact Xp;clear hS)
       rintro v post ⟨rfl,H',hH,rfl⟩ w hS;(try simp only[app]at hS)
       repeat first|refine Gp ?_|refine Gw λw hS=>?_|refine Gb λb w hS=>?_
       refine ze (λh5=>?_) (λh5=>?_)
       ·rw[if_pos h5]
        exact⟨_,⟨h5,rfl,H',hH,rfl⟩,SL.into hS Xi⟩
       ·rw[if_neg h5]
        have hS:=RLogO.closeN (L:=L) (base:=base) (size:=size) (lp:=lp) (xp:=xp) (F:=.ob (RDO H' xp (s.cut yf.id (z:Int)).1)::.mem H'::F) hS hx2 Xi
        exact⟨_,⟨lp,H',hH,rfl,rfl⟩,SL.into hS Xi⟩
      ·rw[if_neg h4,if_neg (by simp)]at eo
       rw[eo]
       have hS:=hcl hS Xp
       have hS:=RLogO.closeN (L:=L) (base:=base) (size:=size) (lp:=lp) (xp:=xp) (F:=.ob (RDO H xp s)::.mem H::F) hS hx2 Xi
       exact⟨_,⟨lp,H,Heap.le_refl H,rfl,rfl⟩,SL.into hS Xi⟩
section
variable {W w:World} {l F:List Chunk}
theorem RLogO.put{lp xp:Nat}(g:PLog){sv:Value}{xs:List XSeg}(hS:SL W l w)(hx:xs.map XSeg.pl=g.segs)(p:Pick [.pt lp (rlcells sv xp g.base g.size (tornI g.torn)) 152,RowR sv xs,.ob (zh XSegO xs)] l F):SL W (.ob (RLogO lp xp g)::F) w:=RLogO.iff.2 ⟨sv,xs,hx,hS.pick p⟩
theorem RLogO.putN{lp xp:Nat}{L:List PSeg}{base size ti:Int}(tn:Option PTorn){sv:Value}{xs:List XSeg}(hS:SL W l w)(hx:xs.map XSeg.pl=L)(p:Pick [.pt lp (rlcells sv xp base size ti) 152,RowR sv xs,.ob (zh XSegO xs)] l F)(ht:tornI tn=ti:=by rfl):SL W (.ob (RLogO lp xp ⟨L,base,size,tn⟩)::F) w:=by subst ht;exact RLogO.iff.2 ⟨sv,xs,hx,hS.pick p⟩
theorem XSegO.put(x:XSeg)(hS:SL W l w)(p:Pick [.ob (OwnSo x.lv 54 1 x.es.length (vals x.es)),.ob (zh BEntO x.es)] l F):SL W (.ob (XSegO x)::F) w:=XSegO.iff.2 (hS.pick p)
theorem RDO.put{H:Heap}{xp:Nat}(s:DS){fv:Value}{ys:List YF}(hS:SL W l w)(he:ys.map Prod.fst=s.R∧RdB H ys)(p:Pick [.pt xp (rcells fv s) 29,.ob (FilesO fv ys)] l F):SL W (.ob (RDO H xp s)::F) w:=RDO.iff.2 ⟨fv,ys,he,hS.pick p⟩
theorem zh.takeP{α:Type}{A:α→zG}{xs:List α}{t:Nat}{x:α}(hS:SL W l w)(hx:xs[t]?=some x)(r:Rem (.ob (zh A xs)) l F):SL W (.ob (A x)::.ob (zh A (xs.eraseIdx t))::F) w:=zh.take (hS.perm r.perm) hx
theorem zh.putP{α:Type}{A:α→zG}{xs:List α}{t:Nat}(y:α)(hS:SL W l w)(ht:t<xs.length)(p:Pick [.ob (A y),.ob (zh A (xs.eraseIdx t))] l F):SL W (.ob (zh A (xs.set t y))::F) w:=zh.put (hS.pick p) ht
theorem zh.snocP{α:Type}{A:α→zG}{xs:List α}(x:α)(hS:SL W l w)(p:Pick [.ob (zh A xs),.ob (A x)] l F):SL W (.ob (zh A (xs++[x]))::F) w:=zh.snoc (hS.pick p)
theorem RDO.monoP{H H':Heap}{xp:Nat}{s:DS}(hh:H.le H')(hS:SL W l w)(r:Rem (.ob (RDO H xp s)) l F):SL W (.ob (RDO H' xp s)::F) w:=RDO.mono hh (hS.perm r.perm)
end
def RPlanQ(H:Heap)(lp xp:Nat)(g:PLog)(d:DS)(y:Except Int PWr)(r:Value)(post:List Chunk):Prop:=match y with
 | .error e=>e≠0∧r= .tuple #[.slice none 0 0,.int .i64 0,.bool false,.int .i64 e]∧post=[.ob (RLogO lp xp g),.ob (RDO H xp d),.mem H]
 | .ok x=>∃v,r= .tuple #[v,.int .i64 x.file,.bool x.fresh,.int .i64 0]∧post=[.ob (OwnSl v 5 1 x.b.length (x.b.map u8c)),.ob (RLogO lp xp g),.ob (RDO H xp d),.mem H]
theorem ZG(H:Heap)(lp xp:Nat)(g:PLog)(d:DS)(v:Value)(p:List UInt8)(hv:RdSl H 1 v p.length (p.map u8c))(hp:p.length≤1048576){M:Nat}(hg:GOk g M)(hM:M≤1000000000000):
  SP 82 [.pointer (some ⟨lp,0,none⟩),v] [.ob (RLogO lp xp g),.ob (RDO H xp d),.mem H] (RPlanQ H lp xp g d (planG g d.off p)):=by
 intro W F w hS;apply vc82;unfold Vc82;(try simp only[app]at hS)
 obtain⟨sv,xs,hx,hS⟩:=RLogO.iff.1 hS
 obtain⟨hok,hl,hh0,hh1⟩:=hg.ok.xs hx
 have hb0:=hg.ok.b0
 have hb1:=hg.ok.b1
 have hs1:=hg.ok.s1
 have hs0:=hg.ok.s0
 have hhd:=hg.hd
 obtain⟨fv,ys,he,hS⟩:=RDO.iff.1 (Has.front (c:=.ob (RDO H xp d)) hS Xr)
 repeat first|refine Gp ?_|refine Gw λw hS=>?_|refine Gb λb w hS=>?_
 have hbig:¬1048576<p.length:=by omega
 refine yO (λho=>?_) (λho=>?_)
 ·have hpl:planG g d.off p= .error 8:=by unfold planG;rw[if_neg hbig,if_pos ho]
  rw[hpl]
  have hS:=RDO.put d hS he Xp
  have hS:=RLogO.put g hS hx Xp
  exact⟨_,⟨by decide,rfl,rfl⟩,SL.into hS Xi⟩
 have hS:=RDO.put d hS he Xp
 have ho':¬d.off=true:=by rw[ho];decide
 (apply zd (Yh (.mem H) v p (.rd hv) (by omega)) hS;exact Xp;clear hS)
 rintro r post hQ w hS
 unfold PutQ at hQ
 rw[if_neg hbig]at hQ
 obtain⟨u,rfl,rfl⟩:=hQ
 (try simp only[app]at hS)
 repeat first|refine Gp ?_|refine Gw λw hS=>?_|refine Gb λb w hS=>?_
 have hrl:=recB_len p
 (apply zd (z7 lp xp sv xs g.base g.size (tornI g.torn) (by omega)) hS;exact Xp;clear hS)
 (rintro v post ⟨rfl,rfl⟩ w hS;(try simp only[app]at hS);(repeat (first|refine Gp ?_|refine Gw λw hS=>?_|refine Gb λb w hS=>?_)))
 have hS:=RLogO.put g hS hx Xp
 (apply zd (z8 lp xp g hg.ok hM) hS;exact Xp;clear hS)
 (rintro v post ⟨rfl,rfl⟩ w hS;(try simp only[app]at hS);(repeat (first|refine Gp ?_|refine Gw λw hS=>?_|refine Gb λb w hS=>?_)))
 refine ze (λh1=>?_) (λh1=>?_)
 ·have hpl:planG g d.off p= .error 7:=by unfold planG;rw[if_neg hbig,if_neg ho',if_pos (by omega)]
  rw[hpl]
  exact⟨_,⟨by decide,rfl,rfl⟩,SL.into hS Xi⟩
 have hu1:=OwnSl.one (Has.front (c:=.ob (OwnSl u 5 1 (recB p).length ((recB p).map u8c))) hS Xr)
 obtain⟨sv,xs,hx',hS⟩:=RLogO.iff.1 (Has.front (c:=.ob (RLogO lp xp g)) hS Xr)
 have hlx:xs.length=g.segs.length:=by rw[← hx',List.length_map]
 have hlx':(xs.length:Int)-1=(‹List XSeg›.length:Int)-1:=rfl
 have hlen0:∀ys:List XSeg,ys.map XSeg.pl=g.segs→ys.length=xs.length:=λys h=>by rw[hlx,← h,List.length_map]
 rw[hlen0 _ hx]
 clear hlx'
 have hpl0:planG g d.off p=match g.segs.getLast? with
   | none=>freshG g g.base p
   | some s=>if s.l.length=0∨(s.size:Int)+(recB p).length≤g.size then .ok ⟨s.file,false,recB p⟩ else freshG g (s.file+1) p:=by
  unfold planG;rw[if_neg hbig,if_neg ho',if_neg (by omega)];rfl
 have hcase:xs=[]∧planG g d.off p=freshG g g.base p∨∃hj:xs.length-1<xs.length,planG g d.off p=if xs[xs.length-1].es.length=0∨(xs[xs.length-1].size:Int)+(recB p).length≤g.size then .ok ⟨xs[xs.length-1].file,false,recB p⟩ else freshG g (xs[xs.length-1].file+1) p:=by
  rcases Nat.eq_zero_or_pos xs.length with h0|h0
  ·left
   have:xs=[]:=List.eq_nil_of_length_eq_zero h0
   refine⟨this,?_⟩
   rw[hpl0,← hx',this];rfl
  ·right
   have hj:xs.length-1<xs.length:=by omega
   refine⟨hj,?_⟩
   rw[hpl0,← hx',List.getLast?_map,List.getLast?_eq_getElem?,List.getElem?_eq_getElem hj]
   simp[XSeg.pl,byts_len]
 have hsk:∀hj:xs.length-1<xs.length,SegOk (xs[xs.length-1]).pl M:=λhj=>by
  refine hg.ok.segs _ ?_
  rw[← hx'];exact List.mem_map.2 ⟨_,List.getElem_mem hj,rfl⟩
 refine⟨λus w=>∃q:Bool,us=[.bool q]∧(q=true↔∃hj:xs.length-1<xs.length,xs[xs.length-1].es.length=0∨(xs[xs.length-1].size:Int)+(recB p).length≤g.size)∧SL W (.pt lp (rlcells sv xp g.base g.size (tornI g.torn)) 152::RowR sv xs::.ob (zh XSegO xs)::.ob (OwnSl u 5 1 (recB p).length ((recB p).map u8c))::.ob (RDO H xp d)::.mem H::F) w,?_,?_⟩
 ·repeat first|refine Gp ?_|refine Gw λw hS=>?_|refine Gb λb w hS=>?_
  refine ze (λh2=>?_) (λh2=>?_)
  ·have hj:xs.length-1<xs.length:=by omega
   have k3:=(hsk hj).sz
   have k3:xs[xs.length-1].size≤M:=k3
   rw[show (xs.length:Int)-1=((xs.length-1:Nat):Int) by omega]
   repeat first|refine Gp ?_|refine Gw λw hS=>?_|refine Gb λb w hS=>?_
   refine ye hS Xh hj (i:=3) rfl ?_
   unfold XSeg.lv
   repeat first|refine Gp ?_|refine Gw λw hS=>?_|refine Gb λb w hS=>?_
   refine ze (λh3=>?_) (λh3=>?_)
   ·exact⟨true,rfl,⟨λ_=>⟨hj,.inl (by omega)⟩,λ_=>rfl⟩,SL.into hS Xi⟩
   ·repeat first|refine Gp ?_|refine Gw λw hS=>?_|refine Gb λb w hS=>?_
    refine ye hS Xh hj (i:=2) rfl ?_
    refine zE hS (v:=u) Xh ?_
    repeat first|refine Gp ?_|refine Gw λw hS=>?_|refine Gb λb w hS=>?_
    refine⟨_,rfl,?_,SL.into hS Xi⟩
    rw[decide_eq_true_iff]
    constructor
    ·intro h;exact⟨hj,.inr (by omega)⟩
    ·rintro ⟨_,h|h⟩
     ·omega
     ·omega
  ·exact⟨false,rfl,⟨λh=>by (cases h),λ⟨hj,_⟩=>by omega⟩,SL.into hS Xi⟩
 clear hS
 rintro v62 w ⟨q,hus,hq,hS⟩
 cases hus
 refine yO (λhqt=>?_) (λhqf=>?_)
 ·obtain⟨hj,hc⟩:=hq.1 hqt
  obtain⟨_,hpl⟩:∃_:True,planG g d.off p= .ok ⟨xs[xs.length-1].file,false,recB p⟩:=by
   rcases hcase with ⟨h0,_⟩|⟨_,h⟩
   ·subst h0;simp at hj
   ·exact⟨trivial,by rw[h,if_pos hc]⟩
  rw[hpl]
  rw[show (xs.length:Int)-1=((xs.length-1:Nat):Int) by omega]
  repeat first|refine Gp ?_|refine Gw λw hS=>?_|refine Gb λb w hS=>?_
  refine yo hS (v:=sv) (t:=157) (sz:=4) (cells:=(xs.map xcells).flatten) Xh hj λab ao hb=>?_
  have hc0:=hb 0 (.int .i64 xs[xs.length-1].file) (by decide) (flat_at xcells_len xs _ 0 _ _ (List.getElem?_eq_getElem hj) rfl)
  refine zW ⟨_,_,rfl,hc0,?_⟩
  repeat first|refine Gp ?_|refine Gw λw hS=>?_|refine Gb λb w hS=>?_
  refine⟨_,_,rfl,hc0,⟨rfl,?_⟩⟩
  have hS:=RLogO.put g hS hx' Xp
  exact⟨_,⟨u,rfl,rfl⟩,SL.into hS Xi⟩
 ·have hnq:¬∃hj:xs.length-1<xs.length,xs[xs.length-1].es.length=0∨(xs[xs.length-1].size:Int)+(recB p).length≤g.size:=λh=>by rw[hq.2 h]at hqf;cases hqf
  repeat first|refine Gp ?_|refine Gw λw hS=>?_|refine Gb λb w hS=>?_
  refine⟨λus w=>∃f:Int,us=[.int .i64 f]∧planG g d.off p=freshG g f p∧0≤f∧f≤1000000∧SL W (.pt lp (rlcells sv xp g.base g.size (tornI g.torn)) 152::RowR sv xs::.ob (zh XSegO xs)::.ob (OwnSl u 5 1 (recB p).length ((recB p).map u8c))::.ob (RDO H xp d)::.mem H::F) w,?_,?_⟩
  ·repeat first|refine Gp ?_|refine Gw λw hS=>?_|refine Gb λb w hS=>?_
   refine ze (λh2=>?_) (λh2=>?_)
   ·have hj:xs.length-1<xs.length:=by omega
    have k1:0≤xs[xs.length-1].file:=(hsk hj).f0
    have k2:xs[xs.length-1].file≤100000:=(hsk hj).f1
    rw[show (xs.length:Int)-1=((xs.length-1:Nat):Int) by omega]
    repeat first|refine Gp ?_|refine Gw λw hS=>?_|refine Gb λb w hS=>?_
    refine ye hS Xh hj (i:=0) rfl ?_
    repeat first|refine Gp ?_|refine Gw λw hS=>?_|refine Gb λb w hS=>?_
    refine⟨_,rfl,?_,by omega,by omega,SL.into hS Xi⟩
    rcases hcase with ⟨h0,_⟩|⟨_,h⟩
    ·subst h0;simp at hj
    ·rw[h,if_neg λhc=>hnq ⟨hj,hc⟩]
   ·refine⟨_,rfl,?_,by omega,by omega,SL.into hS Xi⟩
    rcases hcase with ⟨_,h⟩|⟨hj,_⟩
    ·exact h
    ·omega
  ·clear hS
   rintro v11 w ⟨f,hus,hpl,f0,f1,hS⟩
   cases hus
   rw[hpl]
   unfold freshG
   repeat first|refine Gp ?_|refine Gw λw hS=>?_|refine Gb λb w hS=>?_
   refine ze (λh2=>?_) (λh2=>?_)
   ·rw[if_pos h2]
    have hS:=RLogO.put g hS hx' Xp
    exact⟨_,⟨by decide,rfl,rfl⟩,SL.into hS Xi⟩
   ·rw[if_neg h2]
    have hS:=RLogO.put g hS hx' Xp
    (apply zd (z8 lp xp g hg.ok hM) hS;exact Xp;clear hS)
    (rintro v post ⟨rfl,rfl⟩ w hS;(try simp only[app]at hS);(repeat (first|refine Gp ?_|refine Gw λw hS=>?_|refine Gb λb w hS=>?_)))
    (apply zd (qw (headG g.segs+1)) hS;exact Xp;clear hS)
    rintro r post hQ w hS
    unfold HeadQ at hQ
    rw[if_neg (by omega)]at hQ
    obtain⟨y,rfl,rfl⟩:=hQ
    (try simp only[app]at hS)
    repeat first|refine Gp ?_|refine Gw λw hS=>?_|refine Gb λb w hS=>?_
    have h2l:=recB_len (hdB (headG g.segs+1).toNat)
    have h3l:=hdB_len (headG g.segs+1).toNat
    refine zw hS .hd (src_own hS (v:=u) Xh) (by simp) rfl (u8c_one _) (by omega) (by omega) λz w hS=>?_
    refine⟨_,⟨z,rfl,rfl⟩,?_⟩
    rw[← List.map_append,← List.length_append]at hS
    exact SL.into hS Xi
abbrev RAns(lp xp:Nat)(H:Heap)(u:Value)(y:PLog × DS)(v:Value)(post:List Chunk):Prop:=v=u∧∃H',H.le H'∧post=[.ob (RLogO lp xp y.1),.ob (RDO H' xp y.2),.mem H']
theorem ZB(H:Heap)(lp xp:Nat)(g:PLog)(d:DS){M N:Nat}(hg:GOk g M)(hM:M≤1000000000000)(hok:d.Ok N)(hN:N≤140737480000000)(hops:d.ops≤90000):
  SP 83 [.pointer (some ⟨lp,0,none⟩)] [.ob (RLogO lp xp g),.ob (RDO H xp d),.mem H] (RAns lp xp H (.int .i64 (mendG g d).2) (mendG g d).1):=by
 intro W F w hS;apply vc83;unfold Vc83;(try simp only[app]at hS)
 have hR:=hok.rlen
 obtain⟨sv,xs,hx,hS⟩:=RLogO.iff.1 hS
 obtain⟨hxo,hl,_,_⟩:=hg.ok.xs hx
 repeat first|refine Gp ?_|refine Gw λw hS=>?_|refine Gb λb w hS=>?_
 cases ht:g.torn with
 | none=>
  have hm:mendG g d=((g,d),0):=by unfold mendG;rw[ht]
  rw[hm]
  refine ze (λ_=>?_) (λh=>absurd (show tornI none<0 by decide) h)
  have hS:=RLogO.put g hS hx Xp
  exact⟨_,⟨rfl,H,Heap.le_refl H,rfl⟩,SL.into hS Xi⟩
 | some x=>
  obtain⟨f0,f1,hold,hnew⟩:=hg.torn x ht
  have hm:mendG g d=(({g with torn:=if (if x.fresh=true then d.remove x.file else d.cut x.file x.had).2=0 then none else some x},(if x.fresh=true then d.remove x.file else d.cut x.file x.had).1),(if x.fresh=true then d.remove x.file else d.cut x.file x.had).2):=by unfold mendG;rw[ht]
  have hti:tornI (some x)=x.file:=rfl
  rw[ht]at hS
  rw[hti]at hS ⊢
  refine ze (λh=>by omega) (λ_=>?_)
  (apply zd (z7 lp xp sv xs g.base g.size x.file (by omega)) hS;exact Xp;clear hS)
  (rintro v post ⟨rfl,rfl⟩ w hS;(try simp only[app]at hS);(repeat (first|refine Gp ?_|refine Gw λw hS=>?_|refine Gb λb w hS=>?_)))
  have hlast:∀hj:xs.length-1<xs.length,g.segs.getLast?=some xs[xs.length-1].pl:=λhj=>by
   rw[← hx,List.getLast?_map,List.getLast?_eq_getElem?,List.getElem?_eq_getElem hj];rfl
  generalize hz:(if x.fresh=true then d.remove x.file else d.cut x.file x.had)=z at hm
  have hfr:∀{w:World},x.fresh=true→SL W (.ob (RDO H xp d)::.mem H::.pt lp (rlcells sv xp g.base g.size x.file) 152::RowR sv xs::.ob (zh XSegO xs)::F) w→HCl 72 [.pointer (some ⟨xp,0,none⟩),.int .i64 x.file] w λv w'=>[v]=[.int .i64 z.2]∧∃H',H.le H'∧SL W (.pt lp (rlcells sv xp g.base g.size x.file) 152::RowR sv xs::.ob (zh XSegO xs)::.ob (RDO H' xp z.1)::.mem H'::F) w':=λhf hS=>by
   (apply zd (y7 H xp d N hok (by omega) (by omega) x.file) hS;exact Xp;clear hS)
   rintro v post ⟨rfl,rfl⟩ w hS
   rw[if_pos hf]at hz
   subst hz
   (try simp only[app]at hS)
   exact⟨rfl,H,Heap.le_refl H,SL.into hS Xi⟩
  refine⟨λus w=>us=[.int .i64 z.2]∧∃H',H.le H'∧SL W (.pt lp (rlcells sv xp g.base g.size x.file) 152::RowR sv xs::.ob (zh XSegO xs)::.ob (RDO H' xp z.1)::.mem H'::F) w,?_,?_⟩
  ·repeat first|refine Gp ?_|refine Gw λw hS=>?_|refine Gb λb w hS=>?_
   refine ze (λh0=>?_) (λh0=>?_)
   ·have hj:xs.length-1<xs.length:=by omega
    have hl1:=hlast hj
    rw[show (xs.length:Int)-1=((xs.length-1:Nat):Int) by omega]
    repeat first|refine Gp ?_|refine Gw λw hS=>?_|refine Gb λb w hS=>?_
    refine ye hS Xh hj (i:=0) rfl ?_
    repeat first|refine Gp ?_|refine Gw λw hS=>?_|refine Gb λb w hS=>?_
    refine ze (λh1=>?_) (λh1=>?_)
    ·have hf:x.fresh=false:=by
      cases hb:x.fresh with
      | false=>rfl
      | true=>exact absurd h1 (hnew hb _ hl1)
     obtain⟨s,h2,h3,h4⟩:=hold hf
     rw[hl1]at h2
     cases h2
     repeat first|refine Gp ?_|refine Gw λw hS=>?_|refine Gb λb w hS=>?_
     refine ye hS Xh hj (i:=2) rfl ?_
     (apply zd (Yj H xp d N hok (by omega) (by omega) (by omega) x.file xs[xs.length-1].size) hS;exact Xp;clear hS)
     rintro v post ⟨rfl,H',hh,rfl⟩ w hS
     (try simp only[app]at hS)
     rw[if_neg (by rw[hf];decide),h4]at hz
     have hz:d.cut x.file (xs[xs.length-1].size:Nat)=z:=hz
     rw[hz]at hS ⊢
     exact⟨rfl,H',hh,SL.into hS Xi⟩
    ·have hf:x.fresh=true:=by
      cases hb:x.fresh with
      | true=>rfl
      | false=>
       obtain⟨s,h2,h3,h4⟩:=hold hb
       rw[hl1]at h2
       cases h2
       exact absurd h3 h1
     repeat first|refine Gp ?_|refine Gw λw hS=>?_|refine Gb λb w hS=>?_
     exact hfr hf (SL.into hS Xi)
   ·have hf:x.fresh=true:=by
     cases hb:x.fresh with
     | true=>rfl
     | false=>
      obtain⟨s,h2,_⟩:=hold hb
      have:xs=[]:=List.eq_nil_of_length_eq_zero (by omega)
      rw[← hx,this]at h2
      cases h2
    repeat first|refine Gp ?_|refine Gw λw hS=>?_|refine Gb λb w hS=>?_
    exact hfr hf (SL.into hS Xi)
  ·clear hS
   rintro v3 w ⟨hus,H',hh,hS⟩
   cases hus
   rw[hm]
   repeat first|refine Gp ?_|refine Gw λw hS=>?_|refine Gb λb w hS=>?_
   refine ze (λhe=>?_) (λhe=>?_)
   ·rw[if_pos he]
    repeat first|refine Gp ?_|refine Gw λw hS=>?_|refine Gb λb w hS=>?_
    have hS:=RLogO.putN none hS hx Xp
    exact⟨_,⟨rfl,H',hh,rfl⟩,SL.into hS Xi⟩
   ·rw[if_neg he]
    have hS:=RLogO.putN (some x) hS hx Xp
    exact⟨_,⟨rfl,H',hh,rfl⟩,SL.into hS Xi⟩
end Go.Proofs.YtnmhmnnadkclbaaGreat
