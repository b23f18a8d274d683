/-
  Texts of the proof, joined: RLogS2, RLogS3, RLogA, RLogB, SrcR, SrcR2, SnpR, SameC, Same1, Law12, Law12A, Law12P, PlayS.
-/
import Derived.Test.YtfenmffiidchcaaGreatJ11
import Derived.Test.YtfenmffiidchcaaGreatQVcG
import Derived.Test.YtfenmffiidchcaaGreatQVcF
namespace Go.Proofs.YtfenmffiidchcaaGreat
set_option linter.unusedVariables false
set_option maxRecDepth 100000
open Go.RowKit
theorem qd(lp xp:Nat)(g:PLog)(n:Int){M:Nat}(hg:GOk g M)(hM:M≤1000000000000)(hn : -9000000000000000000≤n∧n≤9000000000000000000):
  SP 179 [.pointer (some ⟨lp,0,none⟩),.int .i64 n] [.ob (RLogO lp xp g)] (ReadLQ [.ob (RLogO lp xp g)] (readG g.segs n)):=by
 intro W F w hS;apply vc179;unfold Vc179;(try simp only[app]at hS)
 refine Cg (Zq lp xp g hg.ok hM) λw hS=>?_
 refine zc (λh1=>?_) (λh1=>?_)
 ·rw[readG_low g.segs n hg.seq (λs _=>by omega) h1]
  exact⟨_,⟨rfl,rfl⟩,hS⟩
 ·skip
  refine Cg (zX lp xp g hg.ok hM) λw hS=>?_
  refine zc (λh2=>?_) (λh2=>?_)
  ·rw[readG_high g.segs n hg.seq h2]
   exact⟨_,⟨rfl,rfl⟩,hS⟩
  ·have hfr:findR g.segs n=readG g.segs n:=findR_eq g.segs n hg.seq λs hs=>by
    cases hL:g.segs with
    | nil=>rw[hL]at hs;cases hs
    | cons a r=>
     rw[hL]at hs h1
     cases hs
     have:¬n<s.first:=h1
     omega
   rw[← hfr]
   obtain⟨sv,xs,hx,hS⟩:=RLogO.iff.1 hS
   obtain⟨hok,hl,_,_⟩:=hg.ok.xs hx
   have hseq:SeqG (xs.map XSeg.pl):=by rw[hx];exact hg.seq
   have hhd0:∀s,((xs.drop 0).map XSeg.pl).head?=some s→s.first≤n:=by
    intro s hs
    rw[List.drop_zero]at hs
    cases xs with
    | nil=>cases hs
    | cons a r=>
     cases hs
     have:¬n<lowG g.segs:=h1
     rw[← hx]at this
     have:¬n<a.pl.first:=this
     omega
   rw[← hx]
   refine⟨λvs w=>∃i:Nat,i≤xs.length∧vs=[.int .i64 i]∧findR (xs.map XSeg.pl) n=findR ((xs.drop i).map XSeg.pl) n∧(∀s,((xs.drop i).map XSeg.pl).head?=some s→s.first≤n)∧SL W (.pt lp (rlcells sv xp g.base g.size (tornI g.torn)) 254::RowR sv xs::.ob (zh XSegO xs)::F) w,
    λvs _=>match vs with|[.int _ i]=>xs.length-i.toNat|_=>0,⟨0,by omega,rfl,rfl,hhd0,SL.into hS Xi⟩,?_⟩
   clear hS hhd0
   rintro v6 w ⟨i,hi,hv,hr,hlo,hS⟩
   cases hv
   rw[hr]
   refine Gp ?_
   refine zV hS (v:=sv) (t:=259) (sz:=4) (n:=xs.length) (cells:=(xs.map xcells).flatten) Xh ?_
   refine Gp ?_
   refine zc (λh0=>?_) (λh0=>?_)
   ·have hj:i<xs.length:=by omega
    have hxj:xs[i]?=some xs[i]:=List.getElem?_eq_getElem hj
    have hok:=hok _ (List.mem_map.2 ⟨_,List.getElem_mem hj,rfl⟩)
    have hdr:(xs.drop i).map XSeg.pl=xs[i].pl::(xs.drop (i+1)).map XSeg.pl:=by rw[List.drop_eq_getElem_cons hj];rfl
    have hsd:=hseq.drop i
    rw[← List.map_drop,hdr]at hsd
    rw[hdr]at hlo ⊢
    have hlo0:=hlo _ rfl
    have hstep:findR (xs[i].pl::(xs.drop (i+1)).map XSeg.pl) n=if n-xs[i].pl.first<xs[i].pl.l.length then xs[i].pl.l[(n-xs[i].pl.first).toNat]? else findR ((xs.drop (i+1)).map XSeg.pl) n:=rfl
    rw[hstep]
    have hnext:¬n-xs[i].pl.first<xs[i].pl.l.length→∀s,((xs.drop (i+1)).map XSeg.pl).head?=some s→s.first≤n:=by
     intro h s hs
     cases hL:(xs.drop (i+1)).map XSeg.pl with
     | nil=>rw[hL]at hs;cases hs
     | cons a r=>
      rw[hL]at hs hsd
      cases hs
      have:=hsd.1
      simp only[PSeg.next]at this
      omega
    have k1:=hok.n0
    have k2:=hok.n1
    refine Gp ?_
    refine yh (i:=1) hS Xh hj (u:=.int .i64 xs[i].first) rfl ?_
    have e1:xs[i].pl.first=xs[i].first:=rfl
    have e2:xs[i].pl.l.length=xs[i].es.length:=by simp[XSeg.pl,byts_len]
    have e3:xs[i].pl.l=byts xs[i].es:=rfl
    rw[e1]at k1 k2 hlo0
    refine Gp ?_
    refine yh (i:=3) hS Xh hj (u:=.slice xs[i].a xs[i].es.length xs[i].c) rfl ?_
    refine Gp ?_
    refine zc (λh3=>?_) (λh3=>?_)
    ·rw[if_pos (by rw[e1,e2];exact h3)]
     obtain⟨j,hjn⟩:=Int.eq_ofNat_of_zero_le (show 0≤n-xs[i].first by omega)
     have hjl:j<xs[i].es.length:=by omega
     refine Gm λb w hS=>?_
     have hS:=OwnSl.full (n:=0) (sz:=1) rfl hS
     refine yh (i:=3) hS Xh hj (u:=.slice xs[i].a xs[i].es.length xs[i].c) rfl ?_
     rw[e1,hjn]
     have hS:=zh.take (SL.into hS (t:=.ob (zh XSegO xs)::.ob (OwnSl (.slice (some ⟨b,0,none⟩) 0 0) 5 1 0 [])::.pt lp (rlcells sv xp g.base g.size (tornI g.torn)) 254::RowR sv xs::F) Xi) hxj
     have hS:=XSegO.iff.1 hS
     unfold XSeg.lv at hS
     refine yz (j:=j) hS .hd hjl λp o hb=>?_
     have hej:xs[i].es[j]?=some xs[i].es[j]:=List.getElem?_eq_getElem hjl
     have hval:(vals xs[i].es)[j*1+0]?=some xs[i].es[j].1:=by simp[vals,hjl]
     refine⟨_,_,rfl,hb 0 _ (by omega) hval,?_⟩
     have hS:=zh.take (SL.into hS (t:=.ob (zh BEntO xs[i].es)::.ob (OwnSo (.slice xs[i].a xs[i].es.length xs[i].c) 62 1 xs[i].es.length (vals xs[i].es))::.ob (zh XSegO (xs.eraseIdx i))::.ob (OwnSl (.slice (some ⟨b,0,none⟩) 0 0) 5 1 0 [])::.pt lp (rlcells sv xp g.base g.size (tornI g.torn)) 254::RowR sv xs::F) Xi) hej
     have hbl:xs[i].es[j].2.length≤1048576:=hok.bl _ (List.mem_map.2 ⟨_,List.getElem_mem hjl,rfl⟩)
     have hby:xs[i].pl.l[((j:Int)).toNat]?=some xs[i].es[j].2:=by rw[e3];simp[byts,hjl]
     rw[hby]
     have hR:Rdb (.ob (BEntO xs[i].es[j])) xs[i].es[j].1 xs[i].es[j].2:=Rdb.own
     refine zz (t:=5) (sz:=1) (n:=0) (cells:=[]) (m:=xs[i].es[j].2.length) (cs:=xs[i].es[j].2.map u8c) hS Xr (hR.src hS .hd) (by simp) rfl (u8c_one _) (by omega) (by omega) ?_
     clear hS;intro u w hS
     rw[Nat.zero_add,List.nil_append]at hS
     have hS:=zh.back (SL.into hS (t:=.ob (BEntO xs[i].es[j])::.ob (zh BEntO (xs[i].es.eraseIdx j))::.ob (OwnSo (.slice xs[i].a xs[i].es.length xs[i].c) 62 1 xs[i].es.length (vals xs[i].es))::.ob (OwnSl u 5 1 xs[i].es[j].2.length (xs[i].es[j].2.map u8c))::.ob (zh XSegO (xs.eraseIdx i))::.pt lp (rlcells sv xp g.base g.size (tornI g.torn)) 254::RowR sv xs::F) Xi) hej
     have hS:=(XSegO.iff (x:=xs[i])).2 (SL.into hS (t:=.ob (OwnSo (.slice xs[i].a xs[i].es.length xs[i].c) 62 1 xs[i].es.length (vals xs[i].es))::.ob (zh BEntO xs[i].es)::.ob (OwnSl u 5 1 xs[i].es[j].2.length (xs[i].es[j].2.map u8c))::.ob (zh XSegO (xs.eraseIdx i))::.pt lp (rlcells sv xp g.base g.size (tornI g.torn)) 254::RowR sv xs::F) Xi)
     have hS:=zh.back (SL.into hS (t:=.ob (XSegO xs[i])::.ob (zh XSegO (xs.eraseIdx i))::.ob (OwnSl u 5 1 xs[i].es[j].2.length (xs[i].es[j].2.map u8c))::.pt lp (rlcells sv xp g.base g.size (tornI g.torn)) 254::RowR sv xs::F) Xi) hxj
     have hS:=RLogO.close (lp:=lp) (xp:=xp) (F:=.ob (OwnSl u 5 1 xs[i].es[j].2.length (xs[i].es[j].2.map u8c))::F) hS hx Xi
     exact⟨_,⟨u,rfl,rfl⟩,SL.into hS Xi⟩
    ·rw[if_neg (by rw[e1,e2];exact h3)]
     refine Gp ?_
     exact⟨⟨i+1,by omega,rfl,rfl,hnext (by rw[e1,e2];exact h3),SL.into hS Xi⟩,by simp only[Int.toNat_natCast];omega⟩
   ·have:xs.drop i=[]:=List.drop_eq_nil_of_le (by omega)
    rw[this]
    exact⟨_,⟨rfl,rfl⟩,RLogO.close hS hx Xi⟩
def ROpenQ(H:Heap)(xp:Nat)(y:DS × Except Int PLog)(r:Value)(post:List Chunk):Prop:=match y.2 with
 | .error e=>e≠0∧r= .tuple #[.pointer none,.int .i64 e]∧∃H',H.le H'∧post=[.ob (RDO H' xp y.1),.mem H']
 | .ok g=>∃(lp:Nat) (H':Heap),H.le H'∧r= .tuple #[.pointer (some ⟨lp,0,none⟩),.int .i64 0]∧post=[.ob (RLogO lp xp g),.ob (RDO H' xp y.1),.mem H']
structure RAt(R:List PF)(ids:List Int)(i:Nat)(L:List PSeg)(wh:Bool)(next:Int)(M:Nat):Prop where
 le:i≤ids.length
 eq:loadsG R ids none [] true=loadsG R (ids.drop i) (if i=0 then none else ids[i-1]?) L wh
 len:(wh=true∧L.length=i)∨(wh=false∧i=ids.length∧L.length+1=i)
 next:0<i→wh=true→next=headG L+1
 ok:∀s∈L,SegOk s M
theorem ropen_specW(H:Heap)(xp:Nat)(s:DS)(base size:Int){N B:Nat}(hok:s.Ok B)(hB:B≤140737488355328)(hw:WinLe s.R base N)(hN:N≤1000000000)(hR:s.R.length≤100000)(hops:s.ops≤100000):
  SP 84 [.pointer (some ⟨xp,0,none⟩),.int .i64 base,.int .i64 size] [.ob (RDO H xp s),.mem H] (ROpenQ H xp (openG s base size)):=by
 intro W F w hS;apply vc84;unfold Vc84;(try simp only[app]at hS)
 have hE:∀{w:World} {e:Int},openG s base size=(s,.error e)→e≠0→SL W (.ob (RDO H xp s)::.mem H::F) w→∃post,ROpenQ H xp (openG s base size) (.tuple #[.pointer none,.int .i64 e]) post∧SL W (app post F) w:=λh he hS=>⟨[.ob (RDO H xp s),.mem H],by rw[h];exact⟨he,rfl,H,Heap.le_refl H,rfl⟩,hS⟩
 by_cases hbd:base<0∨12288<base∨size<64∨65536<size
 ·have e:openG s base size=(s,.error 1):=by unfold openG;rw[if_pos hbd]
  refine Gp ?_
  refine zc (λh=>hE e (by decide) hS) (λh1=>?_)
  refine Gp ?_
  refine zc (λh=>hE e (by decide) hS) (λh2=>?_)
  refine Gp ?_
  refine zc (λh=>hE e (by decide) hS) (λh3=>?_)
  refine Gp ?_
  refine zc (λh=>hE e (by decide) hS) (λh4=>by omega)
 ·refine Gp ?_
  refine zc (λh=>by omega) (λ_=>?_)
  refine Gp ?_
  refine zc (λh=>by omega) (λ_=>?_)
  refine Gp ?_
  refine zc (λh=>by omega) (λ_=>?_)
  refine Gp ?_
  refine zc (λh=>by omega) (λ_=>?_)
  obtain⟨fv,ys,⟨he,hrb⟩,hS⟩:=RDO.iff.1 hS
  have hyl:ys.length=s.R.length:=by rw[← he,List.length_map]
  have hcl:∀{w:World} {l F':List Chunk},SL W l w→Pick [.pt xp (rcells fv s) 66,.ob (FilesO fv ys)] l F'→SL W (.ob (RDO H xp s)::F') w:=λh k=>RDO.iff.2 ⟨fv,ys,⟨he,hrb⟩,h.pick k⟩
  refine Gp ?_
  refine yZ (λho=>?_) (λho=>?_)
  ·have e:openG s base size=(s,.error 8):=by unfold openG;rw[if_neg hbd,if_pos ho]
   exact hE e (by decide) (SL.into (hcl hS Xp) Xi)
  ·have eo:openG s base size=match loadsG s.R (idsG base s.R) none [] true with
    | none=>(s,.error 3)
    | some (L,whole)=>if (beginG L s (idsG base s.R) whole).2≠0 then ((beginG L s (idsG base s.R) whole).1,.error (beginG L s (idsG base s.R) whole).2) else ((beginG L s (idsG base s.R) whole).1,.ok ⟨L,base,size,none⟩):=by
    unfold openG;rw[if_neg hbd,if_neg (by rw[ho];decide)];rfl
   have hi:∀f∈idsG base s.R,base≤f∧f<base+4096:=λf hf=>idsG_mem hf
   have hil:=idsG_len base s.R
   have hids:=ownY_ids (base:=base) he
   refine Gp ?_
   refine⟨_,rfl,zN hS ?_⟩
   clear hS;intro lp w hS
   (refine Cc (QZ H xp s fv ys hrb base (by omega) (by omega) (by omega)) ?_;clear hS)
   rintro ov post rfl w hS;(try simp only[app]at hS)
   have hS:=OwnSo.nil0 (a:=none) (t:=259) (sz:=4) hS
   have hS:=zh.nil (A:=XSegO) hS
   have hS:=SL.into hS (t:=.pt lp (rlcells (.slice none 0 0) xp base size (-1)) 254::.ob (OwnSo (.slice none 0 0) 259 4 0 [])::.ob (zh XSegO [])::.ob (FilesO ov (ownY base ys))::.pt xp (rcells fv s) 66::.ob (FilesO fv ys)::.mem H::F) Xi
   have hS:=(RLogO.iff (g:=⟨[],base,size,none⟩)).2 ⟨_,[],rfl,hS⟩
   have hzm:∀y∈ownY base ys,y∈ys:=λy hy=>ownY_mem hy
   generalize hzs:ownY base ys=zs at *
   generalize hidd:idsG base s.R=ids at *
   have hzl:zs.length=ids.length:=by rw[← hids,List.length_map]
   have hget:∀j (h:j<zs.length) (h':j<ids.length),ids[j]=zs[j].1.id:=λj h h'=>by
    have:ids[j]?=some zs[j].1.id:=by rw[← hids,List.getElem?_map,List.getElem?_eq_getElem h];rfl
    rw[List.getElem?_eq_getElem h']at this
    exact Option.some.inj this
   have hgK:∀j (h:j<zs.length),getK PF.id s.R zs[j].1.id=some zs[j].1:=λj h=>getK_of hok.sorted (by rw[← he];exact List.mem_map.2 ⟨_,hzm _ (List.getElem_mem h),rfl⟩)
   have hE3:∀{w:World} {l F':List Chunk},loadsG s.R ids none [] true=none→SL W (.ob (RDO H xp s)::.mem H::F) w→∃post,ROpenQ H xp (openG s base size) (.tuple #[.pointer none,.int .i64 3]) post∧SL W (app post F) w:=λh hS=>hE (by rw[eo,h]) (by decide) hS
   have hRA0:RAt s.R ids 0 [] true 0 (N+100000):=⟨Nat.zero_le _,rfl,.inl ⟨rfl,rfl⟩,λh=>by omega,by simp⟩
   refine⟨λvs w=>∃(i:Nat) (next:Int) (L:List PSeg) (wh:Bool),vs=[.int .i64 next,.int .i64 i]∧RAt s.R ids i L wh next (N+100000)∧SL W (.ob (RLogO lp xp ⟨L,base,size,none⟩)::.ob (FilesO ov zs)::.pt xp (rcells fv s) 66::.ob (FilesO fv ys)::.mem H::F) w,
    λvs _=>match vs with|[_,.int _ i]=>(ids.length-i).toNat|_=>0,⟨0,0,[],true,rfl,hRA0,SL.into hS Xi⟩,?_⟩
   clear hS hRA0
   rintro v10 v11 w ⟨i,next,L,wh,hvs,hA,hS⟩
   cases hvs
   have hile:=hA.le
   have hLl:L.length≤100000:=by rcases hA.len with ⟨_,h⟩|⟨_,_,h⟩<;>omega
   have hLO:(⟨L,base,size,none⟩:PLog).Ok (N+100000):=⟨hA.ok,by show 0≤base;omega,by show base≤12288;omega,by show 64≤size;omega,by show size≤65536;omega,by show L.length≤_;omega⟩
   refine zx hS (v:=ov) (t:=186) (sz:=3) (n:=zs.length) (cells:=(zs.map encRF).flatten) Xh ?_
   refine Gp ?_
   refine zc (λh1=>?_) (λh1=>?_)
   ·have hiz:i<zs.length:=by omega
    have hii:i<ids.length:=by omega
    have hwh:wh=true∧L.length=i:=by
     rcases hA.len with h|⟨_,h,_⟩
     ·exact h
     ·omega
    obtain⟨rfl,hLi⟩:=hwh
    have hx:zs[i]?=some zs[i]:=List.getElem?_eq_getElem hiz
    have hid:=hget i hiz hii
    have hgk:=hgK i hiz
    have hyB:=hrb _ (hzm _ (List.getElem_mem hiz))
    have hfi:=hi _ (List.getElem_mem hii)
    have heq:=hA.eq
    rw[List.drop_eq_getElem_cons hii,loadsG_cons,hid]at heq
    rw[hid]at hfi
    have hyN:zs[i].1.b.length≤N:=hw.at_ hfi _ hgk
    have hgap:0<i→∀h:i-1<zs.length,gapG (if i=0 then none else ids[i-1]?) zs[i].1.id=decide (zs[i].1.id≠zs[i-1].1.id+1):=λh0 h=>by
     rw[if_neg (by omega),List.getElem?_eq_getElem (show i-1<ids.length by omega),hget (i-1) h (by omega)];rfl
    have hgap0:i=0→gapG (if i=0 then none else ids[i-1]?) zs[i].1.id=false:=λh=>by rw[if_pos h];rfl
    have hlast:(ids.drop (i+1)).isEmpty=decide (i+1=ids.length):=by
     rw[Bool.eq_iff_iff,decide_eq_true_iff,List.isEmpty_iff,List.drop_eq_nil_iff]
     omega
    rw[hlast]at heq
    have hload:loadG L s.R zs[i].1.id (decide (i+1=ids.length))=match readS zs[i].1.b with
     | none=>((false,decide (i+1=ids.length)),L)
     | some (first,l,n)=>if ((decide (i+1=ids.length)=false∧(n≠zs[i].1.b.length∨l.length=0))∨(0<L.length∧first≠headG L+1)∨1099511627776<first+l.length-1) then ((true,false),L)
      else ((true,true),L++[⟨zs[i].1.id,first,n,l⟩]):=by
     unfold loadG
     rw[hgk];rfl
    have hlok:=loadG_ok (L:=L) (f:=zs[i].1.id) (last:=decide (i+1=ids.length)) (M:=N+100000) (hw.at_ hfi) (by omega) (by omega) (by omega) hA.ok
    have hpid:∀h:i-1<zs.length,(zs[i-1]?)=some zs[i-1]:=λh=>List.getElem?_eq_getElem h
    have hpr:∀h:i-1<zs.length,base≤zs[i-1].1.id∧zs[i-1].1.id<base+4096:=λh=>by
     have:=hi _ (List.getElem_mem (show i-1<ids.length by omega))
     rwa [hget (i-1) h (by omega)]at this
    refine zZ hS (v:=ov) (t:=186) Xh encRF_len hx hiz ?_
    generalize zs[i]=y at *
    obtain⟨yf,yv⟩:=y
    simp only at *
    obtain⟨_,ya,yc,rfl,_,_⟩:=id hyB
    refine zN hS ?_
    clear hS;intro fb w hS
    refine zL (vs:=[.int .i64 yf.id,.int .i64 (yf.safe:Int),.slice ya yf.b.length yc]) hS Xu rfl rfl (by simp[Value.oneCell']) ?_
    clear hS;intro w hS
    by_cases hg:gapG (if i=0 then none else ids[i-1]?) yf.id=true
    ·
     have hno:loadsG s.R ids none [] true=none:=by
      rw[heq]
      split
      ·rfl
      ·first|rfl|rw[if_pos hg]
     refine⟨λvs w=>False,?_,λw h=>h.elim⟩
     refine Gn λw hS=>?_
     refine zc (λh2=>?_) (λh2=>?_)
     ·have hj0:i-1<zs.length:=by omega
      refine Gp ?_
      have e:((i:Nat):Int)-1=((i-1:Nat):Int):=by omega
      rw[e]
      have hp2:=hpr hj0
      refine zD (i:=0) hS (v:=ov) (t:=186) Xh encRF_len (hpid hj0) hj0 (u:=.int .i64 zs[i-1].1.id) rfl ?_
      refine Gp ?_
      have hgv:=hgap (by omega) hj0
      rw[hg]at hgv
      refine zc (λh3=>?_) (λh3=>absurd (of_decide_eq_true hgv.symm) h3)
      exact hE3 (l:=[]) (F':=[]) hno (SL.into (hcl hS Xp) Xi)
     ·rw[hgap0 (by omega)]at hg;cases hg
    ·rw[if_neg hg]at heq
     refine⟨λvs w=>vs=[]∧SL W (.pt fb [.int .i64 yf.id,.int .i64 (yf.safe:Int),.slice ya yf.b.length yc] 186::.ob (RLogO lp xp ⟨L,base,size,none⟩)::.ob (FilesO ov zs)::.pt xp (rcells fv s) 66::.ob (FilesO fv ys)::.mem H::F) w,?_,?_⟩
     ·refine Gn λw hS=>?_
      refine zc (λh2=>?_) (λh2=>⟨rfl,SL.into hS Xi⟩)
      have hj0:i-1<zs.length:=by omega
      refine Gp ?_
      have e:((i:Nat):Int)-1=((i-1:Nat):Int):=by omega
      rw[e]
      have hp2:=hpr hj0
      refine zD (i:=0) hS (v:=ov) (t:=186) Xh encRF_len (hpid hj0) hj0 (u:=.int .i64 zs[i-1].1.id) rfl ?_
      refine Gp ?_
      have hgv:=hgap (by omega) hj0
      refine zc (λh3=>absurd (by rw[hgv];exact decide_eq_true h3) hg) (λh3=>?_)
      exact⟨rfl,SL.into hS Xi⟩
     ·clear hS
      rintro w ⟨-,hS⟩
      refine Gp ?_
      have hyr:Rdb (.mem H) (.slice ya yf.b.length yc) yf.b:=Rdb.rd hyB
      (refine Cc (qS (.mem H) _ yf.b hyr (by omega)) ?_;clear hS)
      rintro r post hQ w hS
      unfold ReadQ2 at hQ
      cases hr:readS yf.b with
      | none=>
       rw[hr]at hQ hload
       obtain⟨rfl,rfl⟩:=hQ
       simp only at hload
       rw[hload]at heq
       (try simp only[app]at hS);refine Gp ?_
       refine⟨λvs w=>vs=[.bool false]∧SL W (.pt fb [.int .i64 yf.id,.int .i64 (yf.safe:Int),.slice ya yf.b.length yc] 186::.ob (RLogO lp xp ⟨L,base,size,none⟩)::.ob (FilesO ov zs)::.pt xp (rcells fv s) 66::.ob (FilesO fv ys)::.mem H::F) w,?_,?_⟩
       ·refine Gp ?_
        refine zc (λh=>absurd h (by decide)) (λ_=>⟨rfl,SL.into hS Xi⟩)
       ·clear hS
        rintro v17 w ⟨hvs,hS⟩
        cases hvs
        refine⟨λvs w=>vs=[.bool (decide (i+1≠ids.length))]∧SL W (.pt fb [.int .i64 yf.id,.int .i64 (yf.safe:Int),.slice ya yf.b.length yc] 186::.ob (RLogO lp xp ⟨L,base,size,none⟩)::.ob (FilesO ov zs)::.pt xp (rcells fv s) 66::.ob (FilesO fv ys)::.mem H::F) w,?_,?_⟩
        ·refine zx hS (v:=ov) (t:=186) (sz:=3) (n:=zs.length) (cells:=(zs.map encRF).flatten) Xh ?_
         refine Gp ?_
         refine zc (λh=>?_) (λh=>?_)
         ·rw[decide_eq_true (show i+1≠ids.length by omega)]
          refine zP ?_
          refine zy ?_
          exact⟨rfl,SL.into hS Xi⟩
         ·rw[decide_eq_false (show ¬i+1≠ids.length by omega)]
          refine Gp ?_
          refine zc (λh=>absurd h (by decide)) (λ_=>⟨rfl,SL.into hS Xi⟩)
        ·clear hS
         rintro v114 w ⟨hvs,hS⟩
         cases hvs
         refine zc (λhb=>?_) (λhb=>?_)
         ·rw[decide_eq_false (show ¬i+1=ids.length from hb),if_pos rfl]at heq
          exact hE3 (l:=[]) (F':=[]) heq (SL.into (hcl hS Xp) Xi)
         ·have hb':i+1=ids.length:=Classical.not_not.1 hb
          rw[decide_eq_true hb',if_neg (by simp)]at heq
          refine Gp ?_
          refine zc (λ_=>?_) (λh=>absurd (by decide) h)
          refine Gp ?_
          refine⟨⟨i+1,next,L,false,rfl,⟨by omega,?_,.inr ⟨rfl,hb',by omega⟩,λ_ h=>(by cases h),hA.ok⟩,SL.into hS Xi⟩,by dsimp only;omega⟩
          rw[heq,if_neg (by omega),Nat.add_sub_cancel,List.getElem?_eq_getElem hii,hid]
      | some q=>
       obtain⟨first,l,n⟩:=q
       have hrk:=readS_ok hr
       obtain⟨r1,r2,r3,r4,r5⟩:=hrk
       rw[hr]at hQ hload
       obtain⟨u,es,hes,rfl,rfl⟩:=hQ
       simp only at hload
       (try simp only[app]at hS)
       have hel:l.length=es.length:=by rw[← hes,byts_len]
       obtain⟨ua,uc,rfl,_⟩:=OwnSo.at hS (v:=u) .hd
       refine Gp ?_
       refine⟨λvs w=>vs=[.bool (decide (n=yf.b.length∧0<es.length))]∧SL W (.pt fb [.int .i64 yf.id,.int .i64 (yf.safe:Int),.slice ya yf.b.length yc] 186::.ob (OwnSo (.slice ua es.length uc) 62 1 es.length (vals es))::.ob (zh BEntO es)::.ob (RLogO lp xp ⟨L,base,size,none⟩)::.ob (FilesO ov zs)::.pt xp (rcells fv s) 66::.ob (FilesO fv ys)::.mem H::F) w,?_,?_⟩
       ·refine Gp ?_
        refine zc (λ_=>?_) (λh=>absurd rfl h)
        refine Gp ?_
        refine zc (λh=>?_) (λh=>?_)
        ·refine Gp ?_
         refine⟨?_,SL.into hS Xi⟩
         congr 2
         rw[Bool.eq_iff_iff,decide_eq_true_iff,decide_eq_true_iff];omega
        ·refine⟨?_,SL.into hS Xi⟩
         rw[decide_eq_false (show ¬(n=yf.b.length∧0<es.length) by omega)]
       ·clear hS
        rintro v17 w ⟨hvs,hS⟩
        cases hvs
        refine⟨λvs w=>vs=[.bool (decide ((i+1≠ids.length∧¬(n=yf.b.length∧0<es.length))∨(0<i∧first≠next)))]∧SL W (.pt fb [.int .i64 yf.id,.int .i64 (yf.safe:Int),.slice ya yf.b.length yc] 186::.ob (OwnSo (.slice ua es.length uc) 62 1 es.length (vals es))::.ob (zh BEntO es)::.ob (RLogO lp xp ⟨L,base,size,none⟩)::.ob (FilesO ov zs)::.pt xp (rcells fv s) 66::.ob (FilesO fv ys)::.mem H::F) w,?_,?_⟩
        ·have hq2:∀b:Bool,(b=decide ((i+1≠ids.length∧¬(n=yf.b.length∧0<es.length))∨(0<i∧first≠next)))→[Value.bool b]=[.bool (decide ((i+1≠ids.length∧¬(n=yf.b.length∧0<es.length))∨(0<i∧first≠next)))]:=λb h=>by rw[h]
         refine zx hS (v:=ov) (t:=186) (sz:=3) (n:=zs.length) (cells:=(zs.map encRF).flatten) Xh ?_
         refine Gp ?_
         refine zc (λh=>?_) (λh=>?_)
         ·refine zP ?_
          by_cases hw:n=yf.b.length∧0<es.length
          ·rw[decide_eq_true hw]
           refine zt ?_
           refine Gp ?_
           refine zc (λ_=>?_) (λh=>absurd rfl h)
           refine Gp ?_
           refine zc (λh2=>?_) (λh2=>?_)
           ·refine Gp ?_
            refine⟨hq2 _ ?_,SL.into hS Xi⟩
            rw[Bool.eq_iff_iff,decide_eq_true_iff,decide_eq_true_iff]
            constructor
            ·intro h;exact .inr ⟨by omega,h⟩
            ·rintro (⟨_,h⟩|⟨_,h⟩)
             ·exact absurd hw h
             ·exact h
           ·refine⟨hq2 _ ?_,SL.into hS Xi⟩
            refine (decide_eq_false ?_).symm
            rintro (⟨_,h⟩|⟨h,_⟩)
            ·exact absurd hw h
            ·omega
          ·rw[decide_eq_false hw]
           refine zy ?_
           exact⟨hq2 _ (decide_eq_true (.inl ⟨by omega,hw⟩)).symm,SL.into hS Xi⟩
         ·refine Gp ?_
          refine zc (λ_=>?_) (λh=>absurd rfl h)
          refine Gp ?_
          refine zc (λh2=>?_) (λh2=>?_)
          ·refine Gp ?_
           refine⟨hq2 _ ?_,SL.into hS Xi⟩
           rw[Bool.eq_iff_iff,decide_eq_true_iff,decide_eq_true_iff]
           constructor
           ·intro h;exact .inr ⟨by omega,h⟩
           ·rintro (⟨h,_⟩|⟨_,h⟩)
            ·omega
            ·exact h
          ·refine⟨hq2 _ ?_,SL.into hS Xi⟩
           refine (decide_eq_false ?_).symm
           rintro (⟨h,_⟩|⟨h,_⟩)<;>omega
        ·clear hS
         rintro v114 w ⟨hvs,hS⟩
         cases hvs
         have hnx:0<i→next=headG L+1:=λh=>hA.next h rfl
         refine zc (λhb=>?_) (λhb=>?_)
         ·rw[hload,if_pos (c:=(decide (i+1=ids.length)=false∧(n≠yf.b.length∨l.length=0))∨(0<L.length∧first≠headG L+1)∨1099511627776<first+l.length-1) (by
           rcases hb with ⟨h1,h2⟩|⟨h1,h2⟩
           ·exact .inl ⟨decide_eq_false h1,by rw[hel];omega⟩
           ·exact .inr (.inl ⟨by omega,by rw[← hnx h1];exact h2⟩)),if_pos rfl]at heq
          exact hE3 (l:=[]) (F':=[]) heq (SL.into (hcl hS Xp) Xi)
         ·refine Gp ?_
          refine zc (λh=>absurd rfl h) (λ_=>?_)
          refine Gp ?_
          refine zc (λhmx=>?_) (λhmx=>?_)
          ·rw[hload,if_pos (c:=(decide (i+1=ids.length)=false∧(n≠yf.b.length∨l.length=0))∨(0<L.length∧first≠headG L+1)∨1099511627776<first+l.length-1) (.inr (.inr (by rw[hel];omega))),if_pos rfl]at heq
           exact hE3 (l:=[]) (F':=[]) heq (SL.into (hcl hS Xp) Xi)
          ·have hcond:¬((decide (i+1=ids.length)=false∧(n≠yf.b.length∨l.length=0))∨(0<L.length∧first≠headG L+1)∨1099511627776<first+l.length-1):=by
            rintro (⟨h1,h2⟩|⟨h1,h2⟩|h)
            ·exact hb (.inl ⟨of_decide_eq_false h1,by rw[hel]at h2;omega⟩)
            ·exact hb (.inr ⟨by omega,by rw[hnx (by omega)];exact h2⟩)
            ·rw[hel]at h;omega
           rw[hload,if_neg hcond,if_neg (by simp)]at heq
           rw[hload,if_neg hcond]at hlok
           simp only at heq hlok
           obtain⟨sv,xs,hx2,hS⟩:=RLogO.openN (SL.into hS (t:=.ob (RLogO lp xp ⟨L,base,size,none⟩)::.pt fb [.int .i64 yf.id,.int .i64 (yf.safe:Int),.slice ya yf.b.length yc] 186::.ob (OwnSo (.slice ua es.length uc) 62 1 es.length (vals es))::.ob (zh BEntO es)::.ob (FilesO ov zs)::.pt xp (rcells fv s) 66::.ob (FilesO fv ys)::.mem H::F) Xi)
           have hxl:xs.length=L.length:=by
            have:=congrArg List.length hx2
            rwa [List.length_map]at this
           refine Gm λb w hS=>?_
           have hone0:=OwnSo.one hS (v:=sv) (t:=259) (sz:=4) (n:=xs.length) (cells:=(xs.map xcells).flatten) Xh
           refine y3 (t:=259) (sz:=4) (n:=xs.length) (cells:=(xs.map xcells).flatten) (m:=1) (cs:=[.int .i64 yf.id,.int .i64 first,.int .i64 n,.slice ua es.length uc]) hS Xr (src_pt0 hS .hd rfl) rfl rfl (by simp[Value.oneCell']) (by omega) (by omega) ?_
           clear hS;intro sv' w hS
           have hone:=OwnSo.one hS (v:=sv') .hd
           refine Gn λw hS=>?_
           have hS:=(XSegO.iff (x:=⟨yf.id,first,n,es,ua,uc⟩)).2 (SL.into hS (t:=.ob (OwnSo (.slice ua es.length uc) 62 1 es.length (vals es))::.ob (zh BEntO es)::.ob (zh XSegO xs)::.pt lp (rlcells sv' xp base size (-1)) 254::.ob (OwnSo sv' 259 4 (xs.length+1) ((xs.map xcells).flatten++[.int .i64 yf.id,.int .i64 first,.int .i64 n,.slice ua es.length uc]))::.ob (FilesO ov zs)::.pt xp (rcells fv s) 66::.ob (FilesO fv ys)::.mem H::F) Xi)
           have hS:=zh.snoc (hS.into (t:=.ob (zh XSegO xs)::.ob (XSegO ⟨yf.id,first,n,es,ua,uc⟩)::.pt lp (rlcells sv' xp base size (-1)) 254::.ob (OwnSo sv' 259 4 (xs.length+1) ((xs.map xcells).flatten++[.int .i64 yf.id,.int .i64 first,.int .i64 n,.slice ua es.length uc]))::.ob (FilesO ov zs)::.pt xp (rcells fv s) 66::.ob (FilesO fv ys)::.mem H::F) Xi)
           have e1:xs.length+1=(xs++[(⟨yf.id,first,n,es,ua,uc⟩:XSeg)]).length:=by simp
           have e2:(xs.map xcells).flatten++[.int .i64 yf.id,.int .i64 first,.int .i64 n,.slice ua es.length uc]=((xs++[(⟨yf.id,first,n,es,ua,uc⟩:XSeg)]).map xcells).flatten:=by simp[xcells,XSeg.lv]
           rw[e1,e2]at hS
           have hx3:(xs++[(⟨yf.id,first,n,es,ua,uc⟩:XSeg)]).map XSeg.pl=L++[⟨yf.id,first,n,l⟩]:=by
            have:xs.map XSeg.pl=L:=hx2
            rw[List.map_append,this];simp[XSeg.pl,hes]
           have hS:=RLogO.closeN (L:=L++[⟨yf.id,first,n,l⟩]) (base:=base) (size:=size) (lp:=lp) (xp:=xp) (F:=.ob (FilesO ov zs)::.pt xp (rcells fv s) 66::.ob (FilesO fv ys)::.mem H::F) hS hx3 Xi
           have hnew:headG (L++[⟨yf.id,first,n,l⟩])+1=first+es.length:=by
            rw[headG_snoc];simp only[PSeg.next,hel];omega
           refine⟨⟨i+1,first+es.length,L++[⟨yf.id,first,n,l⟩],true,rfl,⟨by omega,?_,.inl ⟨rfl,by simp;omega⟩,λ_ _=>hnew.symm,hlok.1⟩,SL.into hS Xi⟩,by dsimp only;omega⟩
           rw[heq,if_neg (by omega),Nat.add_sub_cancel,List.getElem?_eq_getElem hii,hid]
   ·have hie:i=ids.length:=by omega
    have heq:=hA.eq
    rw[hie,List.drop_length]at heq
    simp only[loadsG]at heq
    rw[heq]at eo
    simp only at eo
    refine zx hS (v:=ov) (t:=186) (sz:=3) (n:=zs.length) (cells:=(zs.map encRF).flatten) Xh ?_
    refine Gp ?_
    refine zc (λh2=>?_) (λh2=>?_)
    ·have hnil:ids=[]:=List.eq_nil_of_length_eq_zero (by omega)
     have hb:beginG L s ids wh=(s,0):=by rw[hnil];rfl
     rw[hb,if_neg (by simp)]at eo
     rw[eo]
     have hS:=hcl hS Xp
     exact⟨_,⟨lp,H,Heap.le_refl H,rfl,rfl⟩,SL.into hS Xi⟩
    ·have hj:ids.length-1<ids.length:=by omega
     have hjz:zs.length-1<zs.length:=by omega
     have hx:zs[zs.length-1]?=some zs[zs.length-1]:=List.getElem?_eq_getElem hjz
     have hgl:ids.getLast?=some zs[zs.length-1].1.id:=by
      rw[List.getLast?_eq_getElem?,← hzl,List.getElem?_eq_getElem (by omega),hget _ hjz]
     have hgk:=hgK _ hjz
     have hyB:=hrb _ (hzm _ (List.getElem_mem hjz))
     refine zx hS (v:=ov) (t:=186) (sz:=3) (n:=zs.length) (cells:=(zs.map encRF).flatten) Xh ?_
     refine Gp ?_
     have e:((zs.length:Nat):Int)-1=((zs.length-1:Nat):Int):=by omega
     rw[e]
     refine zZ hS (v:=ov) (t:=186) Xh encRF_len hx hjz ?_
     generalize zs[zs.length-1]=y at *
     obtain⟨yf,yv⟩:=y
     simp only at *
     obtain⟨_,ya,yc,rfl,_,_⟩:=id hyB
     refine zN hS ?_
     clear hS;intro fb w hS
     refine zL (vs:=[.int .i64 yf.id,.int .i64 (yf.safe:Int),.slice ya yf.b.length yc]) hS Xu rfl rfl (by simp[Value.oneCell']) ?_
     clear hS;intro w hS
     obtain⟨sv,xs,hx2,hS⟩:=RLogO.openN (SL.into hS (t:=.ob (RLogO lp xp ⟨L,base,size,none⟩)::.pt fb [.int .i64 yf.id,.int .i64 (yf.safe:Int),.slice ya yf.b.length yc] 186::.ob (FilesO ov zs)::.pt xp (rcells fv s) 66::.ob (FilesO fv ys)::.mem H::F) Xi)
     have hx2:xs.map XSeg.pl=L:=hx2
     have hxl:xs.length=L.length:=by rw[← hx2,List.length_map]
     refine Gp ?_
     refine zV hS (v:=sv) (t:=259) (sz:=4) (n:=xs.length) (cells:=(xs.map xcells).flatten) Xh ?_
     refine zx hS (v:=ov) (t:=186) (sz:=3) (n:=zs.length) (cells:=(zs.map encRF).flatten) Xh ?_
     refine Gp ?_
     refine zc (λh3=>?_) (λh3=>?_)
     ·have hwf:wh=false:=by rcases hA.len with ⟨_,h⟩|⟨h,_⟩;omega;exact h
      have hb:beginG L s ids wh=s.remove yf.id:=by
       unfold beginG;rw[hgl,hwf];rfl
      rw[hb]at eo
      rw[eo]
      refine Gp ?_
      have hS:=hcl hS Xp
      (refine Cc (Zi H xp s B hok hops hR yf.id) ?_;clear hS)
      rintro v post ⟨rfl,rfl⟩ w hS;(try simp only[app]at hS);refine Gp ?_
      refine zc (λh4=>?_) (λh4=>?_)
      ·rw[if_pos h4]
       exact⟨_,⟨h4,rfl,H,Heap.le_refl H,rfl⟩,SL.into hS Xi⟩
      ·rw[if_neg h4]
       have hS:=RLogO.closeN (L:=L) (base:=base) (size:=size) (lp:=lp) (xp:=xp) (F:=.ob (RDO H xp (s.remove yf.id).1)::.mem H::F) hS hx2 Xi
       exact⟨_,⟨lp,H,Heap.le_refl H,rfl,rfl⟩,SL.into hS Xi⟩
     ·have hwt:wh=true:=by rcases hA.len with ⟨h,_⟩|⟨_,_,h⟩;exact h;omega
      have hlenF:lenF s.R yf.id=yf.b.length:=by unfold lenF;rw[hgk]
      have hb:beginG L s ids wh=if lastSize L<(yf.b.length:Int) then s.cut yf.id (lastSize L) else (s,0):=by
       unfold beginG;rw[hgl,hwt]
       simp only[hlenF]
       rw[if_neg (by decide)]
      rw[hb]at eo
      have hjx:xs.length-1<xs.length:=by omega
      have hlz:lastSize L=((xs[xs.length-1]'hjx).size:Nat):=by
       unfold lastSize
       rw[← hx2,List.getLast?_map,List.getLast?_eq_getElem?,List.getElem?_eq_getElem hjx];rfl
      rw[hlz]at eo
      have ex:((xs.length:Nat):Int)-1=((xs.length-1:Nat):Int):=by omega
      refine Gn λw hS=>?_
      refine Cg (z8 lp xp sv xs base size (-1) (by omega)) λw hS=>?_
      rw[ex]
      refine yh (i:=2) hS Xh hjx (u:=.int .i64 ((xs[xs.length-1]'hjx).size:Nat)) rfl ?_
      generalize hz:(xs[xs.length-1]'hjx).size=z at *
      refine Gp ?_
      refine zc (λh4=>?_) (λh4=>?_)
      ·rw[if_pos h4]at eo
       rw[eo]
       refine Gn λw hS=>?_
       refine Cg (z8 lp xp sv xs base size (-1) (by omega)) λw hS=>?_
       rw[ex]
       refine yh (i:=2) hS Xh hjx (u:=.int .i64 (z:Int)) (by show some (Value.int .i64 ((xs[xs.length-1]'hjx).size:Nat))=_;rw[hz]) ?_
       have hS:=hcl hS Xp
       (refine Cc (Yh H xp s B hok hB hops hR yf.id (z:Int)) ?_;clear hS)
       rintro v post ⟨rfl,H',hH,rfl⟩ w hS;(try simp only[app]at hS);refine Gp ?_
       refine zc (λh5=>?_) (λh5=>?_)
       ·rw[if_pos h5]
        exact⟨_,⟨h5,rfl,H',hH,rfl⟩,SL.into hS Xi⟩
       ·rw[if_neg h5]
        have hS:=RLogO.closeN (L:=L) (base:=base) (size:=size) (lp:=lp) (xp:=xp) (F:=.ob (RDO H' xp (s.cut yf.id (z:Int)).1)::.mem H'::F) hS hx2 Xi
        exact⟨_,⟨lp,H',hH,rfl,rfl⟩,SL.into hS Xi⟩
      ·rw[if_neg h4,if_neg (by simp)]at eo
       rw[eo]
       have hS:=hcl hS Xp
       have hS:=RLogO.closeN (L:=L) (base:=base) (size:=size) (lp:=lp) (xp:=xp) (F:=.ob (RDO H xp s)::.mem H::F) hS hx2 Xi
       exact⟨_,⟨lp,H,Heap.le_refl H,rfl,rfl⟩,SL.into hS Xi⟩
section
variable {W w:World} {l F:List Chunk}
theorem RLogO.put{lp xp:Nat}(g:PLog){sv:Value}{xs:List XSeg}(hS:SL W l w)(hx:xs.map XSeg.pl=g.segs)(p:Pick [.pt lp (rlcells sv xp g.base g.size (tornI g.torn)) 254,RowR sv xs,.ob (zh XSegO xs)] l F):SL W (.ob (RLogO lp xp g)::F) w:=RLogO.iff.2 ⟨sv,xs,hx,hS.pick p⟩
theorem RLogO.putN{lp xp:Nat}{L:List PSeg}{base size ti:Int}(tn:Option PTorn){sv:Value}{xs:List XSeg}(hS:SL W l w)(hx:xs.map XSeg.pl=L)(p:Pick [.pt lp (rlcells sv xp base size ti) 254,RowR sv xs,.ob (zh XSegO xs)] l F)(ht:tornI tn=ti:=by rfl):SL W (.ob (RLogO lp xp ⟨L,base,size,tn⟩)::F) w:=by subst ht;exact RLogO.iff.2 ⟨sv,xs,hx,hS.pick p⟩
theorem XSegO.put(x:XSeg)(hS:SL W l w)(p:Pick [.ob (OwnSo x.lv 62 1 x.es.length (vals x.es)),.ob (zh BEntO x.es)] l F):SL W (.ob (XSegO x)::F) w:=XSegO.iff.2 (hS.pick p)
theorem RDO.put{H:Heap}{xp:Nat}(s:DS){fv:Value}{ys:List YF}(hS:SL W l w)(he:ys.map Prod.fst=s.R∧RdB H ys)(p:Pick [.pt xp (rcells fv s) 66,.ob (FilesO fv ys)] l F):SL W (.ob (RDO H xp s)::F) w:=RDO.iff.2 ⟨fv,ys,he,hS.pick p⟩
theorem zh.takeP{α:Type}{A:α→zC}{xs:List α}{t:Nat}{x:α}(hS:SL W l w)(hx:xs[t]?=some x)(r:Rem (.ob (zh A xs)) l F):SL W (.ob (A x)::.ob (zh A (xs.eraseIdx t))::F) w:=zh.take (hS.perm r.perm) hx
theorem zh.putP{α:Type}{A:α→zC}{xs:List α}{t:Nat}(y:α)(hS:SL W l w)(ht:t<xs.length)(p:Pick [.ob (A y),.ob (zh A (xs.eraseIdx t))] l F):SL W (.ob (zh A (xs.set t y))::F) w:=zh.put (hS.pick p) ht
theorem zh.snocP{α:Type}{A:α→zC}{xs:List α}(x:α)(hS:SL W l w)(p:Pick [.ob (zh A xs),.ob (A x)] l F):SL W (.ob (zh A (xs++[x]))::F) w:=zh.snoc (hS.pick p)
theorem RDO.monoP{H H':Heap}{xp:Nat}{s:DS}(hh:H.le H')(hS:SL W l w)(r:Rem (.ob (RDO H xp s)) l F):SL W (.ob (RDO H' xp s)::F) w:=RDO.mono hh (hS.perm r.perm)
end
def RPlanQ(H:Heap)(lp xp:Nat)(g:PLog)(d:DS)(y:Except Int PWr)(r:Value)(post:List Chunk):Prop:=match y with
 | .error e=>e≠0∧r= .tuple #[.slice none 0 0,.int .i64 0,.bool false,.int .i64 e]∧post=[.ob (RLogO lp xp g),.ob (RDO H xp d),.mem H]
 | .ok x=>∃v,r= .tuple #[v,.int .i64 x.file,.bool x.fresh,.int .i64 0]∧post=[.ob (OwnSl v 5 1 x.b.length (x.b.map u8c)),.ob (RLogO lp xp g),.ob (RDO H xp d),.mem H]
theorem qR(H:Heap)(lp xp:Nat)(g:PLog)(d:DS)(v:Value)(p:List UInt8)(hv:RdSl H 1 v p.length (p.map u8c))(hp:p.length≤1048576){M:Nat}(hg:GOk g M)(hM:M≤1000000000000):
  SP 250 [.pointer (some ⟨lp,0,none⟩),v] [.ob (RLogO lp xp g),.ob (RDO H xp d),.mem H] (RPlanQ H lp xp g d (planG g d.off p)):=by
 intro W F w hS;apply vc250;unfold Vc250;(try simp only[app]at hS)
 obtain⟨sv,xs,hx,hS⟩:=RLogO.iff.1 hS
 obtain⟨hok,hl,hh0,hh1⟩:=hg.ok.xs hx
 have hb0:=hg.ok.b0
 have hb1:=hg.ok.b1
 have hs1:=hg.ok.s1
 have hs0:=hg.ok.s0
 have hhd:=hg.hd
 obtain⟨fv,ys,he,hS⟩:=RDO.iff.1 (Has.front (c:=.ob (RDO H xp d)) hS Xr)
 refine Gp ?_
 have hbig:¬1048576<p.length:=by omega
 refine yZ (λho=>?_) (λho=>?_)
 ·have hpl:planG g d.off p= .error 8:=by unfold planG;rw[if_neg hbig,if_pos ho]
  rw[hpl]
  have hS:=RDO.put d hS he Xp
  have hS:=RLogO.put g hS hx Xp
  exact⟨_,⟨by decide,rfl,rfl⟩,SL.into hS Xi⟩
 have hS:=RDO.put d hS he Xp
 have ho':¬d.off=true:=by rw[ho];decide
 (refine Cc (Zr (.mem H) v p (.rd hv) (by omega)) ?_;clear hS)
 rintro r post hQ w hS
 unfold PutQ at hQ
 rw[if_neg hbig]at hQ
 obtain⟨u,rfl,rfl⟩:=hQ
 (try simp only[app]at hS);refine Gp ?_
 have hrl:=recB_len p
 refine Cg (z8 lp xp sv xs g.base g.size (tornI g.torn) (by omega)) λw hS=>?_
 have hS:=RLogO.put g hS hx Xp
 refine Cg (zX lp xp g hg.ok hM) λw hS=>?_
 refine zc (λh1=>?_) (λh1=>?_)
 ·have hpl:planG g d.off p= .error 7:=by unfold planG;rw[if_neg hbig,if_neg ho',if_pos (by omega)]
  rw[hpl]
  exact⟨_,⟨by decide,rfl,rfl⟩,SL.into hS Xi⟩
 have hu1:=OwnSl.one (Has.front (c:=.ob (OwnSl u 5 1 (recB p).length ((recB p).map u8c))) hS Xr)
 obtain⟨sv,xs,hx',hS⟩:=RLogO.iff.1 (Has.front (c:=.ob (RLogO lp xp g)) hS Xr)
 have hlx:xs.length=g.segs.length:=by rw[← hx',List.length_map]
 have hlx':(xs.length:Int)-1=(‹List XSeg›.length:Int)-1:=rfl
 have hlen0:∀ys:List XSeg,ys.map XSeg.pl=g.segs→ys.length=xs.length:=λys h=>by rw[hlx,← h,List.length_map]
 rw[hlen0 _ hx]
 clear hlx'
 have hpl0:planG g d.off p=match g.segs.getLast? with
   | none=>freshG g g.base p
   | some s=>if s.l.length=0∨(s.size:Int)+(recB p).length≤g.size then .ok ⟨s.file,false,recB p⟩ else freshG g (s.file+1) p:=by
  unfold planG;rw[if_neg hbig,if_neg ho',if_neg (by omega)];rfl
 have hcase:xs=[]∧planG g d.off p=freshG g g.base p∨∃hj:xs.length-1<xs.length,planG g d.off p=if xs[xs.length-1].es.length=0∨(xs[xs.length-1].size:Int)+(recB p).length≤g.size then .ok ⟨xs[xs.length-1].file,false,recB p⟩ else freshG g (xs[xs.length-1].file+1) p:=by
  rcases Nat.eq_zero_or_pos xs.length with h0|h0
  ·left
   have:xs=[]:=List.eq_nil_of_length_eq_zero h0
   refine⟨this,?_⟩
   rw[hpl0,← hx',this];rfl
  ·right
   have hj:xs.length-1<xs.length:=by omega
   refine⟨hj,?_⟩
   rw[hpl0,← hx',List.getLast?_map,List.getLast?_eq_getElem?,List.getElem?_eq_getElem hj]
   simp[XSeg.pl,byts_len]
 have hsk:∀hj:xs.length-1<xs.length,SegOk (xs[xs.length-1]).pl M:=λhj=>by
  refine hg.ok.segs _ ?_
  rw[← hx'];exact List.mem_map.2 ⟨_,List.getElem_mem hj,rfl⟩
 refine⟨λus w=>∃q:Bool,us=[.bool q]∧(q=true↔∃hj:xs.length-1<xs.length,xs[xs.length-1].es.length=0∨(xs[xs.length-1].size:Int)+(recB p).length≤g.size)∧SL W (.pt lp (rlcells sv xp g.base g.size (tornI g.torn)) 254::RowR sv xs::.ob (zh XSegO xs)::.ob (OwnSl u 5 1 (recB p).length ((recB p).map u8c))::.ob (RDO H xp d)::.mem H::F) w,?_,?_⟩
 ·refine Gn λw hS=>?_
  refine zc (λh2=>?_) (λh2=>?_)
  ·have hj:xs.length-1<xs.length:=by omega
   have k3:=(hsk hj).sz
   have k3:xs[xs.length-1].size≤M:=k3
   rw[show (xs.length:Int)-1=((xs.length-1:Nat):Int) by omega]
   refine Gp ?_
   refine yh hS Xh hj (i:=3) rfl ?_
   unfold XSeg.lv
   refine Gp ?_
   refine zc (λh3=>?_) (λh3=>?_)
   ·exact⟨true,rfl,⟨λ_=>⟨hj,.inl (by omega)⟩,λ_=>rfl⟩,SL.into hS Xi⟩
   ·refine Gp ?_
    refine yh hS Xh hj (i:=2) rfl ?_
    refine zx hS (v:=u) Xh ?_
    refine Gp ?_
    refine⟨_,rfl,?_,SL.into hS Xi⟩
    rw[decide_eq_true_iff]
    constructor
    ·intro h;exact⟨hj,.inr (by omega)⟩
    ·rintro ⟨_,h|h⟩
     ·omega
     ·omega
  ·exact⟨false,rfl,⟨λh=>by (cases h),λ⟨hj,_⟩=>by omega⟩,SL.into hS Xi⟩
 clear hS
 rintro v62 w ⟨q,hus,hq,hS⟩
 cases hus
 refine yZ (λhqt=>?_) (λhqf=>?_)
 ·obtain⟨hj,hc⟩:=hq.1 hqt
  obtain⟨_,hpl⟩:∃_:True,planG g d.off p= .ok ⟨xs[xs.length-1].file,false,recB p⟩:=by
   rcases hcase with ⟨h0,_⟩|⟨_,h⟩
   ·subst h0;simp at hj
   ·exact⟨trivial,by rw[h,if_pos hc]⟩
  rw[hpl]
  rw[show (xs.length:Int)-1=((xs.length-1:Nat):Int) by omega]
  refine Gn λw hS=>?_
  refine yz hS (v:=sv) (t:=259) (sz:=4) (cells:=(xs.map xcells).flatten) Xh hj λab ao hb=>?_
  have hc0:=hb 0 (.int .i64 xs[xs.length-1].file) (by decide) (flat_at xcells_len xs _ 0 _ _ (List.getElem?_eq_getElem hj) rfl)
  refine zS ⟨_,_,rfl,hc0,?_⟩
  refine Gp ?_
  refine⟨_,_,rfl,hc0,⟨rfl,?_⟩⟩
  have hS:=RLogO.put g hS hx' Xp
  exact⟨_,⟨u,rfl,rfl⟩,SL.into hS Xi⟩
 ·have hnq:¬∃hj:xs.length-1<xs.length,xs[xs.length-1].es.length=0∨(xs[xs.length-1].size:Int)+(recB p).length≤g.size:=λh=>by rw[hq.2 h]at hqf;cases hqf
  refine Gp ?_
  refine⟨λus w=>∃f:Int,us=[.int .i64 f]∧planG g d.off p=freshG g f p∧0≤f∧f≤1000000∧SL W (.pt lp (rlcells sv xp g.base g.size (tornI g.torn)) 254::RowR sv xs::.ob (zh XSegO xs)::.ob (OwnSl u 5 1 (recB p).length ((recB p).map u8c))::.ob (RDO H xp d)::.mem H::F) w,?_,?_⟩
  ·refine Gp ?_
   refine zc (λh2=>?_) (λh2=>?_)
   ·have hj:xs.length-1<xs.length:=by omega
    have k1:0≤xs[xs.length-1].file:=(hsk hj).f0
    have k2:xs[xs.length-1].file≤100000:=(hsk hj).f1
    rw[show (xs.length:Int)-1=((xs.length-1:Nat):Int) by omega]
    refine Gp ?_
    refine yh hS Xh hj (i:=0) rfl ?_
    refine Gp ?_
    refine⟨_,rfl,?_,by omega,by omega,SL.into hS Xi⟩
    rcases hcase with ⟨h0,_⟩|⟨_,h⟩
    ·subst h0;simp at hj
    ·rw[h,if_neg λhc=>hnq ⟨hj,hc⟩]
   ·refine⟨_,rfl,?_,by omega,by omega,SL.into hS Xi⟩
    rcases hcase with ⟨_,h⟩|⟨hj,_⟩
    ·exact h
    ·omega
  ·clear hS
   rintro v11 w ⟨f,hus,hpl,f0,f1,hS⟩
   cases hus
   rw[hpl]
   unfold freshG
   refine Gp ?_
   refine zc (λh2=>?_) (λh2=>?_)
   ·rw[if_pos h2]
    have hS:=RLogO.put g hS hx' Xp
    exact⟨_,⟨by decide,rfl,rfl⟩,SL.into hS Xi⟩
   ·rw[if_neg h2]
    have hS:=RLogO.put g hS hx' Xp
    refine Cg (zX lp xp g hg.ok hM) λw hS=>?_
    (refine Cc (qP (headG g.segs+1)) ?_;clear hS)
    rintro r post hQ w hS
    unfold HeadQ at hQ
    rw[if_neg (by omega)]at hQ
    obtain⟨y,rfl,rfl⟩:=hQ
    (try simp only[app]at hS);refine Gp ?_
    have h2l:=recB_len (hdB (headG g.segs+1).toNat)
    have h3l:=hdB_len (headG g.segs+1).toNat
    refine zz hS .hd (src_own hS (v:=u) Xh) (by simp) rfl (u8c_one _) (by omega) (by omega) λz w hS=>?_
    refine⟨_,⟨z,rfl,rfl⟩,?_⟩
    rw[← List.map_append,← List.length_append]at hS
    exact SL.into hS Xi
abbrev RAns(lp xp:Nat)(H:Heap)(u:Value)(y:PLog × DS)(v:Value)(post:List Chunk):Prop:=v=u∧∃H',H.le H'∧post=[.ob (RLogO lp xp y.1),.ob (RDO H' xp y.2),.mem H']
theorem Y4(H:Heap)(lp xp:Nat)(g:PLog)(d:DS){M N:Nat}(hg:GOk g M)(hM:M≤1000000000000)(hok:d.Ok N)(hN:N≤140737480000000)(hops:d.ops≤90000):
  SP 251 [.pointer (some ⟨lp,0,none⟩)] [.ob (RLogO lp xp g),.ob (RDO H xp d),.mem H] (RAns lp xp H (.int .i64 (mendG g d).2) (mendG g d).1):=by
 intro W F w hS;apply vc251;unfold Vc251;(try simp only[app]at hS)
 have hR:=hok.rlen
 obtain⟨sv,xs,hx,hS⟩:=RLogO.iff.1 hS
 obtain⟨hxo,hl,_,_⟩:=hg.ok.xs hx
 refine Gp ?_
 cases ht:g.torn with
 | none=>
  have hm:mendG g d=((g,d),0):=by unfold mendG;rw[ht]
  rw[hm]
  refine zc (λ_=>?_) (λh=>absurd (show tornI none<0 by decide) h)
  have hS:=RLogO.put g hS hx Xp
  exact⟨_,⟨rfl,H,Heap.le_refl H,rfl⟩,SL.into hS Xi⟩
 | some x=>
  obtain⟨f0,f1,hold,hnew⟩:=hg.torn x ht
  have hm:mendG g d=(({g with torn:=if (if x.fresh=true then d.remove x.file else d.cut x.file x.had).2=0 then none else some x},(if x.fresh=true then d.remove x.file else d.cut x.file x.had).1),(if x.fresh=true then d.remove x.file else d.cut x.file x.had).2):=by unfold mendG;rw[ht]
  have hti:tornI (some x)=x.file:=rfl
  rw[ht]at hS
  rw[hti]at hS ⊢
  refine zc (λh=>by omega) (λ_=>?_)
  refine Cg (z8 lp xp sv xs g.base g.size x.file (by omega)) λw hS=>?_
  have hlast:∀hj:xs.length-1<xs.length,g.segs.getLast?=some xs[xs.length-1].pl:=λhj=>by
   rw[← hx,List.getLast?_map,List.getLast?_eq_getElem?,List.getElem?_eq_getElem hj];rfl
  generalize hz:(if x.fresh=true then d.remove x.file else d.cut x.file x.had)=z at hm
  have hfr:∀{w:World},x.fresh=true→SL W (.ob (RDO H xp d)::.mem H::.pt lp (rlcells sv xp g.base g.size x.file) 254::RowR sv xs::.ob (zh XSegO xs)::F) w→HCl 174 [.pointer (some ⟨xp,0,none⟩),.int .i64 x.file] w λv w'=>[v]=[.int .i64 z.2]∧∃H',H.le H'∧SL W (.pt lp (rlcells sv xp g.base g.size x.file) 254::RowR sv xs::.ob (zh XSegO xs)::.ob (RDO H' xp z.1)::.mem H'::F) w':=λhf hS=>by
   (refine Cc (Zi H xp d N hok (by omega) (by omega) x.file) ?_;clear hS)
   rintro v post ⟨rfl,rfl⟩ w hS
   rw[if_pos hf]at hz
   subst hz
   (try simp only[app]at hS)
   exact⟨rfl,H,Heap.le_refl H,SL.into hS Xi⟩
  refine⟨λus w=>us=[.int .i64 z.2]∧∃H',H.le H'∧SL W (.pt lp (rlcells sv xp g.base g.size x.file) 254::RowR sv xs::.ob (zh XSegO xs)::.ob (RDO H' xp z.1)::.mem H'::F) w,?_,?_⟩
  ·refine Gn λw hS=>?_
   refine zc (λh0=>?_) (λh0=>?_)
   ·have hj:xs.length-1<xs.length:=by omega
    have hl1:=hlast hj
    rw[show (xs.length:Int)-1=((xs.length-1:Nat):Int) by omega]
    refine Gp ?_
    refine yh hS Xh hj (i:=0) rfl ?_
    refine Gp ?_
    refine zc (λh1=>?_) (λh1=>?_)
    ·have hf:x.fresh=false:=by
      cases hb:x.fresh with
      | false=>rfl
      | true=>exact absurd h1 (hnew hb _ hl1)
     obtain⟨s,h2,h3,h4⟩:=hold hf
     rw[hl1]at h2
     cases h2
     refine Gn λw hS=>?_
     refine yh hS Xh hj (i:=2) rfl ?_
     (refine Cc (Yh H xp d N hok (by omega) (by omega) (by omega) x.file xs[xs.length-1].size) ?_;clear hS)
     rintro v post ⟨rfl,H',hh,rfl⟩ w hS
     (try simp only[app]at hS)
     rw[if_neg (by rw[hf];decide),h4]at hz
     have hz:d.cut x.file (xs[xs.length-1].size:Nat)=z:=hz
     rw[hz]at hS ⊢
     exact⟨rfl,H',hh,SL.into hS Xi⟩
    ·have hf:x.fresh=true:=by
      cases hb:x.fresh with
      | true=>rfl
      | false=>
       obtain⟨s,h2,h3,h4⟩:=hold hb
       rw[hl1]at h2
       cases h2
       exact absurd h3 h1
     refine Gn λw hS=>?_
     exact hfr hf (SL.into hS Xi)
   ·have hf:x.fresh=true:=by
     cases hb:x.fresh with
     | true=>rfl
     | false=>
      obtain⟨s,h2,_⟩:=hold hb
      have:xs=[]:=List.eq_nil_of_length_eq_zero (by omega)
      rw[← hx,this]at h2
      cases h2
    refine Gn λw hS=>?_
    exact hfr hf (SL.into hS Xi)
  ·clear hS
   rintro v3 w ⟨hus,H',hh,hS⟩
   cases hus
   rw[hm]
   refine Gp ?_
   refine zc (λhe=>?_) (λhe=>?_)
   ·rw[if_pos he]
    refine Gn λw hS=>?_
    have hS:=RLogO.putN none hS hx Xp
    exact⟨_,⟨rfl,H',hh,rfl⟩,SL.into hS Xi⟩
   ·rw[if_neg he]
    have hS:=RLogO.putN (some x) hS hx Xp
    exact⟨_,⟨rfl,H',hh,rfl⟩,SL.into hS Xi⟩
def apA(x:PWr)(y:(PLog × DS) × Int):(PLog × DS) × Int:=if y.2=0 then ((y.1.1,(y.1.2.append x.file x.b).1),(y.1.2.append x.file x.b).2) else y
def apS(x:PWr)(y:(PLog × DS) × Int):(PLog × DS) × Int:=if y.2=0 then ((y.1.1,(y.1.2.sync x.file).1),(y.1.2.sync x.file).2) else y
theorem appendG_st{g:PLog}{d:DS}{p:List UInt8}{x:PWr}(h:planG g d.off p= .ok x):appendG g d p=(let y:=apS x (apA x (mendG g d));if y.2=0 then (({y.1.1 with segs:=putG g.segs x p},y.1.2),(headG (putG g.segs x p),0)) else (y.1,(0,y.2))):=by
 have hs:=(mendG_same g d).1
 by_cases hm:(mendG g d).2=0
 ·have e1:apA x (mendG g d)=(((mendG g d).1.1,((mendG g d).1.2.append x.file x.b).1),((mendG g d).1.2.append x.file x.b).2):=if_pos hm
  by_cases ha:((mendG g d).1.2.append x.file x.b).2=0
  ·have e2:apS x (apA x (mendG g d))=(((mendG g d).1.1,(((mendG g d).1.2.append x.file x.b).1.sync x.file).1),(((mendG g d).1.2.append x.file x.b).1.sync x.file).2):=by rw[e1];exact if_pos ha
   simp only[e2]
   by_cases hk:(((mendG g d).1.2.append x.file x.b).1.sync x.file).2=0
   ·rw[if_pos hk,appendG_k h hm ha hk]
   ·rw[if_neg hk,appendG_s h hm ha hk]
  ·have e2:apS x (apA x (mendG g d))=(((mendG g d).1.1,((mendG g d).1.2.append x.file x.b).1),((mendG g d).1.2.append x.file x.b).2):=by rw[e1];exact if_neg ha
   simp only[e2]
   rw[if_neg ha,appendG_a h hm ha]
 ·have e1:apA x (mendG g d)=mendG g d:=if_neg hm
  have e2:apS x (apA x (mendG g d))=mendG g d:=by rw[e1];exact if_neg hm
  simp only[e2]
  rw[if_neg hm,appendG_m h hm]
theorem Z5(H:Heap)(lp xp:Nat)(g:PLog)(d:DS)(v:Value)(p:List UInt8)(hv:RdSl H 1 v p.length (p.map u8c))(hp:p.length≤140737488355328){M N:Nat}(hg:GOk g M)(hM:M≤100000000000)(hok:d.Ok N)(hN:N≤140737480000000)(hops:d.ops≤90000):
  SP 184 [.pointer (some ⟨lp,0,none⟩),v] [.ob (RLogO lp xp g),.ob (RDO H xp d),.mem H] (RAns lp xp H (.tuple #[.int .i64 (appendG g d p).2.1,.int .i64 (appendG g d p).2.2]) (appendG g d p).1):=by
 intro W F w hS;apply vc184;unfold Vc184;(try simp only[app]at hS)
 refine zn hv ?_
 refine Gp ?_
 refine zc (λhbig=>?_) (λhbig=>?_)
 ·have hpl:planG g d.off p= .error 1:=by unfold planG;rw[if_pos (by omega)]
  rw[appendG_er hpl]
  exact⟨_,⟨rfl,H,Heap.le_refl H,rfl⟩,SL.into hS Xi⟩
 (refine Cc (qR H lp xp g d v p hv (by omega) hg (by omega)) ?_;clear hS)
 rintro r post hQ w hS
 cases hpl:planG g d.off p with
 | error e=>
  rw[hpl]at hQ
  obtain⟨hz,rfl,rfl⟩:=hQ
  rw[appendG_er hpl]
  (try simp only[app]at hS);refine Gp ?_
  refine⟨λvs w=>vs=[.int .i64 e]∧SL W (.ob (RLogO lp xp g)::.ob (RDO H xp d)::.mem H::F) w,?_,?_⟩
  ·refine Gp ?_
   exact zc (λh=>absurd h hz) (λ_=>⟨rfl,SL.into hS Xi⟩)
  clear hS
  rintro v7 w ⟨hvs,hS⟩
  cases hvs
  refine⟨λvs w=>vs=[.int .i64 e]∧SL W (.ob (RLogO lp xp g)::.ob (RDO H xp d)::.mem H::F) w,?_,?_⟩
  ·refine Gp ?_
   exact zc (λh=>absurd h hz) (λ_=>⟨rfl,hS⟩)
  clear hS
  rintro v7 w ⟨hvs,hS⟩
  cases hvs
  refine⟨λvs w=>vs=[.int .i64 e]∧SL W (.ob (RLogO lp xp g)::.ob (RDO H xp d)::.mem H::F) w,?_,?_⟩
  ·refine Gp ?_
   exact zc (λh=>absurd h hz) (λ_=>⟨rfl,hS⟩)
  clear hS
  rintro v7 w ⟨hvs,hS⟩
  cases hvs
  refine Gp ?_
  refine zc (λ_=>?_) (λh=>absurd hz h)
  exact⟨_,⟨rfl,H,Heap.le_refl H,rfl⟩,SL.into hS Xi⟩
 | ok x=>
  rw[hpl]at hQ
  obtain⟨bv,rfl,rfl⟩:=hQ
  have hw:=planG_wr hg.ok hpl
  have hmok:=mendG_ok (g:=g) hok
  have hmg:=mendG_gok (d:=d) hg.ok
  have hms:=mendG_same g d
  have hmo:=ops_mend g d
  have hbl:=hw.bl
  have hpp:=hw.pl
  rw[appendG_st hpl]
  (try simp only[app]at hS);refine Gp ?_
  obtain⟨H1,h01,hb,hS⟩:=zG (H:=H) (v:=bv) (n:=x.b.length) (sz:=1) (t:=5) (cells:=x.b.map u8c) hS Xp
  have hS:=RDO.monoP h01 hS Xr
  have hv1:=hv.mono h01
  refine⟨λus w=>us=[.int .i64 (mendG g d).2]∧∃H',H1.le H'∧SL W (.ob (RLogO lp xp (mendG g d).1.1)::.ob (RDO H' xp (mendG g d).1.2)::.mem H'::F) w,?_,?_⟩
  ·refine Gp ?_
   refine zc (λ_=>?_) (λh=>absurd rfl h)
   (refine Cc (Y4 H1 lp xp g d hg (by omega) hok hN hops) ?_;clear hS)
   rintro v post ⟨rfl,H',hh,rfl⟩ w hS
   (try simp only[app]at hS)
   exact⟨rfl,H',hh,SL.into hS Xi⟩
  clear hS
  rintro v9 w ⟨hus,H2,h12,hS⟩
  cases hus
  have hb2:=hb.mono h12
  have hv2:=hv1.mono h12
  have h02:=Heap.le_trans h01 h12
  clear h12 hb hv1 h01
  generalize mendG g d=m at *
  have hA:(apA x m).1.1=m.1.1∧(apA x m).1.2.Ok (N+x.b.length)∧(apA x m).1.2.ops≤d.ops+2:=by
   unfold apA
   split
   ·exact⟨rfl,hmok.append _ _,by have:=ops_append m.1.2 x.file x.b;simp only;omega⟩
   ·exact⟨rfl,hmok.mono (by omega),by omega⟩
  have hmR:=hmok.rlen
  refine⟨λus w=>us=[.int .i64 (apA x m).2]∧∃H',H2.le H'∧SL W (.ob (RLogO lp xp m.1.1)::.ob (RDO H' xp (apA x m).1.2)::.mem H'::F) w,?_,?_⟩
  ·unfold apA
   refine Gp ?_
   refine zc (λh0=>?_) (λh0=>?_)
   ·rw[if_pos h0]
    obtain⟨sv,xs,hx,hS⟩:=RLogO.iff.1 (Has.front (c:=.ob (RLogO lp xp m.1.1)) hS Xr)
    refine Gp ?_
    (refine Cc (YA H2 xp m.1.2 N hmok (by omega) (by omega) x.file bv x.b hb2 (by omega)) ?_;clear hS)
    rintro v post ⟨rfl,H',hh,rfl⟩ w hS
    (try simp only[app]at hS)
    have hS:=RLogO.put m.1.1 hS hx Xp
    exact⟨rfl,H',hh,SL.into hS Xi⟩
   ·rw[if_neg h0]
    exact⟨rfl,H2,Heap.le_refl H2,SL.into hS Xi⟩
  clear hS
  rintro v9 w ⟨hus,H3,h23,hS⟩
  cases hus
  have hb3:=hb2.mono h23
  have hv3:=hv2.mono h23
  have h03:=Heap.le_trans h02 h23
  clear h23 hb2 hv2 h02
  obtain⟨hA1,hA2,hA3⟩:=hA
  generalize apA x m=a at *
  have hB:(apS x a).1.1=m.1.1:=by
   unfold apS
   split
   ·exact hA1
   ·exact hA1
  have haR:=hA2.rlen
  refine⟨λus w=>us=[.int .i64 (apS x a).2]∧SL W (.ob (RLogO lp xp m.1.1)::.ob (RDO H3 xp (apS x a).1.2)::.mem H3::F) w,?_,?_⟩
  ·unfold apS
   refine Gp ?_
   refine zc (λh0=>?_) (λh0=>?_)
   ·rw[if_pos h0]
    obtain⟨sv,xs,hx,hS⟩:=RLogO.iff.1 (Has.front (c:=.ob (RLogO lp xp m.1.1)) hS Xr)
    refine Gp ?_
    (refine Cc (qV H3 xp a.1.2 _ hA2 (by omega) (by omega) x.file) ?_;clear hS)
    rintro v post ⟨rfl,rfl⟩ w hS
    (try simp only[app]at hS)
    have hS:=RLogO.put m.1.1 hS hx Xp
    exact⟨rfl,SL.into hS Xi⟩
   ·rw[if_neg h0]
    exact⟨rfl,SL.into hS Xi⟩
  clear hS
  rintro v9 w ⟨hus,hS⟩
  cases hus
  simp only
  generalize apS x a=y at *
  obtain⟨⟨y1,d3⟩,e⟩:=y
  simp only at *
  subst hB
  refine Gp ?_
  refine zc (λh0=>?_) (λh0=>?_)
  ·rw[if_neg h0]
   exact⟨_,⟨rfl,H3,h03,rfl⟩,SL.into hS Xi⟩
  have h0:e=0:=Classical.not_not.1 h0
  subst h0
  rw[if_pos rfl]
  obtain⟨sv,xs,hx,hS⟩:=RLogO.iff.1 (Has.front (c:=.ob (RLogO lp xp m.1.1)) hS Xr)
  obtain⟨hxo,hxl,_,_⟩:=hmg.xs hx
  have hhead:headG (xs.map XSeg.pl)=headG g.segs:=by rw[hx,hms.1]
  have hgd:=hw.hd
  have hge:=headG_ge hg.ok.segs
  have hmok2:=moreG_ok hg.ok hw
  refine⟨λus w=>us=[]∧∃sv' xs',xs'.map XSeg.pl=moreG g.segs x∧xs'.length≤xs.length+1∧SL W (.pt lp (rlcells sv' xp m.1.1.base m.1.1.size (tornI m.1.1.torn)) 254::RowR sv' xs'::.ob (zh XSegO xs')::.ob (RDO H3 xp d3)::.mem H3::F) w,?_,?_⟩
  ·unfold moreG
   refine yZ (λhf=>?_) (λhf=>?_)
   ·rw[if_pos hf]
    refine Gn λw hS=>?_
    refine Cg (yV lp xp sv xs m.1.1.base m.1.1.size (tornI m.1.1.torn) hxo (by omega) (by omega)) λw hS=>?_;refine Gm λb w hS=>?_
    rw[hhead]at hS
    refine y3 (m:=1) (cs:=[.int .i64 x.file,.int .i64 (headG g.segs+1),.int .i64 0,.slice none 0 0]) hS Xr (src_pt0 hS .hd rfl) rfl rfl (by simp[Value.oneCell']) (by omega) (by omega) λsv' w hS=>?_
    have hone:=OwnSo.one hS (v:=sv') .hd
    refine Gn λw hS=>?_
    have hS:=OwnSo.nil0 (a:=none) (t:=62) (sz:=1) hS
    have hS:=zh.nil (A:=BEntO) hS
    have hS:=(XSegO.iff (x:=⟨x.file,headG g.segs+1,0,[],none,0⟩)).2 (hS.perm (.swap _ _ _))
    have hS:=zh.snocP (A:=XSegO) (xs:=xs) ⟨x.file,headG g.segs+1,0,[],none,0⟩ hS Xp
    have e1:xs.length+1=(xs++[(⟨x.file,headG g.segs+1,0,[],none,0⟩:XSeg)]).length:=by simp
    have e2:(xs.map xcells).flatten++[.int .i64 x.file,.int .i64 (headG g.segs+1),.int .i64 0,.slice none 0 0]=((xs++[(⟨x.file,headG g.segs+1,0,[],none,0⟩:XSeg)]).map xcells).flatten:=by simp[xcells,XSeg.lv]
    rw[e1,e2]at hS
    refine⟨sv',xs++[⟨x.file,headG g.segs+1,0,[],none,0⟩],?_,by simp,SL.into hS Xi⟩
    rw[List.map_append,hx,hms.1];rfl
   ·rw[if_neg (by rw[hf];decide)]
    exact⟨rfl,sv,xs,by rw[hx,hms.1],by omega,SL.into hS Xi⟩
  clear hS hxo hhead
  rintro w ⟨-,sv',xs',hx',hl',hS⟩
  obtain⟨A,s,hA⟩:=moreG_last hw
  rw[putG_eq _ _ _ hA]
  have hle:0<xs'.length:=by
   have:=congrArg List.length hx'
   rw[hA]at this;simp at this;omega
  have hj:xs'.length-1<xs'.length:=by omega
  have hsp:xs'=xs'.take (xs'.length-1)++[xs'[xs'.length-1]]:=by
   conv=>lhs;rw[← List.take_append_drop (xs'.length-1) xs']
   rw[List.drop_eq_getElem_cons hj,List.drop_eq_nil_of_le (by omega)]
  have hAs:A=(xs'.take (xs'.length-1)).map XSeg.pl∧s=(xs'[xs'.length-1]).pl:=by
   rw[hsp,List.map_append]at hx'
   rw[hA]at hx'
   have:=List.append_inj' hx' rfl
   exact⟨this.1.symm,by simpa using this.2.symm⟩
  obtain⟨hA1',hs1⟩:=hAs
  subst hA1' hs1
  have hso:=hmok2 (xs'[xs'.length-1]).pl (by rw[hA];simp)
  have z1:=hso.sz
  have z2:=hso.ln
  refine Cg (z8 lp xp sv' xs' m.1.1.base m.1.1.size (tornI m.1.1.torn) (by omega)) λw hS=>?_
  have hS:=zh.takeP (A:=XSegO) (xs:=xs') hS (List.getElem?_eq_getElem hj) Xr
  have hS:=XSegO.iff.1 hS
  obtain⟨rb,ro,rc,AA,BB,rfl,hAA,hS,hback⟩:=RowX.at (Has.front (c:=RowR sv' xs') hS Xr) hj
  generalize hx0:xs'[xs'.length-1]=x0 at *
  have z1:x0.size≤M:=z1
  have z2:x0.es.length≤M:=by simpa [XSeg.pl,byts_len] using z2
  rw[show ((xs'.length:Nat):Int)-1=((xs'.length-1:Nat):Int) by omega]
  refine zE hj ?_
  rw[← hAA]
  refine Gp ?_
  refine ye hS Xh (pt_get (i:=2) (u:=.int .i64 x0.size) rfl) ?_
  refine zn hb3 ?_
  refine Gp ?_
  refine zE hj ?_
  rw[← hAA]
  refine Gp ?_
  refine Zc hS Xu (pt_get (i:=2) (u:=.int .i64 x0.size) rfl) rfl λw hS=>?_
  rw[pt_set (by rw[xcells_len];decide)]at hS
  have e5:(xcells x0).set 2 (.int .i64 ((x0.size+x.b.length:Nat):Int))=[.int .i64 x0.file,.int .i64 x0.first,.int .i64 ((x0.size+x.b.length:Nat):Int),x0.lv]:=rfl
  rw[e5]at hS
  refine Gn λw hS=>?_
  refine zE hj ?_
  rw[← hAA]
  refine Gp ?_
  refine ye hS Xh (pt_get (i:=3) (u:=x0.lv) rfl) ?_
  refine Gm λb w hS=>?_
  refine ye hS Xh (pt_get (i:=3) (u:=x0.lv) rfl) ⟨rfl,?_⟩
  have hS:=OwnSl.full (n:=0) (sz:=1) (t:=5) (cells:=[]) rfl hS
  refine zz (n:=0) (m:=p.length) hS .hd (src_rd hS Xh hv3) (by simp) rfl (u8c_one _) (by omega) (by omega) λu w hS=>?_
  rw[Nat.zero_add,List.nil_append]at hS
  have hu:=hS.ownOne .hd
  obtain⟨ua,uc,eu,_⟩:=OwnSl.at hS .hd
  subst eu
  refine Gp ?_
  refine ye hS Xh (pt_get (i:=3) (u:=x0.lv) rfl) ⟨rfl,?_⟩
  refine Gm λb w hS=>?_
  refine ye hS Xh (pt_get (i:=3) (u:=x0.lv) rfl) ⟨rfl,?_⟩
  refine y3 (t:=62) (sz:=1) (n:=x0.es.length) (cells:=vals x0.es) (m:=1) (cs:=[.slice ua p.length uc]) hS Xr (src_pt0 hS .hd rfl) rfl rfl (by simp[Value.oneCell']) (by omega) (by omega) λv' w hS=>?_
  have hone:=OwnSo.one hS (v:=v') .hd
  obtain⟨a',c',ev,_⟩:=OwnSo.at hS (v:=v') .hd
  subst ev
  refine Gp ?_
  refine zE hj ?_
  rw[← hAA]
  refine Gp ?_
  refine Zc hS Xu (pt_get (i:=3) (u:=x0.lv) rfl) hone λw hS=>?_
  rw[pt_set (by show 3<4;decide)]at hS
  have e6:([.int .i64 x0.file,.int .i64 x0.first,.int .i64 ((x0.size+x.b.length:Nat):Int),x0.lv]:List Value).set 3 (.slice a' (x0.es.length+1) c')=xcells ⟨x0.file,x0.first,x0.size+x.b.length,x0.es++[(.slice ua p.length uc,p)],a',c'⟩:=by
   simp[xcells,XSeg.lv]
  rw[e6]at hS
  generalize hy:(⟨x0.file,x0.first,x0.size+x.b.length,x0.es++[(.slice ua p.length uc,p)],a',c'⟩:XSeg)=y at *
  have hx2:(xs'.set (xs'.length-1) y).map XSeg.pl=(xs'.take (xs'.length-1)).map XSeg.pl++[addE x0.pl x.b.length p]:=by
   rw[List.set_eq_take_append_cons_drop,if_pos hj,List.drop_eq_nil_of_le (by omega),List.map_append]
   congr 1
   simp[← hy,XSeg.pl,addE,byts]
  have hpk:=(putG_ok hg.ok hw).1
  rw[putG_eq _ _ _ hA,← hx2]at hpk
  have hS:=hback y w _ (Has.front (c:=.pt rb (AA++(xcells y++BB)) 259) hS Xr)
  have hS:SL W (.ob (BEntO (.slice ua p.length uc,p))::_) _:=Has.front (c:=.ob (OwnSl (.slice ua p.length uc) 5 1 p.length (p.map u8c))) hS Xr
  have hS:=zh.snocP (A:=BEntO) (xs:=x0.es) (.slice ua p.length uc,p) hS Xp
  have e7:x0.es.length+1=y.es.length:=by simp[← hy]
  have e8:vals x0.es++[.slice ua p.length uc]=vals y.es:=by simp[← hy,vals]
  have e9:x0.es++[(.slice ua p.length uc,p)]=y.es:=by simp[← hy]
  have e10:(.slice a' (x0.es.length+1) c':Value)=y.lv:=by simp[← hy,XSeg.lv]
  have hS:=Has.front (c:=.ob (OwnSo (.slice a' (x0.es.length+1) c') 62 1 (x0.es.length+1) (vals x0.es++[.slice ua p.length uc]))) hS Xr
  rw[e10,e7,e8,e9]at hS
  have hS:=XSegO.put y hS Xp
  have hS:=zh.putP (A:=XSegO) (xs:=xs') (t:=xs'.length-1) y hS hj Xp
  refine Cg (yV lp xp (.slice (some ⟨rb,ro,none⟩) xs'.length rc) (xs'.set (xs'.length-1) y) m.1.1.base m.1.1.size (tornI m.1.1.torn) hpk (by rw[List.length_set];omega) (by omega)) λw hS=>?_
  rw[hx2]
  have hS:=RLogO.putN m.1.1.torn (L:=(xs'.take (xs'.length-1)).map XSeg.pl++[addE x0.pl x.b.length p]) hS hx2 Xp
  exact⟨_,⟨rfl,H3,h03,rfl⟩,SL.into hS Xi⟩
theorem readG_len:∀{L:List PSeg} {n:Int} {b:List UInt8} {N:Nat},(∀s∈L,SegOk s N)→readG L n=some b→b.length≤1048576
 | [],_,_,_,_,h=>by cases h
 | s::r,n,b,N,hs,h=>by
  unfold readG at h
  split at h
  ·exact (hs s (.head _)).bl b (List.mem_of_getElem? h)
  ·exact readG_len (λx hx=>hs x (.tail _ hx)) h
def RRdQ(H:Heap)(xp:Nat)(s:DS)(f:Int)(v:Value)(post:List Chunk):Prop:=match getK PF.id s.R f with
 | none=>v= .tuple #[.slice none 0 0,.bool false]∧post=[.ob (RDO H xp s),.mem H]
 | some x=>∃u,v= .tuple #[u,.bool true]∧post=[.ob (OwnSl u 5 1 x.b.length (x.b.map u8c)),.ob (RDO H xp s),.mem H]
theorem Y5(H:Heap)(xp:Nat)(s:DS)(N:Nat)(hok:s.Ok N)(hN:N≤140737488355328)(f:Int):
  SP 177 [ptrA xp,.int .i64 f] [.ob (RDO H xp s),.mem H] (RRdQ H xp s f):=by
 intro W F w hS;apply vc177;unfold Vc177;(try simp only[app]at hS)
 have hR:=hok.rlen
 obtain⟨fv,ys,⟨he,hrb⟩,hS⟩:=RDO.iff.1 hS
 have hyl:ys.length=s.R.length:=by rw[← he,List.length_map]
 have hgm:getK PF.id s.R f=(getK idR ys f).map Prod.fst:=by rw[← he];exact getK_map idR_fst ys f
 refine Cg (y0 xp s fv ys (by rw[he];exact hok.sorted) (by omega) f) λw hS=>?_
 cases hk:isK idR ys f with
 | false=>
  have hg:getK PF.id s.R f=none:=by rw[hgm];unfold getK;rw[if_neg (by rw[hk];decide)];rfl
  refine zy ?_
  have hS:=RDO.put s hS ⟨he,hrb⟩ Xp
  exact⟨[.ob (RDO H xp s),.mem H],by unfold RRdQ;rw[hg];exact⟨rfl,rfl⟩,SL.into hS Xi⟩
 | true=>
  obtain⟨h1,h2⟩:=isK_true hk
  have hx:ys[cntK idR ys f]?=some ys[cntK idR ys f]:=List.getElem?_eq_getElem h1
  have hg:getK PF.id s.R f=some ys[cntK idR ys f].1:=by rw[hgm];unfold getK;rw[if_pos hk,hx];rfl
  have hC:=hrb _ (List.getElem_mem h1)
  have hlen:=hok.len _ (getK_mem hg).1
  generalize cntK idR ys f=i at *
  generalize ys[i]=y at *
  refine zt ?_
  refine zB hS (cells:=[]) rfl ?_
  clear hS;intro b1 w hS
  refine Gp ?_
  refine zD (i:=2) hS (v:=fv) (t:=186) Xh encRF_len hx h1 (u:=y.2) rfl ?_
  have hS:=RDO.put s hS ⟨he,hrb⟩ (H:=H) (xp:=xp) Xp
  have hS:=OwnSl.full (n:=0) (sz:=1) (b:=b1) (t:=5) (cells:=[]) rfl (SL.into hS (t:=.pt b1 [] 5::.ob (RDO H xp s)::.mem H::F) Xi)
  refine zz (n:=0) (m:=y.1.b.length) hS Xr (src_rd hS Xh hC) (by simp) rfl (u8c_one _) (by omega) (by omega) ?_
  clear hS;intro u w hS
  rw[List.nil_append,Nat.zero_add]at hS
  exact⟨[.ob (OwnSl u 5 1 y.1.b.length (y.1.b.map u8c)),.ob (RDO H xp s),.mem H],by unfold RRdQ;rw[hg];exact⟨u,rfl,rfl⟩,SL.into hS Xi⟩
abbrev rscells(xp lp rp:Nat)(newest image:Int):List Value:=[ptrA xp,ptrA lp,ptrA rp,.int .i64 newest,.int .i64 image]
def RSrcO(kp xp lp rp:Nat)(H:Heap)(k:PSrc):zC:=zQ True [.pt kp (rscells xp lp rp k.newest k.image) 171,.ob (RSetO H rp k.ts),.ob (RLogO lp xp k.g)]
section
variable {W w:World} {l F:List Chunk} {kp xp lp rp:Nat} {H H':Heap}
theorem RSrcO.iff{k:PSrc}:SL W (.ob (RSrcO kp xp lp rp H k)::l) w↔SL W (.pt kp (rscells xp lp rp k.newest k.image) 171::.ob (RSetO H rp k.ts)::.ob (RLogO lp xp k.g)::l) w:=by
 unfold RSrcO
 simp only[SL.fact,true_and,List.cons_append,List.nil_append]
theorem RSrcO.put(k:PSrc)(hS:SL W l w)(p:Pick [.pt kp (rscells xp lp rp k.newest k.image) 171,.ob (RSetO H rp k.ts),.ob (RLogO lp xp k.g)] l F):SL W (.ob (RSrcO kp xp lp rp H k)::F) w:=RSrcO.iff.2 (hS.pick p)
theorem RSrcO.putN{g:PLog}{d:DS}{ts:Tabs}{newest image:Int}(hS:SL W l w)(p:Pick [.pt kp (rscells xp lp rp newest image) 171,.ob (RSetO H rp ts),.ob (RLogO lp xp g)] l F):SL W (.ob (RSrcO kp xp lp rp H ⟨g,d,ts,newest,image⟩)::F) w:=RSrcO.iff.2 (hS.pick p)
theorem RSrcO.monoP{k:PSrc}(hh:H.le H')(hS:SL W l w)(r:Rem (.ob (RSrcO kp xp lp rp H k)) l F):SL W (.ob (RSrcO kp xp lp rp H' k)::F) w:=by
 have h:=RSrcO.iff.1 (hS.perm r.perm)
 have h:=RSetO.monoP hh h (.tl .hd)
 exact RSrcO.iff.2 (h.perm (.swap _ _ _))
end
def RReadSQ(kp xp lp rp:Nat)(k:PSrc)(H:Heap)(lsn:Int)(r:Value)(post:List Chunk):Prop:=match k.readS lsn with
 | .error e=>e≠0∧∃H',H.le H'∧r= .tuple #[agg (encTx zTx),.int .i64 e]∧post=[.ob (RSrcO kp xp lp rp H' k),.mem H']
 | .ok t=>∃x H',H.le H'∧r= .tuple #[agg (encTx x),.int .i64 0]∧TxIs H' x t∧post=[.ob (RSrcO kp xp lp rp H' k),.mem H']
section
variable (kp xp lp rp:Nat) (k:PSrc) {N:Nat} (hg:GOk k.g N) (hN:N≤1000000000)
include hg hN
theorem qg(H:Heap)(lsn:Int)(hl : -9000000000000000000≤lsn∧lsn≤9000000000000000000):SP 88 [ptrA kp,.int .i64 lsn] [.ob (RSrcO kp xp lp rp H k),.mem H] (RReadSQ kp xp lp rp k H lsn):=by
 intro W F w hS;apply vc88;unfold Vc88;(try simp only[app]at hS)
 refine Gb λzb w hS=>?_
 have hS:=RSrcO.iff.1 (SL.into hS (t:=.ob (RSrcO kp xp lp rp H k)::.pt zb [.int .i64 0,.int .i64 0,.slice none 0 0,.slice none 0 0,.int .i64 0] 39::.mem H::F) Xi)
 refine Gp ?_
 (refine Cc (qd lp xp k.g lsn hg (by omega) hl) ?_;clear hS)
 rintro r post hq w hS
 unfold ReadLQ at hq
 cases hr:readG k.g.segs lsn with
 | none=>
  rw[hr]at hq
  obtain⟨rfl,rfl⟩:=hq
  have he:k.readS lsn= .error 5:=by unfold PSrc.readS;rw[hr]
  (try simp only[app]at hS)
  have hS:=RSrcO.put k hS Xp
  refine Gp ?_
  refine zc (λ_=>?_) (λh=>absurd (by decide) h)
  refine Gn λw hS=>?_
  exact⟨[.ob (RSrcO kp xp lp rp H k),.mem H],by unfold RReadSQ;rw[he];exact⟨by decide,H,Heap.le_refl H,rfl,rfl⟩,SL.into hS Xi⟩
 | some bs=>
  rw[hr]at hq
  obtain⟨u,rfl,rfl⟩:=hq
  have he:k.readS lsn=decTxn bs:=by unfold PSrc.readS;rw[hr]
  have hbl:=readG_len hg.ok.segs hr
  (try simp only[app]at hS)
  have hS:=RSrcO.put k hS Xp
  refine Gp ?_
  refine zc (λh=>absurd rfl h) (λ_=>?_)
  (refine Cc (qW (.ob (OwnSl u 5 1 bs.length (bs.map u8c))) H u bs Rdb.own (by omega)) ?_;clear hS)
  rintro r post hq w hS
  unfold DecTQ at hq
  cases hd:decTxn bs with
  | error e=>
   rw[hd]at hq
   obtain⟨hne,H',hh,rfl,rfl⟩:=hq
   (try simp only[app]at hS)
   unfold encTx zTx
   refine Gn λw hS=>?_
   have hS:=RSrcO.monoP (k:=k) hh hS Xr
   refine⟨[.ob (RSrcO kp xp lp rp H' k),.mem H'],?_,SL.into hS Xi⟩
   unfold RReadSQ;rw[he,hd];exact⟨hne,H',hh,rfl,rfl⟩
  | ok t=>
   rw[hd]at hq
   obtain⟨x,H',hh,rfl,hx,rfl⟩:=hq
   (try simp only[app]at hS)
   have hc1:=hx.cv.one
   have hc2:=hx.sv.one
   refine Gp ?_
   refine zL (vs:=encTx x) hS Xu rfl rfl (encTx_one1 (lsn:=x.lsn) (kind:=x.kind) (mark:=x.mark) hc1 hc2) λw hS=>?_
   refine yt hS Xh rfl ?_
   have hS:=RSrcO.monoP (k:=k) hh hS Xr
   refine⟨[.ob (RSrcO kp xp lp rp H' k),.mem H'],?_,SL.into hS Xi⟩
   unfold RReadSQ;rw[he,hd];exact⟨x,H',hh,rfl,hx,rfl⟩
end
theorem YB(kp xp lp rp:Nat)(d:DS)(H:Heap)(x0:Img)(n:Nat)(hx0:x0.2.2.length=n)(h8:n≤8){N:Nat}(hok:d.Ok N)(hN:N≤140737488355328):
  SP 85 [ptrA kp,.int .i64 n] [.pt kp (rscells xp lp rp x0.1 x0.2.1) 171,.ob (RSetO H rp x0.2.2),.ob (RDO H xp d),.mem H] (λ_ post=>∃H',H.le H'∧post=[.pt kp (rscells xp lp rp (load1 d.R n 1 (load1 d.R n 0 x0)).1 (load1 d.R n 1 (load1 d.R n 0 x0)).2.1) 171,.ob (RSetO H' rp (load1 d.R n 1 (load1 d.R n 0 x0)).2.2),.ob (RDO H' xp d),.mem H']):=by
 intro W F w hS;apply vc85;unfold Vc85;(try simp only[app]at hS)
 refine⟨λus w=>∃(j:Nat) (H':Heap),us=[.int .i64 j]∧j≤2∧H.le H'∧(loadAt d.R n x0 j).2.2.length=n∧SL W (.pt kp (rscells xp lp rp (loadAt d.R n x0 j).1 (loadAt d.R n x0 j).2.1) 171::.ob (RSetO H' rp (loadAt d.R n x0 j).2.2)::.ob (RDO H' xp d)::.mem H'::F) w,
  λus _=>match us with|[.int _ i]=>(2-i).toNat|_=>0,⟨0,H,rfl,by omega,Heap.le_refl H,hx0,hS⟩,?_⟩
 clear hS
 rintro v4 w ⟨j,H',hus,hj,hh,hxl,hS⟩
 cases hus
 refine Gp ?_
 refine zc (λh=>?_) (λh=>?_)
 ·have hj1:j≤1:=by omega
  have hstep:=loadAt_s (R:=d.R) (n:=n) (x:=x0) hj1
  have hfin:∀{w:World} {H2:Heap} (y:Img),load1 d.R n j (loadAt d.R n x0 j)=y→H.le H2→SL W (.pt kp (rscells xp lp rp y.1 y.2.1) 171::.ob (RSetO H2 rp y.2.2)::.ob (RDO H2 xp d)::.mem H2::F) w →
    ∃(j':Nat) (H':Heap),[Value.int .i64 ((j+1:Nat):Int)]=[.int .i64 j']∧j'≤2∧H.le H'∧(loadAt d.R n x0 j').2.2.length=n∧SL W (.pt kp (rscells xp lp rp (loadAt d.R n x0 j').1 (loadAt d.R n x0 j').2.1) 171::.ob (RSetO H' rp (loadAt d.R n x0 j').2.2)::.ob (RDO H' xp d)::.mem H'::F) w:=λy hy h02 hS=>by
   refine⟨j+1,_,rfl,by omega,h02,?_,?_⟩
   ·rw[hstep];exact load1_len hxl
   ·rw[hstep,hy];exact hS
  generalize hx:loadAt d.R n x0 j=x at *
  refine Gp ?_
  (refine Cc (Y5 H' xp d N hok hN j) ?_;clear hS)
  rintro r post hq w hS
  unfold RRdQ at hq
  cases hgk:getK PF.id d.R (j:Int) with
  | none=>
   have hi:load1 d.R n j x=x:=by unfold load1 imgAt;rw[hgk]
   rw[hgk]at hq
   obtain⟨rfl,rfl⟩:=hq
   (try simp only[app]at hS);refine Gp ?_
   refine zy ?_
   refine Gp ?_
   exact⟨hfin x hi hh (SL.into hS Xi),by dsimp only;omega⟩
  | some pf=>
   rw[hgk]at hq
   obtain⟨u,rfl,rfl⟩:=hq
   have hpl:=hok.len _ (getK_mem hgk).1
   (try simp only[app]at hS);refine Gp ?_
   refine zt ?_
   (refine Cc (Y9 (.ob (OwnSl u 5 1 pf.b.length (pf.b.map u8c))) H' u pf.b Rdb.own (by omega)) ?_;clear hS)
   rintro r post hq w hS
   unfold RDecImQ at hq
   cases hd:decImg pf.b with
   | none=>
    have hi:load1 d.R n j x=x:=by unfold load1 imgAt;rw[hgk];simp only;rw[hd]
    rw[hd]at hq
    obtain⟨rfl,H2,h12,rfl⟩:=hq
    (try simp only[app]at hS)
    have hS:=RSetO.monoP h12 hS (r:=rp) (ts:=x.2.2) Xr
    have hS:=RDO.monoP h12 hS (xp:=xp) (s:=d) Xr
    refine Gp ?_
    refine zc (λh=>absurd h (by decide)) (λ_=>?_)
    refine Gp ?_
    exact⟨hfin x hi (Heap.le_trans hh h12) (SL.into hS Xi),by dsimp only;omega⟩
   | some y=>
    rw[hd]at hq
    obtain⟨v,vs,H2,h12,hR2,rfl,rfl⟩:=hq
    have hmay:=decImg_may hd
    have hy8:=(mayImg_iff.1 hmay).1
    have hia:imgAt d.R n j=if y.2.length=n then some y else none:=by unfold imgAt;rw[hgk];simp only;rw[hd]
    (try simp only[app]at hS)
    have hS:=RSetO.monoP h12 hS (r:=rp) (ts:=x.2.2) Xr
    have hS:=RDO.monoP h12 hS (xp:=xp) (s:=d) Xr
    have h02:=Heap.le_trans hh h12
    refine Gp ?_
    refine zc (λ_=>?_) (λh=>absurd rfl h)
    refine zx hS (v:=v) (t:=53) (sz:=1) (n:=y.2.length) (cells:=vs) Xh ?_
    refine Gp ?_
    refine zc (λhl=>?_) (λhl=>?_)
    ·have hl:y.2.length=n:=by omega
     rw[if_pos hl]at hia
     have hone:=hS.ownOne (v:=v) (t:=53) (sz:=1) (n:=y.2.length) (cells:=vs) Xh
     have hl1:load1 d.R n j x=if 0≤x.1∧y.1≤x.2.1 then x else ((j:Int),y.1,y.2):=by unfold load1;rw[hia]
     obtain⟨sv0,vs0,hR0,hS⟩:=RSetO.iff.1 (SL.into hS (t:=.ob (RSetO H2 rp x.2.2)::.pt kp (rscells xp lp rp x.1 x.2.1) 171::.ob (OwnSl v 53 1 y.2.length vs)::.ob (RDO H2 xp d)::.mem H2::F) Xi)
     refine Gp ?_
     refine zc (λh0=>?_) (λh0=>?_)
     ·rw[if_neg (by omega)]at hl1
      refine Gn λw hS=>?_
      have hS:=RSetO.put (H:=H2) (r:=rp) y.2 hR2 hy8.2.2.2 hS Xp
      exact⟨hfin _ hl1 h02 (SL.into hS Xi),by dsimp only;omega⟩
     ·refine Gp ?_
      refine zc (λh1=>?_) (λh1=>?_)
      ·rw[if_neg (by omega)]at hl1
       refine Gn λw hS=>?_
       have hS:=RSetO.put (H:=H2) (r:=rp) y.2 hR2 hy8.2.2.2 hS Xp
       exact⟨hfin _ hl1 h02 (SL.into hS Xi),by dsimp only;omega⟩
      ·rw[if_pos ⟨by omega,by omega⟩]at hl1
       refine Gp ?_
       have hS:=RSetO.put (H:=H2) (r:=rp) x.2.2 hR0.1 hR0.2 hS Xp
       exact⟨hfin _ hl1 h02 (SL.into hS Xi),by dsimp only;omega⟩
    ·rw[if_neg (by omega)]at hia
     have hi:load1 d.R n j x=x:=by unfold load1;rw[hia]
     refine Gp ?_
     exact⟨hfin x hi h02 (SL.into hS Xi),by dsimp only;omega⟩
 ·obtain rfl:j=2:=by omega
  exact⟨_,⟨H',hh,rfl⟩,hS⟩
theorem headG_put{g:PLog}{off:Bool}{p:List UInt8}{x:PWr}(h:planG g off p= .ok x):headG (putG g.segs x p)=headG g.segs+1:=by
 have key:∀(L:List PSeg) (s:PSeg),headG ((L++[s]).dropLast++(L++[s]).getLast?.toList.map λs=>{s with size:=s.size+x.b.length,l:=s.l++[p]})=s.next:=λL s=>by
  rw[List.dropLast_concat,List.getLast?_append]
  simp only[List.getLast?_singleton,Option.some_or,Option.toList_some,List.map_cons,List.map_nil]
  unfold headG
  rw[List.getLast?_append]
  simp only[List.getLast?_singleton,Option.some_or]
  unfold PSeg.next
  simp only[List.length_append,List.length_singleton]
  omega
 unfold putG
 cases hf:x.fresh with
 | true=>
  simp only[if_true]
  rw[key]
  show headG g.segs+1+(([]:List (List UInt8)).length:Int)=_
  simp
 | false=>
  simp only[Bool.false_eq_true,if_false]
  have hne:g.segs≠[]:=λe=>by
   unfold planG freshG at h
   rw[e]at h
   simp only[List.getLast?_nil]at h
   split at h
   ·cases h
   ·split at h
    ·cases h
    ·split at h
     ·cases h
     ·split at h
      ·cases h
      ·cases h;cases hf
  obtain⟨L,s,e⟩:∃L s,g.segs=L++[s]:=⟨g.segs.dropLast,g.segs.getLast hne,(List.dropLast_concat_getLast hne).symm⟩
  rw[e,key]
  unfold headG
  rw[List.getLast?_append]
  simp only[List.getLast?_singleton,Option.some_or]
  omega
theorem appendG_num{g:PLog}{d:DS}{p:List UInt8}(h:(appendG g d p).2.2=0):(appendG g d p).2.1=headG g.segs+1:=by
 cases hp:planG g d.off p with
 | error e=>
  rw[appendG_er hp]at h
  unfold planG freshG at hp
  have he:e≠0:=by
   split at hp
   ·cases hp;decide
   ·split at hp
    ·cases hp;decide
    ·split at hp
     ·cases hp;decide
     ·split at hp
      ·split at hp
       ·cases hp;decide
       ·cases hp
      ·split at hp
       ·cases hp
       ·split at hp
        ·cases hp;decide
        ·cases hp
  exact absurd h he
 | ok x=>
  rw[appendG_st hp]at h ⊢
  simp only at h ⊢
  split
  ·exact headG_put hp
  ·rename_i hn
   rw[if_neg hn]at h
   exact absurd h hn
abbrev RAnsS(kp xp lp rp:Nat)(H:Heap)(y:PSrc × (Int × Int))(v:Value)(post:List Chunk):Prop:=∃(H':Heap),H.le H'∧v= .tuple #[.int .i64 y.2.1,.int .i64 y.2.2]∧post=[.ob (RSrcO kp xp lp rp H' y.1),.ob (RDO H' xp y.1.d),.mem H']
theorem qU(kp xp lp rp:Nat)(k:PSrc)(H:Heap)(x:TxV)(t:TxnD)(hx:TxIs H x t)(hm:mayTx t=true){N:Nat}(hk:SOk k N)(hN:N≤1000000000)(hops:k.d.ops≤90000):
  SP 90 [ptrA kp,agg (encTx x)] [.ob (RSrcO kp xp lp rp H k),.ob (RDO H xp k.d),.mem H] (RAnsS kp xp lp rp H (k.addS t)):=by
 intro W F w hS;apply vc90;unfold Vc90;(try simp only[app]at hS)
 have hg:=hk.g
 have hhd:=hg.hd
 obtain⟨ht1,ht2,ht3,ht4,ht5,ht6,ht7⟩:=mayTx_all hm
 have hd0:=headG_ge hg.ok.segs
 refine zJ hS λxb w hS=>?_
 unfold encTx at hS
 rw[hx.lsn,hx.kind,hx.mark]at hS
 have hS:=RSrcO.iff.1 (SL.into hS (t:=.ob (RSrcO kp xp lp rp H k)::TxC xb x t::.ob (RDO H xp k.d)::.mem H::F) Xi)
 obtain⟨fv,ys,hrd,hS⟩:=RDO.iff.1 (SL.into hS (t:=.ob (RDO H xp k.d)::.pt kp (rscells xp lp rp k.newest k.image) 171::.ob (RSetO H rp k.ts)::.ob (RLogO lp xp k.g)::TxC xb x t::.mem H::F) Xi)
 refine Gp ?_
 have hS:=RDO.put k.d hS hrd Xp
 cases ho:k.d.off with
 | true=>
  refine zy ?_
  rw[show k.addS t=(k,(0,8)) by unfold PSrc.addS;rw[if_pos ho]]
  have hS:=RSrcO.put k hS Xp
  exact⟨_,⟨H,Heap.le_refl H,rfl,rfl⟩,SL.into hS Xi⟩
 | false=>
  refine zt ?_
  refine Gn λw hS=>?_
  (refine Cc (qx H rp k.ts x.cv t.changes hx.cv hk.len (by omega)) ?_;clear hS)
  rintro _ post ⟨H1,h01,rfl,rfl⟩ w hS
  (try simp only[app]at hS)
  have hS:=RDO.monoP h01 hS (xp:=xp) (s:=k.d) Xr
  have hx1:TxIs H1 x t:=hx.mono h01
  refine Gp ?_
  refine zA (λhf=>?_) (λhf=>?_)
  ·rw[show k.addS t=(k,(0,7)) by unfold PSrc.addS;rw[if_neg (by simp[ho]),if_pos (.inl hf)]]
   have hS:=RSrcO.put k hS Xp
   exact⟨_,⟨H1,h01,rfl,rfl⟩,SL.into hS Xi⟩
  refine Gp ?_
  refine Cg (zX lp xp k.g hg.ok (by omega)) λw hS=>?_
  refine zc (λhh=>?_) (λhh=>?_)
  ·rw[show k.addS t=(k,(0,7)) by unfold PSrc.addS;rw[if_neg (by simp[ho]),if_pos (.inr (by omega))]]
   have hS:=RSrcO.put k hS Xp
   exact⟨_,⟨H1,h01,rfl,rfl⟩,SL.into hS Xi⟩
  refine Gp ?_
  refine Cg (zX lp xp k.g hg.ok (by omega)) λw hS=>?_
  have hm2:=mayTx_lsn hm (n:=headG k.g.segs+1) (by omega) (by omega)
  have hx2:TxIs H1 ⟨headG k.g.segs+1,t.kind,x.cv,x.sv,t.mark⟩ {t with lsn:=headG k.g.segs+1}:=⟨rfl,rfl,rfl,hx1.cv,hx1.sv⟩
  have hadd:k.addS t=(let r:=appendG k.g k.d (bytesT {t with lsn:=headG k.g.segs+1});if r.2.2=0 then ({k with g:=r.1.1,d:=r.1.2,ts:=appsTs k.ts t.changes},(headG k.g.segs+1,0)) else ({k with g:=r.1.1,d:=r.1.2},(0,r.2.2))):=by
   unfold PSrc.addS
   rw[if_neg (by simp[ho]),if_neg (by rw[hf];simp;omega)]
  have hbl:=bytesTx_len hm2
  have hbo:=bytesTx_ok hm2
  rw[hadd]
  clear hadd
  generalize hq:({t with lsn:=headG k.g.segs+1}:TxnD)=t2 at *
  have hln:1≤headG k.g.segs+1:=by omega
  have hnum:=λh=>appendG_num (g:=k.g) (d:=k.d) (p:=bytesT t2) h
  generalize headG k.g.segs+1=lsn at *
  (refine Cc (qX H1 ⟨lsn,t.kind,x.cv,x.sv,t.mark⟩ t2 hx2) ?_;clear hS)
  rintro r post hq w hS
  unfold EncTQ at hq
  rw[hbo]at hq
  obtain⟨bv,rfl,rfl⟩:=hq
  (try simp only[app]at hS)
  obtain⟨H2,h12,hB,hS⟩:=zG (H:=H1) (v:=bv) (n:=(bytesTx t2).length) (sz:=1) (t:=5) (cells:=(bytesTx t2).map u8c) hS Xp
  have hS:=RDO.monoP h12 hS (xp:=xp) (s:=k.d) Xr
  have hS:=RSetO.monoP h12 hS (r:=rp) (ts:=k.ts) Xr
  have h02:=Heap.le_trans h01 h12
  refine Gp ?_
  (refine Cc (Z5 H2 lp xp k.g k.d bv (bytesTx t2) hB (by omega) hg (by omega) hk.d (by omega) hops) ?_;clear hS)
  rintro _ post ⟨rfl,H3,h23,rfl⟩ w hS
  (try simp only[app]at hS)
  have hS:=RSetO.monoP h23 hS (r:=rp) (ts:=k.ts) Xr
  have h03:=Heap.le_trans h02 h23
  generalize appendG k.g k.d (bytesT t2)=r at *
  obtain⟨⟨g',d'⟩,n',e'⟩:=r
  simp only at hS ⊢
  refine Gp ?_
  refine zc (λhe=>?_) (λhe=>?_)
  ·rw[if_neg he]
   have hS:=RSrcO.putN (d:=d') hS Xp
   exact⟨_,⟨H3,h03,rfl,rfl⟩,SL.into hS Xi⟩
  ·have he:e'=0:=by omega
   rw[if_pos he]
   have hx3:=hx.mono h03
   refine Gn λw hS=>?_
   (refine Cc (yR H3 rp k.ts x.cv t.changes hx3.cv hk.len (by omega)) ?_;clear hS)
   rintro _ post hq2 w hS
   have hall:t.changes.all (chgIn k.ts.length)=true:=by
    unfold fitsTs at hf
    rw[Bool.and_eq_true]at hf
    exact hf.1
   unfold AppQ at hq2
   rw[if_pos hall]at hq2
   obtain⟨rfl,H4,h34,rfl⟩:=hq2
   (try simp only[app]at hS)
   have hS:=RDO.monoP h34 hS (xp:=xp) (s:=d') Xr
   have hS:=RSrcO.putN (d:=d') hS Xp
   obtain rfl:n'=lsn:=hnum he
   exact⟨_,⟨H4,Heap.le_trans h03 h34,rfl,rfl⟩,SL.into hS Xi⟩
theorem rscommit_spec(kp xp lp rp:Nat)(k:PSrc)(H:Heap)(sv cv:Value)(sg:List ByteArray)(l:List Chg)(hs:RdSl H 1 sv sg.length (sg.map Value.string))(hc:RdSl H 4 cv l.length (l.map encChg).flatten)(hl:l.length≤140737488351232){N:Nat}(hk:SOk k N)(hN:N≤1000000000)(hops:k.d.ops≤90000):
  SP 31 [ptrA kp,sv,cv] [.ob (RSrcO kp xp lp rp H k),.ob (RDO H xp k.d),.mem H] (RAnsS kp xp lp rp H (k.commitS sg l)):=by
 intro W F w hS;apply vc31;unfold Vc31;(try simp only[app]at hS)
 have hs1:=hs.one
 have hc1:=hc.one
 have hx:TxIs H ⟨1,1,cv,sv,0⟩ ⟨1,1,l,sg,0⟩:=⟨rfl,rfl,rfl,hc,hs⟩
 have e0:fillL [.int .i64 0,.int .i64 0,.slice none 0 0,.slice none 0 0,.int .i64 0] [(0,1,.int .i64 1),(1,1,.int .i64 1),(2,1,cv),(3,1,sv)]=some (encTx ⟨1,1,cv,sv,0⟩):=by
  simp[fillL,show ∀n,(Value.int .i64 n).cells = #[.int .i64 n] from λ_=>rfl,one_cells hs1,one_cells hc1,encTx]
 refine yq e0 ?_
 refine Gb λxb w hS=>?_
 refine zL hS Xu rfl rfl (encTx_one1 hc1 hs1) λw hS=>?_
 refine yt hS Xh rfl ?_
 refine Cg (yW H ⟨1,1,cv,sv,0⟩ ⟨1,1,l,sg,0⟩ hx) λw hS=>?_
 refine zA (λhm=>?_) (λhm=>?_)
 ·rw[show k.commitS sg l=(k,(0,1)) by unfold PSrc.commitS;rw[if_neg (by rw[hm];simp)]]
  exact⟨_,⟨H,Heap.le_refl H,rfl,rfl⟩,SL.into hS Xi⟩
 have hmc:=(mayTx_all hm).2.2.2.2.2.1
 have hmc:∀c∈l,mayCh c 8=true:=hmc
 refine⟨λus w=>∃i:Nat,us=[.int .i64 i]∧i≤l.length∧(∀j (h:j<l.length),j<i→l[j].table<(k.ts.length:Int))∧SL W (.ob (RSrcO kp xp lp rp H k)::.ob (RDO H xp k.d)::.pt xb (encTx ⟨1,1,cv,sv,0⟩) 39::.mem H::F) w,λus _=>match us with|[.int _ i]=>(l.length-i).toNat|_=>0,⟨0,rfl,by omega,λj h hj=>by omega,SL.into hS Xi⟩,?_⟩
 clear hS
 rintro v9 w ⟨i,hus,hi,hall,hS⟩
 cases hus
 refine zn hc ?_
 refine Gp ?_
 refine zc (λh=>?_) (λh=>?_)
 ·have hil:i<l.length:=by omega
  have hci:=mayCh_iff.1 (hmc _ (List.getElem_mem hil))
  have hS:=RSrcO.iff.1 (SL.into hS (t:=.ob (RSrcO kp xp lp rp H k)::.ob (RDO H xp k.d)::.pt xb (encTx ⟨1,1,cv,sv,0⟩) 39::.mem H::F) Xi)
  refine Gn λw hS=>?_
  refine zI hS Xh encChg_len hc (x:=l[i]) (List.getElem?_eq_getElem hil) hil (i:=0) rfl ?_
  refine Cg (YV H rp k.ts l[i].table) λw hS=>?_
  have hS:=RSrcO.put k hS Xp
  refine zA (λhe=>?_) (λhe=>?_)
  ·have he:=of_decide_eq_false he
   rw[show k.commitS sg l=(k,(0,1)) by unfold PSrc.commitS;rw[if_neg λh=>he ⟨hci.1,h.2 _ (List.getElem_mem hil)⟩]]
   exact⟨_,⟨H,Heap.le_refl H,rfl,rfl⟩,SL.into hS Xi⟩
  ·have he:=of_decide_eq_true he
   refine Gp ?_
   refine⟨⟨i+1,rfl,by omega,λj hj hji=>?_,SL.into hS Xi⟩,by dsimp only;omega⟩
   by_cases e:j=i
   ·subst e;exact he.2
   ·exact hall j hj (by omega)
 ·have hA:∀c∈l,c.table<(k.ts.length:Int):=λc hc=>by
   obtain⟨j,hj,rfl⟩:=List.getElem_of_mem hc
   exact hall j hj (by omega)
  rw[show k.commitS sg l=k.addS ⟨1,1,l,sg,0⟩ by unfold PSrc.commitS;rw[if_pos ⟨hm,hA⟩]]
  refine yt hS Xh rfl ?_
  (refine Cc (qU kp xp lp rp k H ⟨1,1,cv,sv,0⟩ ⟨1,1,l,sg,0⟩ hx hm hk hN hops) ?_;clear hS)
  rintro _ post ⟨H',hh,rfl,rfl⟩ w hS
  (try simp only[app]at hS);refine Gp ?_
  exact⟨_,⟨H',hh,rfl,rfl⟩,SL.into hS Xi⟩
def ROpenSQ(xp:Nat)(H:Heap)(y:DS × Except Int PSrc)(r:Value)(post:List Chunk):Prop:=match y.2 with
 | .error e=>e≠0∧∃H',H.le H'∧r= .tuple #[.pointer none,.int .i64 e]∧post=[.ob (RDO H' xp y.1),.mem H']
 | .ok k=>∃kp lp rp H',H.le H'∧r= .tuple #[ptrA kp,.int .i64 0]∧post=[.ob (RSrcO kp xp lp rp H' k),.ob (RDO H' xp y.1),.mem H']
theorem qe(H:Heap)(xp:Nat)(d:DS)(tabs size:Int){N B:Nat}(hok:d.Ok B)(hB:B≤140737488355328)(hw:WinLe d.R 16 N)(hN:N≤900000000)(hops:d.ops≤90000)(hn:∀d' g,openG d 16 size=(d',.ok g)→(entsG g.segs).length≤50000):
  SP 30 [ptrA xp,.int .i64 tabs,.int .i64 size] [.ob (RDO H xp d),.mem H] (ROpenSQ xp H (openS d tabs size)):=by
 intro W F w hS;apply vc30;unfold Vc30;(try simp only[app]at hS)
 have hR:=hok.rlen
 have hbad:∀{w:World},(tabs<1∨8<tabs)→SL W (.ob (RDO H xp d)::.mem H::F) w→∃post,ROpenSQ xp H (openS d tabs size) (.tuple #[.pointer none,.int .i64 1]) post∧SL W (app post F) w:=λht hS=>by
  rw[show openS d tabs size=(d,.error 1) by unfold openS;rw[if_pos ht]]
  exact⟨_,⟨by decide,H,Heap.le_refl H,rfl,rfl⟩,hS⟩
 refine Gp ?_
 refine zc (λh=>hbad (by omega) hS) (λh1=>?_)
 refine Gp ?_
 refine zc (λh=>hbad (by omega) hS) (λh2=>?_)
 clear hbad
 have ht:¬(tabs<1∨8<tabs):=by omega
 obtain⟨n,rfl⟩:∃n:Nat,tabs=n:=⟨tabs.toNat,by omega⟩
 (refine Cc (ropen_specW H xp d 16 size hok hB hw (by omega) (by omega) (by omega)) ?_;clear hS)
 rintro r post hq w hS
 unfold openS
 rw[if_neg ht]
 unfold ROpenQ at hq
 have hdk:=openG_ok (base:=16) (size:=size) hok
 cases hog:openG d 16 size with
 | mk d' o=>
  rw[hog]at hq hdk
  cases o with
  | error e=>
   obtain⟨he,rfl,H1,h01,rfl⟩:=hq
   (try simp only[app]at hS);refine Gp ?_
   refine zc (λ_=>?_) (λh=>absurd he h)
   exact⟨_,⟨he,H1,h01,rfl,rfl⟩,SL.into hS Xi⟩
  | ok g=>
   obtain⟨lp,H1,h01,rfl,rfl⟩:=hq
   have hG:=openG_GOkW hw (by omega) hog
   have hent:=hn d' g hog
   obtain⟨x1,x2,x3⟩:=loadI_all d'.R n
   (try simp only[app]at hS);refine Gp ?_
   refine zc (λh=>absurd rfl h) (λ_=>?_)
   (refine Cc (newsetR_ok H1 n (by omega) (by omega)) ?_;clear hS)
   rintro _ post ⟨rp,rfl,rfl⟩ w hS
   (try simp only[app]at hS);refine Gp ?_
   refine zJ hS λkp w hS=>?_
   (refine Cc (YB kp xp lp rp d' H1 (-1,0,List.replicate n []) n List.length_replicate (by omega) hdk hB) ?_;clear hS)
   rintro _ post ⟨H2,h12,rfl⟩ w hS
   (try simp only[app]at hS)
   have hli:load1 d'.R n 1 (load1 d'.R n 0 (-1,0,List.replicate n []))=loadI d'.R n:=rfl
   rw[hli]at hS
   simp only[Int.toNat_natCast]
   generalize loadI d'.R n=x at *
   obtain⟨nw,im,T0⟩:=x
   simp only at x1 x2 x3 hS ⊢
   have h02:=Heap.le_trans h01 h12
   have hcnt:=ents_cnt hG.seq
   have hlow:=lowG_rng hG.ok.segs
   have hhd:=hG.hd
   have hN2:N+100000≤1000000000:=by omega
   have hF:∀{w:World} {H':Heap},(match redoS n im (entsG g.segs) (lowG g.segs) T0 with
     | none=>((d',.error 3):DS × Except Int PSrc)
     | some ts=>if im≤headG g.segs∧lowG g.segs≤im+1 then (d',.ok ⟨g,d',ts,nw,im⟩) else (d',.error 3))=(d',.error 3)→H.le H'→SL W (.ob (RDO H' xp d')::.mem H'::F) w →
     ∃post,ROpenSQ xp H (match redoS n im (entsG g.segs) (lowG g.segs) T0 with
     | none=>((d',.error 3):DS × Except Int PSrc)
     | some ts=>if im≤headG g.segs∧lowG g.segs≤im+1 then (d',.ok ⟨g,d',ts,nw,im⟩) else (d',.error 3)) (.tuple #[.pointer none,.int .i64 3]) post∧SL W (app post F) w:=λhe hh hS=>by
    rw[he]
    exact⟨_,⟨by decide,_,hh,rfl,rfl⟩,hS⟩
   refine⟨λus w=>us=[.bool (decide (headG g.segs<im∨im+1<lowG g.segs))]∧SL W (.pt kp (rscells xp lp rp nw im) 171::.ob (RSetO H2 rp T0)::.ob (RLogO lp xp g)::.ob (RDO H2 xp d')::.mem H2::F) w,?_,?_⟩
   ·refine Gn λw hS=>?_
    refine Cg (zX lp xp g hG.ok (by omega)) λw hS=>?_
    refine zc (λh=>?_) (λh=>?_)
    ·skip
     exact⟨by rw[decide_eq_true (show headG g.segs<im∨im+1<lowG g.segs from .inl (by omega))],SL.into hS Xi⟩
    ·refine Gp ?_
     refine Cg (Zq lp xp g hG.ok (by omega)) λw hS=>?_
     refine⟨?_,SL.into hS Xi⟩
     congr 2
     rw[decide_eq_decide];omega
   clear hS
   rintro v11 w ⟨hus,hS⟩
   cases hus
   refine Cg (Zq lp xp g hG.ok (by omega)) λw hS=>?_
   have hS:=RSrcO.putN (d:=d') hS Xp
   refine⟨λus w=>∃(i:Nat) (T:Tabs) (H3:Heap),us=[.int .i64 (lowG g.segs+i)]∧i≤(entsG g.segs).length∧redoS n im (entsG g.segs) (lowG g.segs) T0=redoS n im ((entsG g.segs).drop i) (lowG g.segs+i) T∧T.length=n∧(∀C∈T,C.length≤1000+16*i)∧H.le H3∧SL W (.ob (RSrcO kp xp lp rp H3 ⟨g,d',T,nw,im⟩)::.ob (RDO H3 xp d')::.mem H3::F) w,
    λus _=>match us with|[.int _ i]=>(headG g.segs+1-i).toNat|_=>0,⟨0,T0,H2,by simp,by omega,by simp,x1,λC hC=>by have:=(x3 C hC).len;omega,h02,SL.into hS Xi⟩,?_⟩
   clear hS
   rintro v12 w ⟨i,T,H3,hus,hi,hrd,hTl,hTn,hh,hS⟩
   cases hus
   have hS:SL W (.pt kp (rscells xp lp rp nw im) 171::.ob (RSetO H3 rp T)::.ob (RLogO lp xp g)::.ob (RDO H3 xp d')::.mem H3::F) w:=RSrcO.iff.1 hS
   refine Cg (zX lp xp g hG.ok (by omega)) λw hS=>?_
   refine zc (λh=>?_) (λh=>?_)
   ·have hil:i<(entsG g.segs).length:=by omega
    have hread:=hG.seq.read i
    rw[List.getElem?_eq_getElem hil]at hread
    rw[List.drop_eq_getElem_cons hil,redoS_cons]at hrd
    generalize (entsG g.segs)[i]=bs at *
    have hlsn:1≤lowG g.segs+i∧lowG g.segs+i≤1099511627776:=by omega
    generalize hlq:lowG g.segs+i=lsn at *
    have hS:=RSrcO.putN (d:=d') hS Xp
    (refine Cc (qg kp xp lp rp ⟨g,d',T,nw,im⟩ hG hN2 H3 lsn (by omega)) ?_;clear hS)
    rintro r post hq w hS
    unfold RReadSQ PSrc.readS at hq
    simp only at hq
    rw[hread]at hq
    simp only at hq
    cases hd:decTxn bs with
    | error e=>
     rw[hd]at hq hrd
     obtain⟨hne,H4,h34,rfl,rfl⟩:=hq
     (try simp only[app]at hS)
     have hS:=RDO.monoP h34 hS (xp:=xp) (s:=d') Xr
     unfold encTx zTx
     refine Gm λb w hS=>?_
     refine zc (λ_=>?_) (λh=>absurd hne h)
     exact hF (by rw[hrd]) (Heap.le_trans hh h34) (SL.into hS Xi)
    | ok t=>
     rw[hd]at hq hrd
     obtain⟨xx,H4,h34,rfl,hx,rfl⟩:=hq
     have h04:=Heap.le_trans hh h34
     obtain⟨ht1,ht2,ht3,ht4,ht5,ht6,ht7⟩:=mayTx_all (decTxn_may hd)
     (try simp only[app]at hS)
     have hS:=RDO.monoP h34 hS (xp:=xp) (s:=d') Xr
     refine Gp ?_
     refine zN hS λxb w hS=>?_
     refine zL (vs:=encTx xx) hS Xu rfl rfl (encTx_one1 (lsn:=xx.lsn) (kind:=xx.kind) (mark:=xx.mark) hx.cv.one hx.sv.one) λw hS=>?_
     unfold encTx at hS
     rw[hx.lsn,hx.kind,hx.mark]at hS
     refine Gp ?_
     refine zc (λh=>absurd rfl h) (λ_=>?_)
     refine Gp ?_
     simp only at hrd
     refine zc (λhl=>?_) (λhl=>?_)
     ·rw[if_neg λh=>hl h.1]at hrd
      exact hF (by rw[hrd]) h04 (SL.into hS Xi)
     have hS:=SL.into hS (t:=.pt xb [.int .i64 t.lsn,.int .i64 t.kind,xx.cv,xx.sv,.int .i64 t.mark] 39::.ob (RSrcO kp xp lp rp H4 ⟨g,d',T,nw,im⟩)::.ob (RDO H4 xp d')::.mem H4::F) Xi
     refine⟨λus w=>∃j:Nat,us=[.int .i64 j]∧j≤t.changes.length∧(∀a (h:a<t.changes.length),a<j→t.changes[a].table<(n:Int))∧SL W (.pt xb [.int .i64 t.lsn,.int .i64 t.kind,xx.cv,xx.sv,.int .i64 t.mark] 39::.ob (RSrcO kp xp lp rp H4 ⟨g,d',T,nw,im⟩)::.ob (RDO H4 xp d')::.mem H4::F) w,
      λus _=>match us with|[.int _ i]=>(t.changes.length-i).toNat|_=>0,⟨0,rfl,by omega,λa h ha=>by omega,hS⟩,?_⟩
     clear hS
     rintro v15 w ⟨j,hus,hj,hall,hS⟩
     cases hus
     refine Gp ?_
     refine zn hx.cv ?_
     refine Gp ?_
     refine zc (λhjl=>?_) (λhjl=>?_)
     ·have hjl:j<t.changes.length:=by omega
      refine Gp ?_
      refine zI hS Xh encChg_len hx.cv (x:=t.changes[j]) (List.getElem?_eq_getElem hjl) hjl (i:=0) rfl ?_
      refine Gp ?_
      refine zc (λhe=>?_) (λhe=>?_)
      ·rw[if_neg λh=>by have:=h.2 _ (List.getElem_mem hjl);omega]at hrd
       exact hF (by rw[hrd]) h04 (SL.into hS Xi)
      ·refine Gp ?_
       refine⟨⟨j+1,rfl,by omega,λa ha haj=>?_,SL.into hS Xi⟩,by dsimp only;omega⟩
       by_cases e:a=j
       ·subst e;omega
       ·exact hall a ha (by omega)
     ·have hb:∀c∈t.changes,c.table<(n:Int):=λc hc=>by
       obtain⟨a,ha,rfl⟩:=List.getElem_of_mem hc
       exact hall a ha (by omega)
      have hcin:t.changes.all (chgIn T.length)=true:=List.all_eq_true.2 λc hc=>decide_eq_true ⟨(mayCh_iff.1 (ht6 c hc)).1,by rw[hTl];exact hb c hc⟩
      rw[if_pos (show t.lsn=lsn∧∀c∈t.changes,c.table<(n:Int) from ⟨by omega,hb⟩)]at hrd
      have hlq2:lsn+1=lowG g.segs+((i+1:Nat):Int):=by omega
      rw[hlq2]at hrd
      have hS:SL W (.pt kp (rscells xp lp rp nw im) 171::.ob (RSetO H4 rp T)::.ob (RLogO lp xp g)::_) w:=RSrcO.iff.1 (SL.into hS (t:=.ob (RSrcO kp xp lp rp H4 ⟨g,d',T,nw,im⟩)::.pt xb [.int .i64 t.lsn,.int .i64 t.kind,xx.cv,xx.sv,.int .i64 t.mark] 39::.ob (RDO H4 xp d')::.mem H4::F) Xi)
      refine Gp ?_
      refine zc (λhi2=>?_) (λhi2=>?_)
      ·rw[if_pos (show im<lsn by omega)]at hrd
       refine Gn λw hS=>?_
       (refine Cc (yR H4 rp T xx.cv t.changes hx.cv hTn (by omega)) ?_;clear hS)
       rintro _ post hq2 w hS
       unfold AppQ at hq2
       rw[if_pos hcin]at hq2
       obtain⟨rfl,H5,h45,rfl⟩:=hq2
       (try simp only[app]at hS)
       have hS:=RDO.monoP h45 hS (xp:=xp) (s:=d') Xr
       have hS:=RSrcO.putN (d:=d') hS Xp
       refine Gp ?_
       rw[hlq2]
       refine⟨⟨i+1,appsTs T t.changes,H5,rfl,by omega,hrd,by rw[appsTs_len];exact hTl,λC hC=>?_,Heap.le_trans h04 h45,SL.into hS Xi⟩,by dsimp only;omega⟩
       have:=appsTs_lenR (1000+16*i) (l:=t.changes) hTn (λc hc=>List.all_eq_true.1 hcin c hc) C hC
       omega
      ·rw[if_neg (show ¬im<lsn by omega)]at hrd
       have hS:=RSrcO.putN (d:=d') hS Xp
       refine Gp ?_
       rw[hlq2]
       exact⟨⟨i+1,T,H4,rfl,by omega,hrd,hTl,λC hC=>by have:=hTn C hC;omega,h04,SL.into hS Xi⟩,by dsimp only;omega⟩
   ·obtain rfl:i=(entsG g.segs).length:=by omega
    rw[List.drop_length]at hrd
    have hrd:redoS n im (entsG g.segs) (lowG g.segs) T0=some T:=hrd
    have hS:=RSrcO.putN (d:=d') hS Xp
    refine zc (λhb=>?_) (λhb=>?_)
    ·exact hF (by rw[hrd];simp only;rw[if_neg (by omega)]) hh (SL.into hS Xi)
    ·rw[hrd]
     simp only
     rw[if_pos (show im≤headG g.segs∧lowG g.segs≤im+1 by omega)]
     exact⟨_,⟨kp,lp,rp,H3,hh,rfl,rfl⟩,SL.into hS Xi⟩
abbrev rspcells(kp mp gp:Nat)(n:Int):List Value:=[ptrA kp,ptrA mp,.int .i64 n,ptrA gp]
theorem qf(kp mp:Nat)(H:Heap)(n:Int):SP 115 [ptrA kp,ptrA mp,.int .i64 n] [] (λv post=>(¬(1≤n∧n≤64)∧v= .pointer none∧post=[]) ∨
  ((1≤n∧n≤64)∧∃pp gp:Nat,v=ptrA pp∧post=[.pt pp (rspcells kp mp gp n) 286,.ob (RDrrO gp H drr0)])):=by
 intro W F w hS;apply vc115;unfold Vc115;(try simp only[app]at hS)
 refine Gp ?_
 refine zc (λh=>⟨_,.inl ⟨by omega,rfl,rfl⟩,hS⟩) (λh1=>?_)
 refine Gp ?_
 refine zc (λh=>⟨_,.inl ⟨by omega,rfl,rfl⟩,hS⟩) (λh2=>?_)
 (refine Cc (qL H) ?_;clear hS)
 rintro _ post ⟨gp,rfl,rfl⟩ w hS
 (try simp only[app]at hS);refine Gp ?_
 refine⟨_,rfl,zN hS λpp w hS=>?_⟩
 exact⟨_,.inr ⟨by omega,pp,gp,rfl,rfl⟩,SL.into hS Xi⟩
section
variable {W w:World} {l:List Chunk}
end
def rdT(y:Except Int TxnD):TxnD:=match y with
 | .error _=>⟨0,0,[],[],0⟩
 | .ok t=>t
def rdE(y:Except Int TxnD):Int:=match y with
 | .error e=>e
 | .ok _=>0
theorem zTx_is(H:Heap):TxIs H zTx ⟨0,0,[],[],0⟩:=⟨rfl,rfl,rfl,RdSl.nil _ _,RdSl.nil _ _⟩
theorem ReadSQ.all{sp tp dp lp:Nat}{k:PSrc}{H:Heap}{lsn:Int}{r:Value}{post:List Chunk}(h:ReadSQ sp tp dp lp k H lsn r post):∃x H',H.le H'∧r= .tuple #[agg (encTx x),.int .i64 (rdE (k.readS lsn))]∧TxIs H' x (rdT (k.readS lsn))∧post=[.ob (SrcO sp tp dp lp k),.mem H']:=by
 unfold ReadSQ at h
 cases hr:k.readS lsn with
 | error e=>
  rw[hr]at h
  obtain⟨_,H',hh,rfl,rfl⟩:=h
  exact⟨zTx,H',hh,rfl,zTx_is H',rfl⟩
 | ok t=>
  rw[hr]at h
  obtain⟨x,H',hh,rfl,hx,rfl⟩:=h
  exact⟨x,H',hh,rfl,hx,rfl⟩
theorem RReadSQ.all{kp xp lp rp:Nat}{k:PSrc}{H:Heap}{lsn:Int}{r:Value}{post:List Chunk}(h:RReadSQ kp xp lp rp k H lsn r post):∃x H',H.le H'∧r= .tuple #[agg (encTx x),.int .i64 (rdE (k.readS lsn))]∧TxIs H' x (rdT (k.readS lsn))∧post=[.ob (RSrcO kp xp lp rp H' k),.mem H']:=by
 unfold RReadSQ at h
 cases hr:k.readS lsn with
 | error e=>
  rw[hr]at h
  obtain⟨_,H',hh,rfl,rfl⟩:=h
  exact⟨zTx,H',hh,rfl,zTx_is H',rfl⟩
 | ok t=>
  rw[hr]at h
  obtain⟨x,H',hh,rfl,hx,rfl⟩:=h
  exact⟨x,H',hh,rfl,hx,rfl⟩
end Go.Proofs.YtfenmffiidchcaaGreat
