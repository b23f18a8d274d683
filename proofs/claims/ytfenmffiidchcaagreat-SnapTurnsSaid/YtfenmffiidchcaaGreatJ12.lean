/-
  Texts of the proof, joined: RLogS2, RLogS3, RLogA, RLogB, SrcR, SrcR2, SnpR, SameC, Same1, Law12, Law12A, Law12P, PlayS.
-/
import Derived.Test.YtfenmffiidchcaaGreatJ11
import Derived.Test.YtfenmffiidchcaaGreatQVcG
import Derived.Test.YtfenmffiidchcaaGreatQVcF
namespace Go.Proofs.YtfenmffiidchcaaGreat
set_option linter.unusedVariables false
set_option maxRecDepth 100000
open Go.RowKit
theorem qm(lp xp:Nat)(g:dJ)(n:Int){M:Nat}(hg:kP g M)(hM:M<=1000000000000)(hn : -9000000000000000000<=n/\n<=9000000000000000000):
  SP 179 [.pointer (some ⟨lp,0,none⟩),.int .i64 n] [.ob (dR lp xp g)] (wX [.ob (dR lp xp g)] (g9 g.bI n)):=by
 intro W F w hS;apply bF5;delta IV aF bw a_ ai bF;(try simp only[app]at hS)
 refine Cg (ZA lp xp g hg.ok hM) λw hS=>?_
 refine za (λh1=>?_) (λh1=>?_)
 ·rw[RX g.bI n hg.seq (λs _=>by omega) h1]
  exact⟨_,⟨rfl,rfl⟩,hS⟩
 ·skip
  refine Cg (zW lp xp g hg.ok hM) λw hS=>?_
  refine za (λh2=>?_) (λh2=>?_)
  ·rw[RV g.bI n hg.seq h2]
   exact⟨_,⟨rfl,rfl⟩,hS⟩
  ·have uu:oZ g.bI n=g9 g.bI n:=Nm g.bI n hg.seq λs hs=>by
    cases hL:g.bI with
    | nil=>rw[hL]at hs;cases hs
    | cons a r=>
     rw[hL]at hs h1
     cases hs
     have:¬n<s.first:=h1
     omega
   rw[<- uu]
   obtain⟨sv,xs,hx,hS⟩:=dR.iff.1 hS
   obtain⟨b5,hl,_,_⟩:=hg.ok.xs hx
   have Ah:gW (xs.map dh.pl):=by rw[hx];exact hg.seq
   have OD:∀s,((xs.drop 0).map dh.pl).head?=some s->s.first<=n:=by
    intro s hs
    rw[List.drop_zero]at hs
    cases xs with
    | nil=>cases hs
    | cons a r=>
     cases hs
     have:¬n<e_ g.bI:=h1
     rw[<- hx]at this
     have:¬n<a.pl.first:=this
     omega
   rw[<- hx]
   refine⟨λvs w=>∃i:Nat,i<=xs.length/\vs=[.int .i64 i]/\oZ (xs.map dh.pl) n=oZ ((xs.drop i).map dh.pl) n/\(∀s,((xs.drop i).map dh.pl).head?=some s->s.first<=n)/\SL W (.pt lp (jj sv xp g.base g.size (kd g.dM)) 254::iB sv xs::.ob (zf dF xs)::F) w,
    λvs _=>match vs with|[.int _ i]=>xs.length-i.toNat|_=>0,⟨0,by omega,rfl,rfl,OD,aR hS⟩,?_⟩
   clear hS OD
   rintro v6 w ⟨i,hi,hv,hr,x_,hS⟩
   cases hv
   rw[hr]
   refine Gp ?_
   refine zT hS (v:=sv) (t:=259) (sz:=4) (n:=xs.length) (cells:=(xs.map eK).flatten) Xh ?_
   refine bR (λh0=>?_) (λh0=>?_)
   ·have hj:i<xs.length:=by omega
    have Pd:xs[i]?=some xs[i]:=List.getElem?_eq_getElem hj
    have b5:=b5 _ (List.mem_map.2 ⟨_,List.getElem_mem hj,rfl⟩)
    have xK:(xs.drop i).map dh.pl=xs[i].pl::(xs.drop (i+1)).map dh.pl:=by rw[List.drop_eq_getElem_cons hj];rfl
    have Fy:=Ah.drop i
    rw[<- List.map_drop,xK]at Fy
    rw[xK]at x_ ⊢
    have WV:=x_ _ rfl
    have iy:oZ (xs[i].pl::(xs.drop (i+1)).map dh.pl) n=if n-xs[i].pl.first<xs[i].pl.l.length then xs[i].pl.l[(n-xs[i].pl.first).toNat]? else oZ ((xs.drop (i+1)).map dh.pl) n:=rfl
    rw[iy]
    have mX:¬n-xs[i].pl.first<xs[i].pl.l.length->∀s,((xs.drop (i+1)).map dh.pl).head?=some s->s.first<=n:=by
     intro h s hs
     cases hL:(xs.drop (i+1)).map dh.pl with
     | nil=>rw[hL]at hs;cases hs
     | cons a r=>
      rw[hL]at hs Fy
      cases hs
      have:=Fy.1
      simp only[dz.next]at this
      omega
    have k1:=b5.n0
    have k2:=b5.n1
    refine Gp ?_
    refine yg (i:=1) hS Xh hj (u:=.int .i64 xs[i].first) rfl ?_
    have e1:xs[i].pl.first=xs[i].first:=rfl
    have e2:xs[i].pl.l.length=xs[i].es.length:=by simp[dh.pl,oR]
    have e3:xs[i].pl.l=j5 xs[i].es:=rfl
    rw[e1]at k1 k2 WV
    refine Gp ?_
    refine yg (i:=3) hS Xh hj (u:=.slice xs[i].a xs[i].es.length xs[i].c) rfl ?_
    refine bR (λh3=>?_) (λh3=>?_)
    ·rw[if_pos (by rw[e1,e2];exact h3)]
     obtain⟨j,E8⟩:=Int.eq_ofNat_of_zero_le (show 0<=n-xs[i].first by omega)
     have fG:j<xs[i].es.length:=by omega
     refine Gm λb w hS=>?_
     have hS:=a7.full (n:=0) (sz:=1) rfl hS
     refine yg (i:=3) hS Xh hj (u:=.slice xs[i].a xs[i].es.length xs[i].c) rfl ?_
     rw[e1,E8]
     have hS:=zf.take (SL.b6 hS (t:=.ob (zf dF xs)::.ob (a7 (.slice (some ⟨b,0,none⟩) 0 0) 5 1 0 [])::.pt lp (jj sv xp g.base g.size (kd g.dM)) 254::iB sv xs::F) Xi) Pd
     have hS:=dF.iff.1 hS
     unfold dh.lv at hS
     refine yC (j:=j) hS .hd fG λp o hb=>?_
     have xM:xs[i].es[j]?=some xs[i].es[j]:=List.getElem?_eq_getElem fG
     have lM:(eO xs[i].es)[j*1+0]?=some xs[i].es[j].1:=by simp[eO,fG]
     refine⟨_,_,rfl,hb 0 _ (by omega) lM,?_⟩
     have hS:=zf.take (SL.b6 hS (t:=.ob (zf eV xs[i].es)::.ob (dC (.slice xs[i].a xs[i].es.length xs[i].c) 62 1 xs[i].es.length (eO xs[i].es))::.ob (zf dF (xs.eraseIdx i))::.ob (a7 (.slice (some ⟨b,0,none⟩) 0 0) 5 1 0 [])::.pt lp (jj sv xp g.base g.size (kd g.dM)) 254::iB sv xs::F) Xi) xM
     have rQ:xs[i].es[j].2.length<=1048576:=b5.bl _ (List.mem_map.2 ⟨_,List.getElem_mem fG,rfl⟩)
     have EP:xs[i].pl.l[((j:Int)).toNat]?=some xs[i].es[j].2:=by rw[e3];simp[j5,fG]
     rw[EP]
     have hR:dN (.ob (eV xs[i].es[j])) xs[i].es[j].1 xs[i].es[j].2:=dN.own
     refine zx (t:=5) (sz:=1) (n:=0) (cells:=[]) (m:=xs[i].es[j].2.length) (cs:=xs[i].es[j].2.map cI) hS Xr (hR.src hS .hd) (by simp) rfl (j3 _) (by omega) (by omega) ?_
     clear hS;intro u w hS
     rw[Nat.zero_add,List.nil_append]at hS
     have hS:=zf.back (SL.b6 hS (t:=.ob (eV xs[i].es[j])::.ob (zf eV (xs[i].es.eraseIdx j))::.ob (dC (.slice xs[i].a xs[i].es.length xs[i].c) 62 1 xs[i].es.length (eO xs[i].es))::.ob (a7 u 5 1 xs[i].es[j].2.length (xs[i].es[j].2.map cI))::.ob (zf dF (xs.eraseIdx i))::.pt lp (jj sv xp g.base g.size (kd g.dM)) 254::iB sv xs::F) Xi) xM
     have hS:=(dF.iff (x:=xs[i])).2 (SL.b6 hS (t:=.ob (dC (.slice xs[i].a xs[i].es.length xs[i].c) 62 1 xs[i].es.length (eO xs[i].es))::.ob (zf eV xs[i].es)::.ob (a7 u 5 1 xs[i].es[j].2.length (xs[i].es[j].2.map cI))::.ob (zf dF (xs.eraseIdx i))::.pt lp (jj sv xp g.base g.size (kd g.dM)) 254::iB sv xs::F) Xi)
     have hS:=zf.back (SL.b6 hS (t:=.ob (dF xs[i])::.ob (zf dF (xs.eraseIdx i))::.ob (a7 u 5 1 xs[i].es[j].2.length (xs[i].es[j].2.map cI))::.pt lp (jj sv xp g.base g.size (kd g.dM)) 254::iB sv xs::F) Xi) Pd
     have hS:=dR.close (lp:=lp) (xp:=xp) (F:=.ob (a7 u 5 1 xs[i].es[j].2.length (xs[i].es[j].2.map cI))::F) hS hx Xi
     exact⟨_,⟨u,rfl,rfl⟩,aR hS⟩
    ·rw[if_neg (by rw[e1,e2];exact h3)]
     refine Gp ?_
     exact⟨⟨i+1,by omega,rfl,rfl,mX (by rw[e1,e2];exact h3),aR hS⟩,by simp only[Int.toNat_natCast];omega⟩
   ·have:xs.drop i=[]:=List.drop_eq_nil_of_le (by omega)
    rw[this]
    exact⟨_,⟨rfl,rfl⟩,dR.close hS hx Xi⟩
def A3(H:aW)(xp:Nat)(y:DS × Except Int dJ)(r:Value)(post:List Chunk):Prop:=match y.2 with
 | .error e=>e≠0/\r= .tuple #[.pointer none,.int .i64 e]/\∃H',H.le H'/\post=[.ob (dm H' xp y.1),.mem H']
 | .ok g=>∃(lp:Nat) (H':aW),H.le H'/\r= .tuple #[.pointer (some ⟨lp,0,none⟩),.int .i64 0]/\post=[.ob (dR lp xp g),.ob (dm H' xp y.1),.mem H']
structure HD(R:List PF)(ids:List Int)(i:Nat)(L:List dz)(wh:Bool)(next:Int)(M:Nat):Prop where
 le:i<=ids.length
 eq:jw R ids none [] true=jw R (ids.drop i) (if i=0 then none else ids[i-1]?) L wh
 len:(wh=true/\L.length=i)\/(wh=false/\i=ids.length/\L.length+1=i)
 next:0<i->wh=true->next=b9 L+1
 ok:∀s∈L,jA s M
theorem aRy(H:aW)(xp:Nat)(s:DS)(base size:Int){N B:Nat}(b5:s.Ok B)(hB:B<=140737488355328)(hw:nY s.R base N)(hN:N<=1000000000)(hR:s.R.length<=100000)(eJ:s.ops<=100000):
  SP 84 [.pointer (some ⟨xp,0,none⟩),.int .i64 base,.int .i64 size] [.ob (dm H xp s),.mem H] (A3 H xp (gD s base size)):=by
 intro W F w hS;apply b6k;delta Lp aF bw a_ dx cF df dc ai dk bF;(try simp only[app]at hS)
 have hE:∀{w:World} {e:Int},gD s base size=(s,.error e)->e≠0->SL W (.ob (dm H xp s)::.mem H::F) w->∃post,A3 H xp (gD s base size) (.tuple #[.pointer none,.int .i64 e]) post/\SL W (app post F) w:=λh he hS=>⟨[.ob (dm H xp s),.mem H],by rw[h];exact⟨he,rfl,H,aW.le_refl H,rfl⟩,hS⟩
 by_cases um:base<0\/12288<base\/size<64\/65536<size
 ·have e:gD s base size=(s,.error 1):=by unfold gD;rw[if_pos um]
  refine Gp ?_
  refine za (λh=>hE e (by decide) hS) (λh1=>?_)
  refine Gp ?_
  refine za (λh=>hE e (by decide) hS) (λh2=>?_)
  refine Gp ?_
  refine za (λh=>hE e (by decide) hS) (λh3=>?_)
  refine Gp ?_
  refine za (λh=>hE e (by decide) hS) (λh4=>by omega)
 ·refine Gp ?_
  refine za (λh=>by omega) (λ_=>?_)
  refine Gp ?_
  refine za (λh=>by omega) (λ_=>?_)
  refine Gp ?_
  refine za (λh=>by omega) (λ_=>?_)
  refine Gp ?_
  refine za (λh=>by omega) (λ_=>?_)
  obtain⟨fv,ys,⟨he,g6⟩,hS⟩:=dm.iff.1 hS
  have px:ys.length=s.R.length:=by rw[<- he,List.length_map]
  have gj:∀{w:World} {l F':List Chunk},SL W l w->gq [.pt xp (gk fv s) 66,.ob (fB fv ys)] l F'->SL W (.ob (dm H xp s)::F') w:=λh k=>dm.iff.2 ⟨fv,ys,⟨he,g6⟩,h.pick k⟩
  refine Gp ?_
  refine y0 (λho=>?_) (λho=>?_)
  ·have e:gD s base size=(s,.error 8):=by unfold gD;rw[if_neg um,if_pos ho]
   exact hE e (by decide) (SL.b6 (gj hS Xp) Xi)
  ·have eo:gD s base size=match jw s.R (fg base s.R) none [] true with
    | none=>(s,.error 3)
    | some (L,whole)=>if (hY L s (fg base s.R) whole).2≠0 then ((hY L s (fg base s.R) whole).1,.error (hY L s (fg base s.R) whole).2) else ((hY L s (fg base s.R) whole).1,.ok ⟨L,base,size,none⟩):=by
    unfold gD;rw[if_neg um,if_neg (by rw[ho];decide)];rfl
   have hi:∀f∈fg base s.R,base<=f/\f<base+4096:=λf hf=>FR hf
   have bW:=FQ base s.R
   have xR:=aFn (base:=base) he
   refine Gp ?_
   refine⟨_,rfl,zI hS ?_⟩
   clear hS;intro lp w hS
   refine Cc (Q5 H xp s fv ys g6 base (by omega) (by omega) (by omega)) ?_;clear hS
   rintro ov post rfl w hS;(try simp only[app]at hS)
   have hS:=dC.nK (a:=none) (t:=259) (sz:=4) hS
   have hS:=zf.nil (A:=dF) hS
   have hS:=SL.b6 hS (t:=.pt lp (jj (.slice none 0 0) xp base size (-1)) 254::.ob (dC (.slice none 0 0) 259 4 0 [])::.ob (zf dF [])::.ob (fB ov (lg base ys))::.pt xp (gk fv s) 66::.ob (fB fv ys)::.mem H::F) Xi
   have hS:=(dR.iff (g:=⟨[],base,size,none⟩)).2 ⟨_,[],rfl,hS⟩
   have As:∀y∈lg base ys,y∈ys:=λy hy=>aFo hy
   generalize hzs:lg base ys=zs at *
   generalize b8g:fg base s.R=ids at *
   have Ar:zs.length=ids.length:=by rw[<- xR,List.length_map]
   have uv:∀j (h:j<zs.length) (h':j<ids.length),ids[j]=zs[j].1.id:=λj h h'=>by
    have:ids[j]?=some zs[j].1.id:=by rw[<- xR,List.getElem?_map,List.getElem?_eq_getElem h];rfl
    rw[List.getElem?_eq_getElem h']at this
    exact Option.some.inj this
   have OA:∀j (h:j<zs.length),dP PF.id s.R zs[j].1.id=some zs[j].1:=λj h=>vI b5.sorted (by rw[<- he];exact List.mem_map.2 ⟨_,As _ (List.getElem_mem h),rfl⟩)
   have BH:∀{w:World} {l F':List Chunk},jw s.R ids none [] true=none->SL W (.ob (dm H xp s)::.mem H::F) w->∃post,A3 H xp (gD s base size) (.tuple #[.pointer none,.int .i64 3]) post/\SL W (app post F) w:=λh hS=>hE (by rw[eo,h]) (by decide) hS
   have NZ:HD s.R ids 0 [] true 0 (N+100000):=⟨Nat.zero_le _,rfl,.inl ⟨rfl,rfl⟩,λh=>by omega,by simp⟩
   refine⟨λvs w=>∃(i:Nat) (next:Int) (L:List dz) (wh:Bool),vs=[.int .i64 next,.int .i64 i]/\HD s.R ids i L wh next (N+100000)/\SL W (.ob (dR lp xp ⟨L,base,size,none⟩)::.ob (fB ov zs)::.pt xp (gk fv s) 66::.ob (fB fv ys)::.mem H::F) w,
    λvs _=>match vs with|[_,.int _ i]=>(ids.length-i).toNat|_=>0,⟨0,0,[],true,rfl,NZ,aR hS⟩,?_⟩
   clear hS NZ
   rintro v10 v11 w ⟨i,next,L,wh,eY,hA,hS⟩
   cases eY
   have b8i:=hA.le
   have EI:L.length<=100000:=by rcases hA.len with ⟨_,h⟩|⟨_,_,h⟩<;>omega
   have EH:(⟨L,base,size,none⟩:dJ).Ok (N+100000):=⟨hA.ok,by show 0<=base;omega,by show base<=12288;omega,by show 64<=size;omega,by show size<=65536;omega,by show L.length<=_;omega⟩
   refine zr hS (v:=ov) (t:=186) (sz:=3) (n:=zs.length) (cells:=(zs.map eX).flatten) Xh ?_
   refine bR (λh1=>?_) (λh1=>?_)
   ·have xT:i<zs.length:=by omega
    have xS:i<ids.length:=by omega
    have FN:wh=true/\L.length=i:=by
     rcases hA.len with h|⟨_,h,_⟩
     ·exact h
     ·omega
    obtain⟨rfl,VX⟩:=FN
    have hx:zs[i]?=some zs[i]:=List.getElem?_eq_getElem xT
    have hid:=uv i xT xS
    have pd:=OA i xT
    have Cb:=g6 _ (As _ (List.getElem_mem xT))
    have rT:=hi _ (List.getElem_mem xS)
    have heq:=hA.eq
    rw[List.drop_eq_getElem_cons xS,Ax,hid]at heq
    rw[hid]at rT
    have hyN:zs[i].1.b.length<=N:=hw.at_ rT _ pd
    have OB:0<i->∀h:i-1<zs.length,rM (if i=0 then none else ids[i-1]?) zs[i].1.id=decide (zs[i].1.id≠zs[i-1].1.id+1):=λh0 h=>by
     rw[if_neg (by omega),List.getElem?_eq_getElem (show i-1<ids.length by omega),uv (i-1) h (by omega)];rfl
    have WG:i=0->rM (if i=0 then none else ids[i-1]?) zs[i].1.id=false:=λh=>by rw[if_pos h];rfl
    have p9:(ids.drop (i+1)).isEmpty=decide (i+1=ids.length):=by
     rw[Bool.eq_iff_iff,decide_eq_true_iff,List.isEmpty_iff,List.drop_eq_nil_iff]
     omega
    rw[p9]at heq
    have mW:iX L s.R zs[i].1.id (decide (i+1=ids.length))=match fp zs[i].1.b with
     | none=>((false,decide (i+1=ids.length)),L)
     | some (first,l,n)=>if ((decide (i+1=ids.length)=false/\(n≠zs[i].1.b.length\/l.length=0))\/(0<L.length/\first≠b9 L+1)\/1099511627776<first+l.length-1) then ((true,false),L)
      else ((true,true),L++[⟨zs[i].1.id,first,n,l⟩]):=by
     unfold iX
     rw[pd];rfl
    have Fc:=F3 (L:=L) (f:=zs[i].1.id) (last:=decide (i+1=ids.length)) (M:=N+100000) (hw.at_ rT) (by omega) (by omega) (by omega) hA.ok
    have O2:∀h:i-1<zs.length,(zs[i-1]?)=some zs[i-1]:=λh=>List.getElem?_eq_getElem h
    have O3:∀h:i-1<zs.length,base<=zs[i-1].1.id/\zs[i-1].1.id<base+4096:=λh=>by
     have:=hi _ (List.getElem_mem (show i-1<ids.length by omega))
     rwa [uv (i-1) h (by omega)]at this
    refine z6 hS (v:=ov) (t:=186) Xh ki hx xT ?_
    generalize zs[i]=y at *
    obtain⟨yf,yv⟩:=y
    simp only at *
    obtain⟨_,ya,yc,rfl,_,_⟩:=id Cb
    refine zI hS ?_
    clear hS;intro fb w hS
    refine zz (vs:=[.int .i64 yf.id,.int .i64 (yf.safe:Int),.slice ya yf.b.length yc]) hS Xu rfl rfl (by simp[Value.oneCell']) ?_
    clear hS;intro w hS
    by_cases hg:rM (if i=0 then none else ids[i-1]?) yf.id=true
    ·
     have eN:jw s.R ids none [] true=none:=by
      rw[heq]
      split
      ·rfl
      ·first|rfl|rw[if_pos hg]
     refine⟨λvs w=>False,?_,λw h=>h.elim⟩
     refine Gn λw hS=>?_
     refine za (λh2=>?_) (λh2=>?_)
     ·have kY:i-1<zs.length:=by omega
      refine Gp ?_
      have e:((i:Nat):Int)-1=((i-1:Nat):Int):=by omega
      rw[e]
      have p_:=O3 kY
      refine zD (i:=0) hS (v:=ov) (t:=186) Xh ki (O2 kY) kY (u:=.int .i64 zs[i-1].1.id) rfl ?_
      refine Gp ?_
      have BX:=OB (by omega) kY
      rw[hg]at BX
      refine za (λh3=>?_) (λh3=>absurd (of_decide_eq_true BX.symm) h3)
      exact BH (l:=[]) (F':=[]) eN (SL.b6 (gj hS Xp) Xi)
     ·rw[WG (by omega)]at hg;cases hg
    ·rw[if_neg hg]at heq
     refine⟨λvs w=>vs=[]/\SL W (.pt fb [.int .i64 yf.id,.int .i64 (yf.safe:Int),.slice ya yf.b.length yc] 186::.ob (dR lp xp ⟨L,base,size,none⟩)::.ob (fB ov zs)::.pt xp (gk fv s) 66::.ob (fB fv ys)::.mem H::F) w,?_,?_⟩
     ·refine Gn λw hS=>?_
      refine za (λh2=>?_) (λh2=>⟨rfl,aR hS⟩)
      have kY:i-1<zs.length:=by omega
      refine Gp ?_
      have e:((i:Nat):Int)-1=((i-1:Nat):Int):=by omega
      rw[e]
      have p_:=O3 kY
      refine zD (i:=0) hS (v:=ov) (t:=186) Xh ki (O2 kY) kY (u:=.int .i64 zs[i-1].1.id) rfl ?_
      refine Gp ?_
      have BX:=OB (by omega) kY
      refine za (λh3=>absurd (by rw[BX];exact decide_eq_true h3) hg) (λh3=>?_)
      exact⟨rfl,aR hS⟩
     ·clear hS
      rintro w ⟨-,hS⟩
      refine Gp ?_
      have XL:dN (.mem H) (.slice ya yf.b.length yc) yf.b:=dN.rd Cb
      refine Cc (qY (.mem H) _ yf.b XL (by omega)) ?_;clear hS
      rintro r post hQ w hS
      unfold rB at hQ
      cases hr:fp yf.b with
      | none=>
       rw[hr]at hQ mW
       obtain⟨rfl,rfl⟩:=hQ
       simp only at mW
       rw[mW]at heq
       (try simp only[app]at hS);refine Gp ?_
       refine⟨λvs w=>vs=[.bool false]/\SL W (.pt fb [.int .i64 yf.id,.int .i64 (yf.safe:Int),.slice ya yf.b.length yc] 186::.ob (dR lp xp ⟨L,base,size,none⟩)::.ob (fB ov zs)::.pt xp (gk fv s) 66::.ob (fB fv ys)::.mem H::F) w,?_,?_⟩
       ·refine Gp ?_
        refine za (λh=>absurd h (by decide)) (λ_=>⟨rfl,aR hS⟩)
       ·clear hS
        rintro AX w ⟨eY,hS⟩
        cases eY
        refine⟨λvs w=>vs=[.bool (decide (i+1≠ids.length))]/\SL W (.pt fb [.int .i64 yf.id,.int .i64 (yf.safe:Int),.slice ya yf.b.length yc] 186::.ob (dR lp xp ⟨L,base,size,none⟩)::.ob (fB ov zs)::.pt xp (gk fv s) 66::.ob (fB fv ys)::.mem H::F) w,?_,?_⟩
        ·refine zr hS (v:=ov) (t:=186) (sz:=3) (n:=zs.length) (cells:=(zs.map eX).flatten) Xh ?_
         refine bR (λh=>?_) (λh=>?_)
         ·rw[decide_eq_true (show i+1≠ids.length by omega)]
          refine zO ?_
          refine zw ?_
          exact⟨rfl,aR hS⟩
         ·rw[decide_eq_false (show ¬i+1≠ids.length by omega)]
          refine Gp ?_
          refine za (λh=>absurd h (by decide)) (λ_=>⟨rfl,aR hS⟩)
        ·clear hS
         rintro S1 w ⟨eY,hS⟩
         cases eY
         refine za (λhb=>?_) (λhb=>?_)
         ·rw[decide_eq_false (show ¬i+1=ids.length from hb),if_pos rfl]at heq
          exact BH (l:=[]) (F':=[]) heq (SL.b6 (gj hS Xp) Xi)
         ·have mS:i+1=ids.length:=Classical.not_not.1 hb
          rw[decide_eq_true mS,if_neg (by simp)]at heq
          refine Gp ?_
          refine za (λ_=>?_) (λh=>absurd (by decide) h)
          refine Gp ?_
          refine⟨⟨i+1,next,L,false,rfl,⟨by omega,?_,.inr ⟨rfl,mS,by omega⟩,λ_ h=>(by cases h),hA.ok⟩,aR hS⟩,by dsimp only;omega⟩
          rw[heq,if_neg (by omega),Nat.add_sub_cancel,List.getElem?_eq_getElem xS,hid]
      | some q=>
       obtain⟨first,l,n⟩:=q
       have rY:=GH hr
       obtain⟨r1,r2,r3,r4,r5⟩:=rY
       rw[hr]at hQ mW
       obtain⟨u,es,Ow,rfl,rfl⟩:=hQ
       simp only at mW
       try simp only[app]at hS
       have mz:l.length=es.length:=by rw[<- Ow,oR]
       obtain⟨ua,uc,rfl,_⟩:=dC.at hS (v:=u) .hd
       refine Gp ?_
       refine⟨λvs w=>vs=[.bool (decide (n=yf.b.length/\0<es.length))]/\SL W (.pt fb [.int .i64 yf.id,.int .i64 (yf.safe:Int),.slice ya yf.b.length yc] 186::.ob (dC (.slice ua es.length uc) 62 1 es.length (eO es))::.ob (zf eV es)::.ob (dR lp xp ⟨L,base,size,none⟩)::.ob (fB ov zs)::.pt xp (gk fv s) 66::.ob (fB fv ys)::.mem H::F) w,?_,?_⟩
       ·refine Gp ?_
        refine za (λ_=>?_) (λh=>absurd rfl h)
        refine bR (λh=>?_) (λh=>?_)
        ·refine Gp ?_
         refine⟨?_,aR hS⟩
         congr 2
         rw[Bool.eq_iff_iff,decide_eq_true_iff,decide_eq_true_iff];omega
        ·refine⟨?_,aR hS⟩
         rw[decide_eq_false (show ¬(n=yf.b.length/\0<es.length) by omega)]
       ·clear hS
        rintro AX w ⟨eY,hS⟩
        cases eY
        refine⟨λvs w=>vs=[.bool (decide ((i+1≠ids.length/\¬(n=yf.b.length/\0<es.length))\/(0<i/\first≠next)))]/\SL W (.pt fb [.int .i64 yf.id,.int .i64 (yf.safe:Int),.slice ya yf.b.length yc] 186::.ob (dC (.slice ua es.length uc) 62 1 es.length (eO es))::.ob (zf eV es)::.ob (dR lp xp ⟨L,base,size,none⟩)::.ob (fB ov zs)::.pt xp (gk fv s) 66::.ob (fB fv ys)::.mem H::F) w,?_,?_⟩
        ·have k6:∀b:Bool,(b=decide ((i+1≠ids.length/\¬(n=yf.b.length/\0<es.length))\/(0<i/\first≠next)))->[Value.bool b]=[.bool (decide ((i+1≠ids.length/\¬(n=yf.b.length/\0<es.length))\/(0<i/\first≠next)))]:=λb h=>by rw[h]
         refine zr hS (v:=ov) (t:=186) (sz:=3) (n:=zs.length) (cells:=(zs.map eX).flatten) Xh ?_
         refine bR (λh=>?_) (λh=>?_)
         ·refine zO ?_
          by_cases hw:n=yf.b.length/\0<es.length
          ·rw[decide_eq_true hw]
           refine zq ?_
           refine Gp ?_
           refine za (λ_=>?_) (λh=>absurd rfl h)
           refine bR (λh2=>?_) (λh2=>?_)
           ·refine Gp ?_
            refine⟨k6 _ ?_,aR hS⟩
            rw[Bool.eq_iff_iff,decide_eq_true_iff,decide_eq_true_iff]
            constructor
            ·intro h;exact .inr ⟨by omega,h⟩
            ·rintro (⟨_,h⟩|⟨_,h⟩)
             ·exact absurd hw h
             ·exact h
           ·refine⟨k6 _ ?_,aR hS⟩
            refine (decide_eq_false ?_).symm
            rintro (⟨_,h⟩|⟨h,_⟩)
            ·exact absurd hw h
            ·omega
          ·rw[decide_eq_false hw]
           refine zw ?_
           exact⟨k6 _ (decide_eq_true (.inl ⟨by omega,hw⟩)).symm,aR hS⟩
         ·refine Gp ?_
          refine za (λ_=>?_) (λh=>absurd rfl h)
          refine bR (λh2=>?_) (λh2=>?_)
          ·refine Gp ?_
           refine⟨k6 _ ?_,aR hS⟩
           rw[Bool.eq_iff_iff,decide_eq_true_iff,decide_eq_true_iff]
           constructor
           ·intro h;exact .inr ⟨by omega,h⟩
           ·rintro (⟨h,_⟩|⟨_,h⟩)
            ·omega
            ·exact h
          ·refine⟨k6 _ ?_,aR hS⟩
           refine (decide_eq_false ?_).symm
           rintro (⟨h,_⟩|⟨h,_⟩)<;>omega
        ·clear hS
         rintro S1 w ⟨eY,hS⟩
         cases eY
         have jH:0<i->next=b9 L+1:=λh=>hA.next h rfl
         refine za (λhb=>?_) (λhb=>?_)
         ·rw[mW,if_pos (c:=(decide (i+1=ids.length)=false/\(n≠yf.b.length\/l.length=0))\/(0<L.length/\first≠b9 L+1)\/1099511627776<first+l.length-1) (by
           rcases hb with ⟨h1,h2⟩|⟨h1,h2⟩
           ·exact .inl ⟨decide_eq_false h1,by rw[mz];omega⟩
           ·exact .inr (.inl ⟨by omega,by rw[<- jH h1];exact h2⟩)),if_pos rfl]at heq
          exact BH (l:=[]) (F':=[]) heq (SL.b6 (gj hS Xp) Xi)
         ·refine Gp ?_
          refine za (λh=>absurd rfl h) (λ_=>?_)
          refine bR (λW0=>?_) (λW0=>?_)
          ·rw[mW,if_pos (c:=(decide (i+1=ids.length)=false/\(n≠yf.b.length\/l.length=0))\/(0<L.length/\first≠b9 L+1)\/1099511627776<first+l.length-1) (.inr (.inr (by rw[mz];omega))),if_pos rfl]at heq
           exact BH (l:=[]) (F':=[]) heq (SL.b6 (gj hS Xp) Xi)
          ·have vN:¬((decide (i+1=ids.length)=false/\(n≠yf.b.length\/l.length=0))\/(0<L.length/\first≠b9 L+1)\/1099511627776<first+l.length-1):=by
            rintro (⟨h1,h2⟩|⟨h1,h2⟩|h)
            ·exact hb (.inl ⟨of_decide_eq_false h1,by rw[mz]at h2;omega⟩)
            ·exact hb (.inr ⟨by omega,by rw[jH (by omega)];exact h2⟩)
            ·rw[mz]at h;omega
           rw[mW,if_neg vN,if_neg (by simp)]at heq
           rw[mW,if_neg vN]at Fc
           simp only at heq Fc
           obtain⟨sv,xs,jv,hS⟩:=dR.RC (SL.b6 hS (t:=.ob (dR lp xp ⟨L,base,size,none⟩)::.pt fb [.int .i64 yf.id,.int .i64 (yf.safe:Int),.slice ya yf.b.length yc] 186::.ob (dC (.slice ua es.length uc) 62 1 es.length (eO es))::.ob (zf eV es)::.ob (fB ov zs)::.pt xp (gk fv s) 66::.ob (fB fv ys)::.mem H::F) Xi)
           have nG:xs.length=L.length:=by
            have:=congrArg List.length jv
            rwa [List.length_map]at this
           refine Gm λb w hS=>?_
           have b8u:=dC.one hS (v:=sv) (t:=259) (sz:=4) (n:=xs.length) (cells:=(xs.map eK).flatten) Xh
           refine y7 (t:=259) (sz:=4) (n:=xs.length) (cells:=(xs.map eK).flatten) (m:=1) (cs:=[.int .i64 yf.id,.int .i64 first,.int .i64 n,.slice ua es.length uc]) hS Xr (iP hS .hd rfl) rfl rfl (by simp[Value.oneCell']) (by omega) (by omega) ?_
           clear hS;intro gA w hS
           have iN:=dC.one hS (v:=gA) .hd
           refine Gn λw hS=>?_
           have hS:=(dF.iff (x:=⟨yf.id,first,n,es,ua,uc⟩)).2 (SL.b6 hS (t:=.ob (dC (.slice ua es.length uc) 62 1 es.length (eO es))::.ob (zf eV es)::.ob (zf dF xs)::.pt lp (jj gA xp base size (-1)) 254::.ob (dC gA 259 4 (xs.length+1) ((xs.map eK).flatten++[.int .i64 yf.id,.int .i64 first,.int .i64 n,.slice ua es.length uc]))::.ob (fB ov zs)::.pt xp (gk fv s) 66::.ob (fB fv ys)::.mem H::F) Xi)
           have hS:=zf.snoc (hS.b6 (t:=.ob (zf dF xs)::.ob (dF ⟨yf.id,first,n,es,ua,uc⟩)::.pt lp (jj gA xp base size (-1)) 254::.ob (dC gA 259 4 (xs.length+1) ((xs.map eK).flatten++[.int .i64 yf.id,.int .i64 first,.int .i64 n,.slice ua es.length uc]))::.ob (fB ov zs)::.pt xp (gk fv s) 66::.ob (fB fv ys)::.mem H::F) Xi)
           have e1:xs.length+1=(xs++[(⟨yf.id,first,n,es,ua,uc⟩:dh)]).length:=by simp
           have e2:(xs.map eK).flatten++[.int .i64 yf.id,.int .i64 first,.int .i64 n,.slice ua es.length uc]=((xs++[(⟨yf.id,first,n,es,ua,uc⟩:dh)]).map eK).flatten:=by simp[eK,dh.lv]
           rw[e1,e2]at hS
           have uM:(xs++[(⟨yf.id,first,n,es,ua,uc⟩:dh)]).map dh.pl=L++[⟨yf.id,first,n,l⟩]:=by
            have:xs.map dh.pl=L:=jv
            rw[List.map_append,this];simp[dh.pl,Ow]
           have hS:=dR.Bj (L:=L++[⟨yf.id,first,n,l⟩]) (base:=base) (size:=size) (lp:=lp) (xp:=xp) (F:=.ob (fB ov zs)::.pt xp (gk fv s) 66::.ob (fB fv ys)::.mem H::F) hS uM Xi
           have lL:b9 (L++[⟨yf.id,first,n,l⟩])+1=first+es.length:=by
            rw[BU];simp only[dz.next,mz];omega
           refine⟨⟨i+1,first+es.length,L++[⟨yf.id,first,n,l⟩],true,rfl,⟨by omega,?_,.inl ⟨rfl,by simp;omega⟩,λ_ _=>lL.symm,Fc.1⟩,aR hS⟩,by dsimp only;omega⟩
           rw[heq,if_neg (by omega),Nat.add_sub_cancel,List.getElem?_eq_getElem xS,hid]
   ·have iW:i=ids.length:=by omega
    have heq:=hA.eq
    rw[iW,List.drop_length]at heq
    simp only[jw]at heq
    rw[heq]at eo
    simp only at eo
    refine zr hS (v:=ov) (t:=186) (sz:=3) (n:=zs.length) (cells:=(zs.map eX).flatten) Xh ?_
    refine bR (λh2=>?_) (λh2=>?_)
    ·have z_:ids=[]:=List.eq_nil_of_length_eq_zero (by omega)
     have hb:hY L s ids wh=(s,0):=by rw[z_];rfl
     rw[hb,if_neg (by simp)]at eo
     rw[eo]
     have hS:=gj hS Xp
     exact⟨_,⟨lp,H,aW.le_refl H,rfl,rfl⟩,aR hS⟩
    ·have hj:ids.length-1<ids.length:=by omega
     have xU:zs.length-1<zs.length:=by omega
     have hx:zs[zs.length-1]?=some zs[zs.length-1]:=List.getElem?_eq_getElem xU
     have uw:ids.getLast?=some zs[zs.length-1].1.id:=by
      rw[List.getLast?_eq_getElem?,<- Ar,List.getElem?_eq_getElem (by omega),uv _ xU]
     have pd:=OA _ xU
     have Cb:=g6 _ (As _ (List.getElem_mem xU))
     refine zr hS (v:=ov) (t:=186) (sz:=3) (n:=zs.length) (cells:=(zs.map eX).flatten) Xh ?_
     refine Gp ?_
     have e:((zs.length:Nat):Int)-1=((zs.length-1:Nat):Int):=by omega
     rw[e]
     refine z6 hS (v:=ov) (t:=186) Xh ki hx xU ?_
     generalize zs[zs.length-1]=y at *
     obtain⟨yf,yv⟩:=y
     simp only at *
     obtain⟨_,ya,yc,rfl,_,_⟩:=id Cb
     refine zI hS ?_
     clear hS;intro fb w hS
     refine zz (vs:=[.int .i64 yf.id,.int .i64 (yf.safe:Int),.slice ya yf.b.length yc]) hS Xu rfl rfl (by simp[Value.oneCell']) ?_
     clear hS;intro w hS
     obtain⟨sv,xs,jv,hS⟩:=dR.RC (SL.b6 hS (t:=.ob (dR lp xp ⟨L,base,size,none⟩)::.pt fb [.int .i64 yf.id,.int .i64 (yf.safe:Int),.slice ya yf.b.length yc] 186::.ob (fB ov zs)::.pt xp (gk fv s) 66::.ob (fB fv ys)::.mem H::F) Xi)
     have jv:xs.map dh.pl=L:=jv
     have nG:xs.length=L.length:=by rw[<- jv,List.length_map]
     refine Gp ?_
     refine zT hS (v:=sv) (t:=259) (sz:=4) (n:=xs.length) (cells:=(xs.map eK).flatten) Xh ?_
     refine zr hS (v:=ov) (t:=186) (sz:=3) (n:=zs.length) (cells:=(zs.map eX).flatten) Xh ?_
     refine bR (λh3=>?_) (λh3=>?_)
     ·have uL:wh=false:=by rcases hA.len with ⟨_,h⟩|⟨h,_⟩;omega;exact h
      have hb:hY L s ids wh=s.remove yf.id:=by
       unfold hY;rw[uw,uL];rfl
      rw[hb]at eo
      rw[eo]
      refine Gp ?_
      have hS:=gj hS Xp
      refine Cc (Zp H xp s B b5 eJ hR yf.id) ?_;clear hS
      rintro v post ⟨rfl,rfl⟩ w hS;(try simp only[app]at hS);refine bR (λh4=>?_) (λh4=>?_)
      ·rw[if_pos h4]
       exact⟨_,⟨h4,rfl,H,aW.le_refl H,rfl⟩,aR hS⟩
      ·rw[if_neg h4]
       have hS:=dR.Bj (L:=L) (base:=base) (size:=size) (lp:=lp) (xp:=xp) (F:=.ob (dm H xp (s.remove yf.id).1)::.mem H::F) hS jv Xi
       exact⟨_,⟨lp,H,aW.le_refl H,rfl,rfl⟩,aR hS⟩
     ·have B_:wh=true:=by rcases hA.len with ⟨h,_⟩|⟨_,_,h⟩;exact h;omega
      have Fb:mE s.R yf.id=yf.b.length:=by unfold mE;rw[pd]
      have hb:hY L s ids wh=if nJ L<(yf.b.length:Int) then s.cut yf.id (nJ L) else (s,0):=by
       unfold hY;rw[uw,B_]
       simp only[Fb]
       rw[if_neg (by decide)]
      rw[hb]at eo
      have uy:xs.length-1<xs.length:=by omega
      have Ff:nJ L=((xs[xs.length-1]'uy).size:Nat):=by
       unfold nJ
       rw[<- jv,List.getLast?_map,List.getLast?_eq_getElem?,List.getElem?_eq_getElem uy];rfl
      rw[Ff]at eo
      have ex:((xs.length:Nat):Int)-1=((xs.length-1:Nat):Int):=by omega
      refine Gn λw hS=>?_
      refine Cg (z8 lp xp sv xs base size (-1) (by omega)) λw hS=>?_
      rw[ex]
      refine yg (i:=2) hS Xh uy (u:=.int .i64 ((xs[xs.length-1]'uy).size:Nat)) rfl ?_
      generalize hz:(xs[xs.length-1]'uy).size=z at *
      refine bR (λh4=>?_) (λh4=>?_)
      ·rw[if_pos h4]at eo
       rw[eo]
       refine Gn λw hS=>?_
       refine Cg (z8 lp xp sv xs base size (-1) (by omega)) λw hS=>?_
       rw[ex]
       refine yg (i:=2) hS Xh uy (u:=.int .i64 (z:Int)) (by show some (Value.int .i64 ((xs[xs.length-1]'uy).size:Nat))=_;rw[hz]) ?_
       have hS:=gj hS Xp
       refine Cc (Yr H xp s B b5 hB eJ hR yf.id (z:Int)) ?_;clear hS
       rintro v post ⟨rfl,H',hH,rfl⟩ w hS;(try simp only[app]at hS);refine bR (λh5=>?_) (λh5=>?_)
       ·rw[if_pos h5]
        exact⟨_,⟨h5,rfl,H',hH,rfl⟩,aR hS⟩
       ·rw[if_neg h5]
        have hS:=dR.Bj (L:=L) (base:=base) (size:=size) (lp:=lp) (xp:=xp) (F:=.ob (dm H' xp (s.cut yf.id (z:Int)).1)::.mem H'::F) hS jv Xi
        exact⟨_,⟨lp,H',hH,rfl,rfl⟩,aR hS⟩
      ·rw[if_neg h4,if_neg (by simp)]at eo
       rw[eo]
       have hS:=gj hS Xp
       have hS:=dR.Bj (L:=L) (base:=base) (size:=size) (lp:=lp) (xp:=xp) (F:=.ob (dm H xp s)::.mem H::F) hS jv Xi
       exact⟨_,⟨lp,H,aW.le_refl H,rfl,rfl⟩,aR hS⟩
section
variable {W w:World} {l F:List Chunk}
theorem dR.put{lp xp:Nat}(g:dJ){sv:Value}{xs:List dh}(hS:SL W l w)(hx:xs.map dh.pl=g.bI)(p:gq [.pt lp (jj sv xp g.base g.size (kd g.dM)) 254,iB sv xs,.ob (zf dF xs)] l F):SL W (.ob (dR lp xp g)::F) w:=dR.iff.2 ⟨sv,xs,hx,hS.pick p⟩
theorem dR.lh{lp xp:Nat}{L:List dz}{base size ti:Int}(tn:Option tN){sv:Value}{xs:List dh}(hS:SL W l w)(hx:xs.map dh.pl=L)(p:gq [.pt lp (jj sv xp base size ti) 254,iB sv xs,.ob (zf dF xs)] l F)(ht:kd tn=ti:=by rfl):SL W (.ob (dR lp xp ⟨L,base,size,tn⟩)::F) w:=by subst ht;exact dR.iff.2 ⟨sv,xs,hx,hS.pick p⟩
theorem dF.put(x:dh)(hS:SL W l w)(p:gq [.ob (dC x.lv 62 1 x.es.length (eO x.es)),.ob (zf eV x.es)] l F):SL W (.ob (dF x)::F) w:=dF.iff.2 (hS.pick p)
theorem dm.put{H:aW}{xp:Nat}(s:DS){fv:Value}{ys:List YF}(hS:SL W l w)(he:ys.map Prod.fst=s.R/\nT H ys)(p:gq [.pt xp (gk fv s) 66,.ob (fB fv ys)] l F):SL W (.ob (dm H xp s)::F) w:=dm.iff.2 ⟨fv,ys,he,hS.pick p⟩
theorem zf.a_m{α:Type}{A:α->zC}{xs:List α}{t:Nat}{x:α}(hS:SL W l w)(hx:xs[t]?=some x)(r:gB (.ob (zf A xs)) l F):SL W (.ob (A x)::.ob (zf A (xs.eraseIdx t))::F) w:=zf.take (hS.perm r.perm) hx
theorem zf.aF6{α:Type}{A:α->zC}{xs:List α}{t:Nat}(y:α)(hS:SL W l w)(ht:t<xs.length)(p:gq [.ob (A y),.ob (zf A (xs.eraseIdx t))] l F):SL W (.ob (zf A (xs.set t y))::F) w:=zf.put (hS.pick p) ht
theorem zf.Ss{α:Type}{A:α->zC}{xs:List α}(x:α)(hS:SL W l w)(p:gq [.ob (zf A xs),.ob (A x)] l F):SL W (.ob (zf A (xs++[x]))::F) w:=zf.snoc (hS.pick p)
theorem dm.gC{H H':aW}{xp:Nat}{s:DS}(hh:H.le H')(hS:SL W l w)(r:gB (.ob (dm H xp s)) l F):SL W (.ob (dm H' xp s)::F) w:=dm.mono hh (hS.perm r.perm)
end
def Tn(H:aW)(lp xp:Nat)(g:dJ)(d:DS)(y:Except Int il)(r:Value)(post:List Chunk):Prop:=match y with
 | .error e=>e≠0/\r= .tuple #[.slice none 0 0,.int .i64 0,.bool false,.int .i64 e]/\post=[.ob (dR lp xp g),.ob (dm H xp d),.mem H]
 | .ok x=>∃v,r= .tuple #[v,.int .i64 x.file,.bool x.fresh,.int .i64 0]/\post=[.ob (a7 v 5 1 x.b.length (x.b.map cI)),.ob (dR lp xp g),.ob (dm H xp d),.mem H]
theorem qX(H:aW)(lp xp:Nat)(g:dJ)(d:DS)(v:Value)(p:List UInt8)(hv:dy H 1 v p.length (p.map cI))(hp:p.length<=1048576){M:Nat}(hg:kP g M)(hM:M<=1000000000000):
  SP 250 [.pointer (some ⟨lp,0,none⟩),v] [.ob (dR lp xp g),.ob (dm H xp d),.mem H] (Tn H lp xp g d (fE g d.off p)):=by
 intro W F w hS;apply bRs;delta JT aF bw a_ cF df ai bF;(try simp only[app]at hS)
 obtain⟨sv,xs,hx,hS⟩:=dR.iff.1 hS
 obtain⟨b5,hl,OC,xP⟩:=hg.ok.xs hx
 have Ob:=hg.ok.b0
 have rP:=hg.ok.b1
 have po:=hg.ok.s1
 have Xn:=hg.ok.s0
 have xQ:=hg.hd
 obtain⟨fv,ys,he,hS⟩:=dm.iff.1 (Has.front (c:=.ob (dm H xp d)) hS Xr)
 refine Gp ?_
 have mT:¬1048576<p.length:=by omega
 refine y0 (λho=>?_) (λho=>?_)
 ·have fo:fE g d.off p= .error 8:=by unfold fE;rw[if_neg mT,if_pos ho]
  rw[fo]
  have hS:=dm.put d hS he Xp
  have hS:=dR.put g hS hx Xp
  exact⟨_,⟨by decide,rfl,rfl⟩,aR hS⟩
 have hS:=dm.put d hS he Xp
 have Fq:¬d.off=true:=by rw[ho];decide
 refine Cc (ZB (.mem H) v p (.rd hv) (by omega)) ?_;clear hS
 rintro r post hQ w hS
 unfold nq at hQ
 rw[if_neg mT]at hQ
 obtain⟨u,rfl,rfl⟩:=hQ
 (try simp only[app]at hS);refine Gp ?_
 have B7:=lk p
 refine Cg (z8 lp xp sv xs g.base g.size (kd g.dM) (by omega)) λw hS=>?_
 have hS:=dR.put g hS hx Xp
 refine Cg (zW lp xp g hg.ok hM) λw hS=>?_
 refine za (λh1=>?_) (λh1=>?_)
 ·have fo:fE g d.off p= .error 7:=by unfold fE;rw[if_neg mT,if_neg Fq,if_pos (by omega)]
  rw[fo]
  exact⟨_,⟨by decide,rfl,rfl⟩,aR hS⟩
 have hu1:=a7.one (Has.front (c:=.ob (a7 u 5 1 (dG p).length ((dG p).map cI))) hS Xr)
 obtain⟨sv,xs,ju,hS⟩:=dR.iff.1 (Has.front (c:=.ob (dR lp xp g)) hS Xr)
 have WY:xs.length=g.bI.length:=by rw[<- ju,List.length_map]
 have WZ:(xs.length:Int)-1=(‹List dh›.length:Int)-1:=rfl
 have Fa:∀ys:List dh,ys.map dh.pl=g.bI->ys.length=xs.length:=λys h=>by rw[WY,<- h,List.length_map]
 rw[Fa _ hx]
 clear WZ
 have mZ:fE g d.off p=match g.bI.getLast? with
   | none=>jT g g.base p
   | some s=>if s.l.length=0\/(s.size:Int)+(dG p).length<=g.size then .ok ⟨s.file,false,dG p⟩ else jT g (s.file+1) p:=by
  unfold fE;rw[if_neg mT,if_neg Fq,if_neg (by omega)];rfl
 have ER:xs=[]/\fE g d.off p=jT g g.base p\/∃hj:xs.length-1<xs.length,fE g d.off p=if xs[xs.length-1].es.length=0\/(xs[xs.length-1].size:Int)+(dG p).length<=g.size then .ok ⟨xs[xs.length-1].file,false,dG p⟩ else jT g (xs[xs.length-1].file+1) p:=by
  rcases Nat.eq_zero_or_pos xs.length with h0|h0
  ·left
   have:xs=[]:=List.eq_nil_of_length_eq_zero h0
   refine⟨this,?_⟩
   rw[mZ,<- ju,this];rfl
  ·right
   have hj:xs.length-1<xs.length:=by omega
   refine⟨hj,?_⟩
   rw[mZ,<- ju,List.getLast?_map,List.getLast?_eq_getElem?,List.getElem?_eq_getElem hj]
   simp[dh.pl,oR]
 have rZ:∀hj:xs.length-1<xs.length,jA (xs[xs.length-1]).pl M:=λhj=>by
  refine hg.ok.bI _ ?_
  rw[<- ju];exact List.mem_map.2 ⟨_,List.getElem_mem hj,rfl⟩
 refine⟨λus w=>∃q:Bool,us=[.bool q]/\(q=true↔∃hj:xs.length-1<xs.length,xs[xs.length-1].es.length=0\/(xs[xs.length-1].size:Int)+(dG p).length<=g.size)/\SL W (.pt lp (jj sv xp g.base g.size (kd g.dM)) 254::iB sv xs::.ob (zf dF xs)::.ob (a7 u 5 1 (dG p).length ((dG p).map cI))::.ob (dm H xp d)::.mem H::F) w,?_,?_⟩
 ·refine Gn λw hS=>?_
  refine za (λh2=>?_) (λh2=>?_)
  ·have hj:xs.length-1<xs.length:=by omega
   have k3:=(rZ hj).sz
   have k3:xs[xs.length-1].size<=M:=k3
   rw[show (xs.length:Int)-1=((xs.length-1:Nat):Int) by omega]
   refine Gp ?_
   refine yg hS Xh hj (i:=3) rfl ?_
   unfold dh.lv
   refine bR (λh3=>?_) (λh3=>?_)
   ·exact⟨true,rfl,⟨λ_=>⟨hj,.inl (by omega)⟩,λ_=>rfl⟩,aR hS⟩
   ·refine Gp ?_
    refine yg hS Xh hj (i:=2) rfl ?_
    refine zr hS (v:=u) Xh ?_
    refine Gp ?_
    refine⟨_,rfl,?_,aR hS⟩
    rw[decide_eq_true_iff]
    constructor
    ·intro h;exact⟨hj,.inr (by omega)⟩
    ·rintro ⟨_,h|h⟩
     ·omega
     ·omega
  ·exact⟨false,rfl,⟨λh=>by (cases h),λ⟨hj,_⟩=>by omega⟩,aR hS⟩
 clear hS
 rintro v62 w ⟨q,da,hq,hS⟩
 cases da
 refine y0 (λXe=>?_) (λO5=>?_)
 ·obtain⟨hj,hc⟩:=hq.1 Xe
  obtain⟨_,fo⟩:∃_:True,fE g d.off p= .ok ⟨xs[xs.length-1].file,false,dG p⟩:=by
   rcases ER with ⟨h0,_⟩|⟨_,h⟩
   ·subst h0;simp at hj
   ·exact⟨trivial,by rw[h,if_pos hc]⟩
  rw[fo]
  rw[show (xs.length:Int)-1=((xs.length-1:Nat):Int) by omega]
  refine Gn λw hS=>?_
  refine yC hS (v:=sv) (t:=259) (sz:=4) (cells:=(xs.map eK).flatten) Xh hj λab ao hb=>?_
  have Og:=hb 0 (.int .i64 xs[xs.length-1].file) (by decide) (nz sw xs _ 0 _ _ (List.getElem?_eq_getElem hj) rfl)
  refine zQ ⟨_,_,rfl,Og,?_⟩
  refine Gp ?_
  refine⟨_,_,rfl,Og,⟨rfl,?_⟩⟩
  have hS:=dR.put g hS ju Xp
  exact⟨_,⟨u,rfl,rfl⟩,aR hS⟩
 ·have Fp:¬∃hj:xs.length-1<xs.length,xs[xs.length-1].es.length=0\/(xs[xs.length-1].size:Int)+(dG p).length<=g.size:=λh=>by rw[hq.2 h]at O5;cases O5
  refine Gp ?_
  refine⟨λus w=>∃f:Int,us=[.int .i64 f]/\fE g d.off p=jT g f p/\0<=f/\f<=1000000/\SL W (.pt lp (jj sv xp g.base g.size (kd g.dM)) 254::iB sv xs::.ob (zf dF xs)::.ob (a7 u 5 1 (dG p).length ((dG p).map cI))::.ob (dm H xp d)::.mem H::F) w,?_,?_⟩
  ·refine bR (λh2=>?_) (λh2=>?_)
   ·have hj:xs.length-1<xs.length:=by omega
    have k1:0<=xs[xs.length-1].file:=(rZ hj).f0
    have k2:xs[xs.length-1].file<=100000:=(rZ hj).f1
    rw[show (xs.length:Int)-1=((xs.length-1:Nat):Int) by omega]
    refine Gp ?_
    refine yg hS Xh hj (i:=0) rfl ?_
    refine Gp ?_
    refine⟨_,rfl,?_,by omega,by omega,aR hS⟩
    rcases ER with ⟨h0,_⟩|⟨_,h⟩
    ·subst h0;simp at hj
    ·rw[h,if_neg λhc=>Fp ⟨hj,hc⟩]
   ·refine⟨_,rfl,?_,by omega,by omega,aR hS⟩
    rcases ER with ⟨_,h⟩|⟨hj,_⟩
    ·exact h
    ·omega
  ·clear hS
   rintro v11 w ⟨f,da,fo,f0,f1,hS⟩
   cases da
   rw[fo]
   unfold jT
   refine bR (λh2=>?_) (λh2=>?_)
   ·rw[if_pos h2]
    have hS:=dR.put g hS ju Xp
    exact⟨_,⟨by decide,rfl,rfl⟩,aR hS⟩
   ·rw[if_neg h2]
    have hS:=dR.put g hS ju Xp
    refine Cg (zW lp xp g hg.ok hM) λw hS=>?_
    refine Cc (qV (b9 g.bI+1)) ?_;clear hS
    rintro r post hQ w hS
    unfold vh at hQ
    rw[if_neg (by omega)]at hQ
    obtain⟨y,rfl,rfl⟩:=hQ
    (try simp only[app]at hS);refine Gp ?_
    have h2l:=lk (fw (b9 g.bI+1).toNat)
    have h3l:=rR (b9 g.bI+1).toNat
    refine zx hS .hd (nc hS (v:=u) Xh) (by simp) rfl (j3 _) (by omega) (by omega) λz w hS=>?_
    refine⟨_,⟨z,rfl,rfl⟩,?_⟩
    rw[<- List.map_append,<- List.length_append]at hS
    exact aR hS
abbrev HB(lp xp:Nat)(H:aW)(u:Value)(y:dJ × DS)(v:Value)(post:List Chunk):Prop:=v=u/\∃H',H.le H'/\post=[.ob (dR lp xp y.1),.ob (dm H' xp y.2),.mem H']
theorem qd(H:aW)(lp xp:Nat)(g:dJ)(d:DS){M N:Nat}(hg:kP g M)(hM:M<=1000000000000)(b5:d.Ok N)(hN:N<=140737480000000)(eJ:d.ops<=90000):
  SP 251 [.pointer (some ⟨lp,0,none⟩)] [.ob (dR lp xp g),.ob (dm H xp d),.mem H] (HB lp xp H (.int .i64 (dI g d).2) (dI g d).1):=by
 intro W F w hS;apply bRt;delta JU aF bw a_ dx ai;(try simp only[app]at hS)
 have hR:=b5.wD
 obtain⟨sv,xs,hx,hS⟩:=dR.iff.1 hS
 obtain⟨r_,hl,_,_⟩:=hg.ok.xs hx
 refine Gp ?_
 cases ht:g.dM with
 | none=>
  have hm:dI g d=((g,d),0):=by unfold dI;rw[ht]
  rw[hm]
  refine za (λ_=>?_) (λh=>absurd (show kd none<0 by decide) h)
  have hS:=dR.put g hS hx Xp
  exact⟨_,⟨rfl,H,aW.le_refl H,rfl⟩,aR hS⟩
 | some x=>
  obtain⟨f0,f1,hold,lL⟩:=hg.dM x ht
  have hm:dI g d=(({g with dM:=if (if x.fresh=true then d.remove x.file else d.cut x.file x.kV).2=0 then none else some x},(if x.fresh=true then d.remove x.file else d.cut x.file x.kV).1),(if x.fresh=true then d.remove x.file else d.cut x.file x.kV).2):=by unfold dI;rw[ht]
  have FJ:kd (some x)=x.file:=rfl
  rw[ht]at hS
  rw[FJ]at hS ⊢
  refine za (λh=>by omega) (λ_=>?_)
  refine Cg (z8 lp xp sv xs g.base g.size x.file (by omega)) λw hS=>?_
  have p9:∀hj:xs.length-1<xs.length,g.bI.getLast?=some xs[xs.length-1].pl:=λhj=>by
   rw[<- hx,List.getLast?_map,List.getLast?_eq_getElem?,List.getElem?_eq_getElem hj];rfl
  generalize hz:(if x.fresh=true then d.remove x.file else d.cut x.file x.kV)=z at hm
  have uu:∀{w:World},x.fresh=true->SL W (.ob (dm H xp d)::.mem H::.pt lp (jj sv xp g.base g.size x.file) 254::iB sv xs::.ob (zf dF xs)::F) w->aw 174 [.pointer (some ⟨xp,0,none⟩),.int .i64 x.file] w λv w'=>[v]=[.int .i64 z.2]/\∃H',H.le H'/\SL W (.pt lp (jj sv xp g.base g.size x.file) 254::iB sv xs::.ob (zf dF xs)::.ob (dm H' xp z.1)::.mem H'::F) w':=λhf hS=>by
   refine Cc (Zp H xp d N b5 (by omega) (by omega) x.file) ?_;clear hS
   rintro v post ⟨rfl,rfl⟩ w hS
   rw[if_pos hf]at hz
   subst hz
   try simp only[app]at hS
   exact⟨rfl,H,aW.le_refl H,aR hS⟩
  refine⟨λus w=>us=[.int .i64 z.2]/\∃H',H.le H'/\SL W (.pt lp (jj sv xp g.base g.size x.file) 254::iB sv xs::.ob (zf dF xs)::.ob (dm H' xp z.1)::.mem H'::F) w,?_,?_⟩
  ·refine Gn λw hS=>?_
   refine za (λh0=>?_) (λh0=>?_)
   ·have hj:xs.length-1<xs.length:=by omega
    have oy:=p9 hj
    rw[show (xs.length:Int)-1=((xs.length-1:Nat):Int) by omega]
    refine Gp ?_
    refine yg hS Xh hj (i:=0) rfl ?_
    refine bR (λh1=>?_) (λh1=>?_)
    ·have hf:x.fresh=false:=by
      cases hb:x.fresh with
      | false=>rfl
      | true=>exact absurd h1 (lL hb _ oy)
     obtain⟨s,h2,h3,h4⟩:=hold hf
     rw[oy]at h2
     cases h2
     refine Gn λw hS=>?_
     refine yg hS Xh hj (i:=2) rfl ?_
     refine Cc (Yr H xp d N b5 (by omega) (by omega) (by omega) x.file xs[xs.length-1].size) ?_;clear hS
     rintro v post ⟨rfl,H',hh,rfl⟩ w hS
     try simp only[app]at hS
     rw[if_neg (by rw[hf];decide),h4]at hz
     have hz:d.cut x.file (xs[xs.length-1].size:Nat)=z:=hz
     rw[hz]at hS ⊢
     exact⟨rfl,H',hh,aR hS⟩
    ·have hf:x.fresh=true:=by
      cases hb:x.fresh with
      | true=>rfl
      | false=>
       obtain⟨s,h2,h3,h4⟩:=hold hb
       rw[oy]at h2
       cases h2
       exact absurd h3 h1
     refine Gn λw hS=>?_
     exact uu hf (aR hS)
   ·have hf:x.fresh=true:=by
     cases hb:x.fresh with
     | true=>rfl
     | false=>
      obtain⟨s,h2,_⟩:=hold hb
      have:xs=[]:=List.eq_nil_of_length_eq_zero (by omega)
      rw[<- hx,this]at h2
      cases h2
    refine Gn λw hS=>?_
    exact uu hf (aR hS)
  ·clear hS
   rintro v3 w ⟨da,H',hh,hS⟩
   cases da
   rw[hm]
   refine bR (λhe=>?_) (λhe=>?_)
   ·rw[if_pos he]
    refine Gn λw hS=>?_
    have hS:=dR.lh none hS hx Xp
    exact⟨_,⟨rfl,H',hh,rfl⟩,aR hS⟩
   ·rw[if_neg he]
    have hS:=dR.lh (some x) hS hx Xp
    exact⟨_,⟨rfl,H',hh,rfl⟩,aR hS⟩
def mJ(x:il)(y:(dJ × DS) × Int):(dJ × DS) × Int:=if y.2=0 then ((y.1.1,(y.1.2.append x.file x.b).1),(y.1.2.append x.file x.b).2) else y
def pJ(x:il)(y:(dJ × DS) × Int):(dJ × DS) × Int:=if y.2=0 then ((y.1.1,(y.1.2.sync x.file).1),(y.1.2.sync x.file).2) else y
theorem L1{g:dJ}{d:DS}{p:List UInt8}{x:il}(h:fE g d.off p= .ok x):fP g d p=(let y:=pJ x (mJ x (dI g d));if y.2=0 then (({y.1.1 with bI:=iz g.bI x p},y.1.2),(b9 (iz g.bI x p),0)) else (y.1,(0,y.2))):=by
 have hs:=(te g d).1
 by_cases hm:(dI g d).2=0
 ·have e1:mJ x (dI g d)=(((dI g d).1.1,((dI g d).1.2.append x.file x.b).1),((dI g d).1.2.append x.file x.b).2):=if_pos hm
  by_cases ha:((dI g d).1.2.append x.file x.b).2=0
  ·have e2:pJ x (mJ x (dI g d))=(((dI g d).1.1,(((dI g d).1.2.append x.file x.b).1.sync x.file).1),(((dI g d).1.2.append x.file x.b).1.sync x.file).2):=by rw[e1];exact if_pos ha
   simp only[e2]
   by_cases hk:(((dI g d).1.2.append x.file x.b).1.sync x.file).2=0
   ·rw[if_pos hk,LX h hm ha hk]
   ·rw[if_neg hk,LZ h hm ha hk]
  ·have e2:pJ x (mJ x (dI g d))=(((dI g d).1.1,((dI g d).1.2.append x.file x.b).1),((dI g d).1.2.append x.file x.b).2):=by rw[e1];exact if_neg ha
   simp only[e2]
   rw[if_neg ha,LW h hm ha]
 ·have e1:mJ x (dI g d)=dI g d:=if_neg hm
  have e2:pJ x (mJ x (dI g d))=dI g d:=by rw[e1];exact if_neg hm
  simp only[e2]
  rw[if_neg hm,LY h hm]
theorem Yh(H:aW)(lp xp:Nat)(g:dJ)(d:DS)(v:Value)(p:List UInt8)(hv:dy H 1 v p.length (p.map cI))(hp:p.length<=140737488355328){M N:Nat}(hg:kP g M)(hM:M<=100000000000)(b5:d.Ok N)(hN:N<=140737480000000)(eJ:d.ops<=90000):
  SP 184 [.pointer (some ⟨lp,0,none⟩),v] [.ob (dR lp xp g),.ob (dm H xp d),.mem H] (HB lp xp H (.tuple #[.int .i64 (fP g d p).2.1,.int .i64 (fP g d p).2.2]) (fP g d p).1):=by
 intro W F w hS;apply bIb;delta I2 aF bw a_ dx cF df ai bF;(try simp only[app]at hS)
 refine zm hv ?_
 refine bR (λmT=>?_) (λmT=>?_)
 ·have fo:fE g d.off p= .error 1:=by unfold fE;rw[if_pos (by omega)]
  rw[Bd fo]
  exact⟨_,⟨rfl,H,aW.le_refl H,rfl⟩,aR hS⟩
 refine Cc (qX H lp xp g d v p hv (by omega) hg (by omega)) ?_;clear hS
 rintro r post hQ w hS
 cases fo:fE g d.off p with
 | error e=>
  rw[fo]at hQ
  obtain⟨hz,rfl,rfl⟩:=hQ
  rw[Bd fo]
  (try simp only[app]at hS);refine Gp ?_
  refine⟨λvs w=>vs=[.int .i64 e]/\SL W (.ob (dR lp xp g)::.ob (dm H xp d)::.mem H::F) w,?_,?_⟩
  ·refine Gp ?_
   exact za (λh=>absurd h hz) (λ_=>⟨rfl,aR hS⟩)
  clear hS
  rintro v7 w ⟨eY,hS⟩
  cases eY
  refine⟨λvs w=>vs=[.int .i64 e]/\SL W (.ob (dR lp xp g)::.ob (dm H xp d)::.mem H::F) w,?_,?_⟩
  ·refine Gp ?_
   exact za (λh=>absurd h hz) (λ_=>⟨rfl,hS⟩)
  clear hS
  rintro v7 w ⟨eY,hS⟩
  cases eY
  refine⟨λvs w=>vs=[.int .i64 e]/\SL W (.ob (dR lp xp g)::.ob (dm H xp d)::.mem H::F) w,?_,?_⟩
  ·refine Gp ?_
   exact za (λh=>absurd h hz) (λ_=>⟨rfl,hS⟩)
  clear hS
  rintro v7 w ⟨eY,hS⟩
  cases eY
  refine Gp ?_
  refine za (λ_=>?_) (λh=>absurd hz h)
  exact⟨_,⟨rfl,H,aW.le_refl H,rfl⟩,aR hS⟩
 | ok x=>
  rw[fo]at hQ
  obtain⟨bv,rfl,rfl⟩:=hQ
  have hw:=Gz hg.ok fo
  have uD:=Ga (g:=g) b5
  have vV:=F_ (d:=d) hg.ok
  have uE:=te g d
  have y_:=RG g d
  have rQ:=hw.bl
  have Xd:=hw.pl
  rw[L1 fo]
  (try simp only[app]at hS);refine Gp ?_
  obtain⟨H1,d_,hb,hS⟩:=zE (H:=H) (v:=bv) (n:=x.b.length) (sz:=1) (t:=5) (cells:=x.b.map cI) hS Xp
  have hS:=dm.gC d_ hS Xr
  have kj:=hv.mono d_
  refine⟨λus w=>us=[.int .i64 (dI g d).2]/\∃H',H1.le H'/\SL W (.ob (dR lp xp (dI g d).1.1)::.ob (dm H' xp (dI g d).1.2)::.mem H'::F) w,?_,?_⟩
  ·refine Gp ?_
   refine za (λ_=>?_) (λh=>absurd rfl h)
   refine Cc (qd H1 lp xp g d hg (by omega) b5 hN eJ) ?_;clear hS
   rintro v post ⟨rfl,H',hh,rfl⟩ w hS
   try simp only[app]at hS
   exact⟨rfl,H',hh,aR hS⟩
  clear hS
  rintro v9 w ⟨da,H2,eh,hS⟩
  cases da
  have kW:=hb.mono eh
  have jL:=kj.mono eh
  have gv:=aW.le_trans d_ eh
  clear eh hb kj d_
  generalize dI g d=m at *
  have hA:(mJ x m).1.1=m.1.1/\(mJ x m).1.2.Ok (N+x.b.length)/\(mJ x m).1.2.ops<=d.ops+2:=by
   unfold mJ
   split
   ·exact⟨rfl,uD.append _ _,by have:=RE m.1.2 x.file x.b;simp only;omega⟩
   ·exact⟨rfl,uD.mono (by omega),by omega⟩
  have hmR:=uD.wD
  refine⟨λus w=>us=[.int .i64 (mJ x m).2]/\∃H',H2.le H'/\SL W (.ob (dR lp xp m.1.1)::.ob (dm H' xp (mJ x m).1.2)::.mem H'::F) w,?_,?_⟩
  ·unfold mJ
   refine bR (λh0=>?_) (λh0=>?_)
   ·rw[if_pos h0]
    obtain⟨sv,xs,hx,hS⟩:=dR.iff.1 (Has.front (c:=.ob (dR lp xp m.1.1)) hS Xr)
    refine Gp ?_
    refine Cc (YJ H2 xp m.1.2 N uD (by omega) (by omega) x.file bv x.b kW (by omega)) ?_;clear hS
    rintro v post ⟨rfl,H',hh,rfl⟩ w hS
    try simp only[app]at hS
    have hS:=dR.put m.1.1 hS hx Xp
    exact⟨rfl,H',hh,aR hS⟩
   ·rw[if_neg h0]
    exact⟨rfl,H2,aW.le_refl H2,aR hS⟩
  clear hS
  rintro v9 w ⟨da,H3,gE,hS⟩
  cases da
  have V5:=kW.mono gE
  have FL:=jL.mono gE
  have mw:=aW.le_trans gv gE
  clear gE kW jL gv
  obtain⟨ui,lF,hA3⟩:=hA
  generalize mJ x m=a at *
  have hB:(pJ x a).1.1=m.1.1:=by
   unfold pJ
   split
   ·exact ui
   ·exact ui
  have haR:=lF.wD
  refine⟨λus w=>us=[.int .i64 (pJ x a).2]/\SL W (.ob (dR lp xp m.1.1)::.ob (dm H3 xp (pJ x a).1.2)::.mem H3::F) w,?_,?_⟩
  ·unfold pJ
   refine bR (λh0=>?_) (λh0=>?_)
   ·rw[if_pos h0]
    obtain⟨sv,xs,hx,hS⟩:=dR.iff.1 (Has.front (c:=.ob (dR lp xp m.1.1)) hS Xr)
    refine Gp ?_
    refine Cc (q6 H3 xp a.1.2 _ lF (by omega) (by omega) x.file) ?_;clear hS
    rintro v post ⟨rfl,rfl⟩ w hS
    try simp only[app]at hS
    have hS:=dR.put m.1.1 hS hx Xp
    exact⟨rfl,aR hS⟩
   ·rw[if_neg h0]
    exact⟨rfl,aR hS⟩
  clear hS
  rintro v9 w ⟨da,hS⟩
  cases da
  simp only
  generalize pJ x a=y at *
  obtain⟨⟨y1,d3⟩,e⟩:=y
  simp only at *
  subst hB
  refine bR (λh0=>?_) (λh0=>?_)
  ·rw[if_neg h0]
   exact⟨_,⟨rfl,H3,mw,rfl⟩,aR hS⟩
  have h0:e=0:=Classical.not_not.1 h0
  subst h0
  rw[if_pos rfl]
  obtain⟨sv,xs,hx,hS⟩:=dR.iff.1 (Has.front (c:=.ob (dR lp xp m.1.1)) hS Xr)
  obtain⟨r_,nG,_,_⟩:=vV.xs hx
  have mA:b9 (xs.map dh.pl)=b9 g.bI:=by rw[hx,uE.1]
  have WH:=hw.hd
  have pc:=rS hg.ok.bI
  have Fk:=Ge hg.ok hw
  refine⟨λus w=>us=[]/\∃gA dw,dw.map dh.pl=oC g.bI x/\dw.length<=xs.length+1/\SL W (.pt lp (jj gA xp m.1.1.base m.1.1.size (kd m.1.1.dM)) 254::iB gA dw::.ob (zf dF dw)::.ob (dm H3 xp d3)::.mem H3::F) w,?_,?_⟩
  ·unfold oC
   refine y0 (λhf=>?_) (λhf=>?_)
   ·rw[if_pos hf]
    refine Gn λw hS=>?_
    refine Cg (yW lp xp sv xs m.1.1.base m.1.1.size (kd m.1.1.dM) r_ (by omega) (by omega)) λw hS=>?_;refine Gm λb w hS=>?_
    rw[mA]at hS
    refine y7 (m:=1) (cs:=[.int .i64 x.file,.int .i64 (b9 g.bI+1),.int .i64 0,.slice none 0 0]) hS Xr (iP hS .hd rfl) rfl rfl (by simp[Value.oneCell']) (by omega) (by omega) λgA w hS=>?_
    have iN:=dC.one hS (v:=gA) .hd
    refine Gn λw hS=>?_
    have hS:=dC.nK (a:=none) (t:=62) (sz:=1) hS
    have hS:=zf.nil (A:=eV) hS
    have hS:=(dF.iff (x:=⟨x.file,b9 g.bI+1,0,[],none,0⟩)).2 (hS.perm (.swap _ _ _))
    have hS:=zf.Ss (A:=dF) (xs:=xs) ⟨x.file,b9 g.bI+1,0,[],none,0⟩ hS Xp
    have e1:xs.length+1=(xs++[(⟨x.file,b9 g.bI+1,0,[],none,0⟩:dh)]).length:=by simp
    have e2:(xs.map eK).flatten++[.int .i64 x.file,.int .i64 (b9 g.bI+1),.int .i64 0,.slice none 0 0]=((xs++[(⟨x.file,b9 g.bI+1,0,[],none,0⟩:dh)]).map eK).flatten:=by simp[eK,dh.lv]
    rw[e1,e2]at hS
    refine⟨gA,xs++[⟨x.file,b9 g.bI+1,0,[],none,0⟩],?_,by simp,aR hS⟩
    rw[List.map_append,hx,uE.1];rfl
   ·rw[if_neg (by rw[hf];decide)]
    exact⟨rfl,sv,xs,by rw[hx,uE.1],by omega,aR hS⟩
  clear hS r_ mA
  rintro w ⟨-,gA,dw,ju,uA,hS⟩
  obtain⟨A,s,hA⟩:=Cz hw
  rw[wy _ _ _ hA]
  have hle:0<dw.length:=by
   have:=congrArg List.length ju
   rw[hA]at this;simp at this;omega
  have hj:dw.length-1<dw.length:=by omega
  have pq:dw=dw.take (dw.length-1)++[dw[dw.length-1]]:=by
   conv=>lhs;rw[<- List.take_append_drop (dw.length-1) dw]
   rw[List.drop_eq_getElem_cons hj,List.drop_eq_nil_of_le (by omega)]
  have ED:A=(dw.take (dw.length-1)).map dh.pl/\s=(dw[dw.length-1]).pl:=by
   rw[pq,List.map_append]at ju
   rw[hA]at ju
   have:=List.append_inj' ju rfl
   exact⟨this.1.symm,by simpa using this.2.symm⟩
  obtain⟨VP,po⟩:=ED
  subst VP po
  have Ai:=Fk (dw[dw.length-1]).pl (by rw[hA];simp)
  have z1:=Ai.sz
  have z2:=Ai.ln
  refine Cg (z8 lp xp gA dw m.1.1.base m.1.1.size (kd m.1.1.dM) (by omega)) λw hS=>?_
  have hS:=zf.a_m (A:=dF) (xs:=dw) hS (List.getElem?_eq_getElem hj) Xr
  have hS:=dF.iff.1 hS
  obtain⟨rb,ro,rc,AA,BB,rfl,vK,hS,jg⟩:=fm.at (Has.front (c:=iB gA dw) hS Xr) hj
  generalize Aq:dw[dw.length-1]=x0 at *
  have z1:x0.size<=M:=z1
  have z2:x0.es.length<=M:=by simpa [dh.pl,oR] using z2
  rw[show ((dw.length:Nat):Int)-1=((dw.length-1:Nat):Int) by omega]
  refine zB hj ?_
  rw[<- vK]
  refine Gp ?_
  refine zX hS Xh (nN (i:=2) (u:=.int .i64 x0.size) rfl) ?_
  refine zm V5 ?_
  refine Gp ?_
  refine zB hj ?_
  rw[<- vK]
  refine Gp ?_
  refine y2 hS Xu (nN (i:=2) (u:=.int .i64 x0.size) rfl) rfl λw hS=>?_
  rw[CD (by rw[sw];decide)]at hS
  have e5:(eK x0).set 2 (.int .i64 ((x0.size+x.b.length:Nat):Int))=[.int .i64 x0.file,.int .i64 x0.first,.int .i64 ((x0.size+x.b.length:Nat):Int),x0.lv]:=rfl
  rw[e5]at hS
  refine Gn λw hS=>?_
  refine zB hj ?_
  rw[<- vK]
  refine Gp ?_
  refine zX hS Xh (nN (i:=3) (u:=x0.lv) rfl) ?_
  refine Gm λb w hS=>?_
  refine zX hS Xh (nN (i:=3) (u:=x0.lv) rfl) ⟨rfl,?_⟩
  have hS:=a7.full (n:=0) (sz:=1) (t:=5) (cells:=[]) rfl hS
  refine zx (n:=0) (m:=p.length) hS .hd (nQ hS Xh FL) (by simp) rfl (j3 _) (by omega) (by omega) λu w hS=>?_
  rw[Nat.zero_add,List.nil_append]at hS
  have hu:=hS.kL .hd
  obtain⟨ua,uc,eu,_⟩:=a7.at hS .hd
  subst eu
  refine Gp ?_
  refine zX hS Xh (nN (i:=3) (u:=x0.lv) rfl) ⟨rfl,?_⟩
  refine Gm λb w hS=>?_
  refine zX hS Xh (nN (i:=3) (u:=x0.lv) rfl) ⟨rfl,?_⟩
  refine y7 (t:=62) (sz:=1) (n:=x0.es.length) (cells:=eO x0.es) (m:=1) (cs:=[.slice ua p.length uc]) hS Xr (iP hS .hd rfl) rfl rfl (by simp[Value.oneCell']) (by omega) (by omega) λv' w hS=>?_
  have iN:=dC.one hS (v:=v') .hd
  obtain⟨a',c',ev,_⟩:=dC.at hS (v:=v') .hd
  subst ev
  refine Gp ?_
  refine zB hj ?_
  rw[<- vK]
  refine Gp ?_
  refine y2 hS Xu (nN (i:=3) (u:=x0.lv) rfl) iN λw hS=>?_
  rw[CD (by show 3<4;decide)]at hS
  have e6:([.int .i64 x0.file,.int .i64 x0.first,.int .i64 ((x0.size+x.b.length:Nat):Int),x0.lv]:List Value).set 3 (.slice a' (x0.es.length+1) c')=eK ⟨x0.file,x0.first,x0.size+x.b.length,x0.es++[(.slice ua p.length uc,p)],a',c'⟩:=by
   simp[eK,dh.lv]
  rw[e6]at hS
  generalize hy:(⟨x0.file,x0.first,x0.size+x.b.length,x0.es++[(.slice ua p.length uc,p)],a',c'⟩:dh)=y at *
  have jv:(dw.set (dw.length-1) y).map dh.pl=(dw.take (dw.length-1)).map dh.pl++[oO x0.pl x.b.length p]:=by
   rw[List.set_eq_take_append_cons_drop,if_pos hj,List.drop_eq_nil_of_le (by omega),List.map_append]
   congr 1
   simp[<- hy,dh.pl,oO,j5]
  have Ac:=(GA hg.ok hw).1
  rw[wy _ _ _ hA,<- jv]at Ac
  have hS:=jg y w _ (Has.front (c:=.pt rb (AA++(eK y++BB)) 259) hS Xr)
  have hS:SL W (.ob (eV (.slice ua p.length uc,p))::_) _:=Has.front (c:=.ob (a7 (.slice ua p.length uc) 5 1 p.length (p.map cI))) hS Xr
  have hS:=zf.Ss (A:=eV) (xs:=x0.es) (.slice ua p.length uc,p) hS Xp
  have e7:x0.es.length+1=y.es.length:=by simp[<- hy]
  have e8:eO x0.es++[.slice ua p.length uc]=eO y.es:=by simp[<- hy,eO]
  have e9:x0.es++[(.slice ua p.length uc,p)]=y.es:=by simp[<- hy]
  have D8:(.slice a' (x0.es.length+1) c':Value)=y.lv:=by simp[<- hy,dh.lv]
  have hS:=Has.front (c:=.ob (dC (.slice a' (x0.es.length+1) c') 62 1 (x0.es.length+1) (eO x0.es++[.slice ua p.length uc]))) hS Xr
  rw[D8,e7,e8,e9]at hS
  have hS:=dF.put y hS Xp
  have hS:=zf.aF6 (A:=dF) (xs:=dw) (t:=dw.length-1) y hS hj Xp
  refine Cg (yW lp xp (.slice (some ⟨rb,ro,none⟩) dw.length rc) (dw.set (dw.length-1) y) m.1.1.base m.1.1.size (kd m.1.1.dM) Ac (by rw[List.length_set];omega) (by omega)) λw hS=>?_
  rw[jv]
  have hS:=dR.lh m.1.1.dM (L:=(dw.take (dw.length-1)).map dh.pl++[oO x0.pl x.b.length p]) hS jv Xp
  exact⟨_,⟨rfl,H3,mw,rfl⟩,aR hS⟩
theorem RW:∀{L:List dz} {n:Int} {b:List UInt8} {N:Nat},(∀s∈L,jA s N)->g9 L n=some b->b.length<=1048576
 | [],_,_,_,_,h=>by cases h
 | s::r,n,b,N,hs,h=>by
  unfold g9 at h
  split at h
  ·exact (hs s (.head _)).bl b (List.mem_of_getElem? h)
  ·exact RW (λx hx=>hs x (.tail _ hx)) h
def A4(H:aW)(xp:Nat)(s:DS)(f:Int)(v:Value)(post:List Chunk):Prop:=match dP PF.id s.R f with
 | none=>v= .tuple #[.slice none 0 0,.bool false]/\post=[.ob (dm H xp s),.mem H]
 | some x=>∃u,v= .tuple #[u,.bool true]/\post=[.ob (a7 u 5 1 x.b.length (x.b.map cI)),.ob (dm H xp s),.mem H]
theorem qe(H:aW)(xp:Nat)(s:DS)(N:Nat)(b5:s.Ok N)(hN:N<=140737488355328)(f:Int):
  SP 177 [dg xp,.int .i64 f] [.ob (dm H xp s),.mem H] (A4 H xp s f):=by
 intro W F w hS;apply bF3;delta IT bw a_ dc bF;(try simp only[app]at hS)
 have hR:=b5.wD
 obtain⟨fv,ys,⟨he,g6⟩,hS⟩:=dm.iff.1 hS
 have px:ys.length=s.R.length:=by rw[<- he,List.length_map]
 have kE:dP PF.id s.R f=(dP gz ys f).map Prod.fst:=by rw[<- he];exact xq py ys f
 refine Cg (y3 xp s fv ys (by rw[he];exact b5.sorted) (by omega) f) λw hS=>?_
 cases hk:fS gz ys f with
 | false=>
  have hg:dP PF.id s.R f=none:=by rw[kE];unfold dP;rw[if_neg (by rw[hk];decide)];rfl
  refine zw ?_
  have hS:=dm.put s hS ⟨he,g6⟩ Xp
  exact⟨[.ob (dm H xp s),.mem H],by unfold A4;rw[hg];exact⟨rfl,rfl⟩,aR hS⟩
 | true=>
  obtain⟨h1,h2⟩:=oA hk
  have hx:ys[eD gz ys f]?=some ys[eD gz ys f]:=List.getElem?_eq_getElem h1
  have hg:dP PF.id s.R f=some ys[eD gz ys f].1:=by rw[kE];unfold dP;rw[if_pos hk,hx];rfl
  have hC:=g6 _ (List.getElem_mem h1)
  have hlen:=b5.len _ (pV hg).1
  generalize eD gz ys f=i at *
  generalize ys[i]=y at *
  refine zq ?_
  refine zy hS (cells:=[]) rfl ?_
  clear hS;intro b1 w hS
  refine Gp ?_
  refine zD (i:=2) hS (v:=fv) (t:=186) Xh ki hx h1 (u:=y.2) rfl ?_
  have hS:=dm.put s hS ⟨he,g6⟩ (H:=H) (xp:=xp) Xp
  have hS:=a7.full (n:=0) (sz:=1) (b:=b1) (t:=5) (cells:=[]) rfl (SL.b6 hS (t:=.pt b1 [] 5::.ob (dm H xp s)::.mem H::F) Xi)
  refine zx (n:=0) (m:=y.1.b.length) hS Xr (nQ hS Xh hC) (by simp) rfl (j3 _) (by omega) (by omega) ?_
  clear hS;intro u w hS
  rw[List.nil_append,Nat.zero_add]at hS
  exact⟨[.ob (a7 u 5 1 y.1.b.length (y.1.b.map cI)),.ob (dm H xp s),.mem H],by unfold A4;rw[hg];exact⟨u,rfl,rfl⟩,aR hS⟩
abbrev na(xp lp rp:Nat)(fX image:Int):List Value:=[dg xp,dg lp,dg rp,.int .i64 fX,.int .i64 image]
def fk(kp xp lp rp:Nat)(H:aW)(k:du):zC:=zP True [.pt kp (na xp lp rp k.fX k.image) 171,.ob (eC H rp k.ts),.ob (dR lp xp k.g)]
section
variable {W w:World} {l F:List Chunk} {kp xp lp rp:Nat} {H H':aW}
theorem fk.iff{k:du}:SL W (.ob (fk kp xp lp rp H k)::l) w↔SL W (.pt kp (na xp lp rp k.fX k.image) 171::.ob (eC H rp k.ts)::.ob (dR lp xp k.g)::l) w:=by
 unfold fk
 simp only[SL.fact,true_and,List.cons_append,List.nil_append]
theorem fk.put(k:du)(hS:SL W l w)(p:gq [.pt kp (na xp lp rp k.fX k.image) 171,.ob (eC H rp k.ts),.ob (dR lp xp k.g)] l F):SL W (.ob (fk kp xp lp rp H k)::F) w:=fk.iff.2 (hS.pick p)
theorem fk.lh{g:dJ}{d:DS}{ts:gg}{fX image:Int}(hS:SL W l w)(p:gq [.pt kp (na xp lp rp fX image) 171,.ob (eC H rp ts),.ob (dR lp xp g)] l F):SL W (.ob (fk kp xp lp rp H ⟨g,d,ts,fX,image⟩)::F) w:=fk.iff.2 (hS.pick p)
theorem fk.gC{k:du}(hh:H.le H')(hS:SL W l w)(r:gB (.ob (fk kp xp lp rp H k)) l F):SL W (.ob (fk kp xp lp rp H' k)::F) w:=by
 have h:=fk.iff.1 (hS.perm r.perm)
 have h:=eC.gC hh h (.tl .hd)
 exact fk.iff.2 (h.perm (.swap _ _ _))
end
def wV(kp xp lp rp:Nat)(k:du)(H:aW)(aI:Int)(r:Value)(post:List Chunk):Prop:=match k.fp aI with
 | .error e=>e≠0/\∃H',H.le H'/\r= .tuple #[agg (eI ry),.int .i64 e]/\post=[.ob (fk kp xp lp rp H' k),.mem H']
 | .ok t=>∃x H',H.le H'/\r= .tuple #[agg (eI x),.int .i64 0]/\gO H' x t/\post=[.ob (fk kp xp lp rp H' k),.mem H']
section
variable (kp xp lp rp:Nat) (k:du) {N:Nat} (hg:kP k.g N) (hN:N<=1000000000)
include hg hN
theorem qp(H:aW)(aI:Int)(hl : -9000000000000000000<=aI/\aI<=9000000000000000000):SP 88 [dg kp,.int .i64 aI] [.ob (fk kp xp lp rp H k),.mem H] (wV kp xp lp rp k H aI):=by
 intro W F w hS;apply b6o;delta Lt aF bw ai bF;(try simp only[app]at hS)
 refine Gb λzb w hS=>?_
 have hS:=fk.iff.1 (SL.b6 hS (t:=.ob (fk kp xp lp rp H k)::.pt zb [.int .i64 0,.int .i64 0,.slice none 0 0,.slice none 0 0,.int .i64 0] 39::.mem H::F) Xi)
 refine Gp ?_
 refine Cc (qm lp xp k.g aI hg (by omega) hl) ?_;clear hS
 rintro r post hq w hS
 unfold wX at hq
 cases hr:g9 k.g.bI aI with
 | none=>
  rw[hr]at hq
  obtain⟨rfl,rfl⟩:=hq
  have he:k.fp aI= .error 5:=by unfold du.fp;rw[hr]
  try simp only[app]at hS
  have hS:=fk.put k hS Xp
  refine Gp ?_
  refine za (λ_=>?_) (λh=>absurd (by decide) h)
  refine Gn λw hS=>?_
  exact⟨[.ob (fk kp xp lp rp H k),.mem H],by unfold wV;rw[he];exact⟨by decide,H,aW.le_refl H,rfl,rfl⟩,aR hS⟩
 | some bs=>
  rw[hr]at hq
  obtain⟨u,rfl,rfl⟩:=hq
  have he:k.fp aI=iU bs:=by unfold du.fp;rw[hr]
  have rQ:=RW hg.ok.bI hr
  try simp only[app]at hS
  have hS:=fk.put k hS Xp
  refine Gp ?_
  refine za (λh=>absurd rfl h) (λ_=>?_)
  refine Cc (q7 (.ob (a7 u 5 1 bs.length (bs.map cI))) H u bs dN.own (by omega)) ?_;clear hS
  rintro r post hq w hS
  unfold nS at hq
  cases hd:iU bs with
  | error e=>
   rw[hd]at hq
   obtain⟨dV,H',hh,rfl,rfl⟩:=hq
   try simp only[app]at hS
   unfold eI ry
   refine Gn λw hS=>?_
   have hS:=fk.gC (k:=k) hh hS Xr
   refine⟨[.ob (fk kp xp lp rp H' k),.mem H'],?_,aR hS⟩
   unfold wV;rw[he,hd];exact⟨dV,H',hh,rfl,rfl⟩
  | ok t=>
   rw[hd]at hq
   obtain⟨x,H',hh,rfl,hx,rfl⟩:=hq
   try simp only[app]at hS
   have fW:=hx.cv.one
   have jl:=hx.sv.one
   refine Gp ?_
   refine zz (vs:=eI x) hS Xu rfl rfl (mo (aI:=x.aI) (kind:=x.kind) (mark:=x.mark) fW jl) λw hS=>?_
   refine yy hS Xh rfl ?_
   have hS:=fk.gC (k:=k) hh hS Xr
   refine⟨[.ob (fk kp xp lp rp H' k),.mem H'],?_,aR hS⟩
   unfold wV;rw[he,hd];exact⟨x,H',hh,rfl,hx,rfl⟩
end
theorem YK(kp xp lp rp:Nat)(d:DS)(H:aW)(x0:np)(n:Nat)(Aq:x0.2.2.length=n)(h8:n<=8){N:Nat}(b5:d.Ok N)(hN:N<=140737488355328):
  SP 85 [dg kp,.int .i64 n] [.pt kp (na xp lp rp x0.1 x0.2.1) 171,.ob (eC H rp x0.2.2),.ob (dm H xp d),.mem H] (λ_ post=>∃H',H.le H'/\post=[.pt kp (na xp lp rp (fh d.R n 1 (fh d.R n 0 x0)).1 (fh d.R n 1 (fh d.R n 0 x0)).2.1) 171,.ob (eC H' rp (fh d.R n 1 (fh d.R n 0 x0)).2.2),.ob (dm H' xp d),.mem H']):=by
 intro W F w hS;apply b6l;delta Lq aF bw dx dc ai;(try simp only[app]at hS)
 refine⟨λus w=>∃(j:Nat) (H':aW),us=[.int .i64 j]/\j<=2/\H.le H'/\(loadAt d.R n x0 j).2.2.length=n/\SL W (.pt kp (na xp lp rp (loadAt d.R n x0 j).1 (loadAt d.R n x0 j).2.1) 171::.ob (eC H' rp (loadAt d.R n x0 j).2.2)::.ob (dm H' xp d)::.mem H'::F) w,
  λus _=>match us with|[.int _ i]=>(2-i).toNat|_=>0,⟨0,H,rfl,by omega,aW.le_refl H,Aq,hS⟩,?_⟩
 clear hS
 rintro v4 w ⟨j,H',da,hj,hh,nG,hS⟩
 cases da
 refine bR (λh=>?_) (λh=>?_)
 ·have kG:j<=1:=by omega
  have iy:=PO (R:=d.R) (n:=n) (x:=x0) kG
  have ig:∀{w:World} {H2:aW} (y:np),fh d.R n j (loadAt d.R n x0 j)=y->H.le H2->SL W (.pt kp (na xp lp rp y.1 y.2.1) 171::.ob (eC H2 rp y.2.2)::.ob (dm H2 xp d)::.mem H2::F) w ->
    ∃(j':Nat) (H':aW),[Value.int .i64 ((j+1:Nat):Int)]=[.int .i64 j']/\j'<=2/\H.le H'/\(loadAt d.R n x0 j').2.2.length=n/\SL W (.pt kp (na xp lp rp (loadAt d.R n x0 j').1 (loadAt d.R n x0 j').2.1) 171::.ob (eC H' rp (loadAt d.R n x0 j').2.2)::.ob (dm H' xp d)::.mem H'::F) w:=λy hy gv hS=>by
   refine⟨j+1,_,rfl,by omega,gv,?_,?_⟩
   ·rw[iy];exact F2 nG
   ·rw[iy,hy];exact hS
  generalize hx:loadAt d.R n x0 j=x at *
  refine Gp ?_
  refine Cc (qe H' xp d N b5 hN j) ?_;clear hS
  rintro r post hq w hS
  unfold A4 at hq
  cases pd:dP PF.id d.R (j:Int) with
  | none=>
   have hi:fh d.R n j x=x:=by unfold fh ij;rw[pd]
   rw[pd]at hq
   obtain⟨rfl,rfl⟩:=hq
   (try simp only[app]at hS);refine Gp ?_
   refine zw ?_
   refine Gp ?_
   exact⟨ig x hi hh (aR hS),by dsimp only;omega⟩
  | some pf=>
   rw[pd]at hq
   obtain⟨u,rfl,rfl⟩:=hq
   have fo:=b5.len _ (pV pd).1
   (try simp only[app]at hS);refine Gp ?_
   refine zq ?_
   refine Cc (qi (.ob (a7 u 5 1 pf.b.length (pf.b.map cI))) H' u pf.b dN.own (by omega)) ?_;clear hS
   rintro r post hq w hS
   unfold sE at hq
   cases hd:iD pf.b with
   | none=>
    have hi:fh d.R n j x=x:=by unfold fh ij;rw[pd];simp only;rw[hd]
    rw[hd]at hq
    obtain⟨rfl,H2,eh,rfl⟩:=hq
    try simp only[app]at hS
    have hS:=eC.gC eh hS (r:=rp) (ts:=x.2.2) Xr
    have hS:=dm.gC eh hS (xp:=xp) (s:=d) Xr
    refine Gp ?_
    refine za (λh=>absurd h (by decide)) (λ_=>?_)
    refine Gp ?_
    exact⟨ig x hi (aW.le_trans hh eh) (aR hS),by dsimp only;omega⟩
   | some y=>
    rw[hd]at hq
    obtain⟨v,vs,H2,eh,jU,rfl,rfl⟩:=hq
    have s5:=MD hd
    have Pg:=(pA.1 s5).1
    have BZ:ij d.R n j=if y.2.length=n then some y else none:=by unfold ij;rw[pd];simp only;rw[hd]
    try simp only[app]at hS
    have hS:=eC.gC eh hS (r:=rp) (ts:=x.2.2) Xr
    have hS:=dm.gC eh hS (xp:=xp) (s:=d) Xr
    have gv:=aW.le_trans hh eh
    refine Gp ?_
    refine za (λ_=>?_) (λh=>absurd rfl h)
    refine zr hS (v:=v) (t:=53) (sz:=1) (n:=y.2.length) (cells:=vs) Xh ?_
    refine bR (λhl=>?_) (λhl=>?_)
    ·have hl:y.2.length=n:=by omega
     rw[if_pos hl]at BZ
     have iN:=hS.kL (v:=v) (t:=53) (sz:=1) (n:=y.2.length) (cells:=vs) Xh
     have oy:fh d.R n j x=if 0<=x.1/\y.1<=x.2.1 then x else ((j:Int),y.1,y.2):=by unfold fh;rw[BZ]
     obtain⟨sv0,C4,NY,hS⟩:=eC.iff.1 (SL.b6 hS (t:=.ob (eC H2 rp x.2.2)::.pt kp (na xp lp rp x.1 x.2.1) 171::.ob (a7 v 53 1 y.2.length vs)::.ob (dm H2 xp d)::.mem H2::F) Xi)
     refine bR (λh0=>?_) (λh0=>?_)
     ·rw[if_neg (by omega)]at oy
      refine Gn λw hS=>?_
      have hS:=eC.put (H:=H2) (r:=rp) y.2 jU Pg.2.2.2 hS Xp
      exact⟨ig _ oy gv (aR hS),by dsimp only;omega⟩
     ·refine bR (λh1=>?_) (λh1=>?_)
      ·rw[if_neg (by omega)]at oy
       refine Gn λw hS=>?_
       have hS:=eC.put (H:=H2) (r:=rp) y.2 jU Pg.2.2.2 hS Xp
       exact⟨ig _ oy gv (aR hS),by dsimp only;omega⟩
      ·rw[if_pos ⟨by omega,by omega⟩]at oy
       refine Gp ?_
       have hS:=eC.put (H:=H2) (r:=rp) x.2.2 NY.1 NY.2 hS Xp
       exact⟨ig _ oy gv (aR hS),by dsimp only;omega⟩
    ·rw[if_neg (by omega)]at BZ
     have hi:fh d.R n j x=x:=by unfold fh;rw[BZ]
     refine Gp ?_
     exact⟨ig x hi gv (aR hS),by dsimp only;omega⟩
 ·obtain rfl:j=2:=by omega
  exact⟨_,⟨H',hh,rfl⟩,hS⟩
theorem Wm{g:dJ}{off:Bool}{p:List UInt8}{x:il}(h:fE g off p= .ok x):b9 (iz g.bI x p)=b9 g.bI+1:=by
 have key:∀(L:List dz) (s:dz),b9 ((L++[s]).dropLast++(L++[s]).getLast?.toList.map λs=>{s with size:=s.size+x.b.length,l:=s.l++[p]})=s.next:=λL s=>by
  rw[List.dropLast_concat,List.getLast?_append]
  simp only[List.getLast?_singleton,Option.some_or,Option.toList_some,List.map_cons,List.map_nil]
  unfold b9
  rw[List.getLast?_append]
  simp only[List.getLast?_singleton,Option.some_or]
  unfold dz.next
  simp only[List.length_append,List.length_singleton]
  omega
 unfold iz
 cases hf:x.fresh with
 | true=>
  simp only[if_true]
  rw[key]
  show b9 g.bI+1+(([]:List (List UInt8)).length:Int)=_
  simp
 | false=>
  simp only[Bool.false_eq_true,if_false]
  have dV:g.bI≠[]:=λe=>by
   unfold fE jT at h
   rw[e]at h
   simp only[List.getLast?_nil]at h
   split at h
   ·cases h
   ·split at h
    ·cases h
    ·split at h
     ·cases h
     ·split at h
      ·cases h
      ·cases h;cases hf
  obtain⟨L,s,e⟩:∃L s,g.bI=L++[s]:=⟨g.bI.dropLast,g.bI.getLast dV,(List.dropLast_concat_getLast dV).symm⟩
  rw[e,key]
  unfold b9
  rw[List.getLast?_append]
  simp only[List.getLast?_singleton,Option.some_or]
  omega
theorem TW{g:dJ}{d:DS}{p:List UInt8}(h:(fP g d p).2.2=0):(fP g d p).2.1=b9 g.bI+1:=by
 cases hp:fE g d.off p with
 | error e=>
  rw[Bd hp]at h
  unfold fE jT at hp
  have he:e≠0:=by
   split at hp
   ·cases hp;decide
   ·split at hp
    ·cases hp;decide
    ·split at hp
     ·cases hp;decide
     ·split at hp
      ·split at hp
       ·cases hp;decide
       ·cases hp
      ·split at hp
       ·cases hp
       ·split at hp
        ·cases hp;decide
        ·cases hp
  exact absurd h he
 | ok x=>
  rw[L1 hp]at h ⊢
  simp only at h ⊢
  split
  ·exact Wm hp
  ·rename_i hn
   rw[if_neg hn]at h
   exact absurd h hn
abbrev HC(kp xp lp rp:Nat)(H:aW)(y:du × (Int × Int))(v:Value)(post:List Chunk):Prop:=∃(H':aW),H.le H'/\v= .tuple #[.int .i64 y.2.1,.int .i64 y.2.2]/\post=[.ob (fk kp xp lp rp H' y.1),.ob (dm H' xp y.1.d),.mem H']
theorem q5(kp xp lp rp:Nat)(k:du)(H:aW)(x:jq)(t:cW)(hx:gO H x t)(hm:eH t=true){N:Nat}(hk:jz k N)(hN:N<=1000000000)(eJ:k.d.ops<=90000):
  SP 90 [dg kp,agg (eI x)] [.ob (fk kp xp lp rp H k),.ob (dm H xp k.d),.mem H] (HC kp xp lp rp H (k.ir t)):=by
 intro W F w hS;apply b6q;delta Lv aF bw a_ dc ai;(try simp only[app]at hS)
 have hg:=hk.g
 have xQ:=hg.hd
 obtain⟨FE,v_,FF,FG,FH,Ak,FI⟩:=kJ hm
 have ET:=rS hg.ok.bI
 refine zK hS λxb w hS=>?_
 unfold eI at hS
 rw[hx.aI,hx.kind,hx.mark]at hS
 have hS:=fk.iff.1 (SL.b6 hS (t:=.ob (fk kp xp lp rp H k)::kR xb x t::.ob (dm H xp k.d)::.mem H::F) Xi)
 obtain⟨fv,ys,dE,hS⟩:=dm.iff.1 (SL.b6 hS (t:=.ob (dm H xp k.d)::.pt kp (na xp lp rp k.fX k.image) 171::.ob (eC H rp k.ts)::.ob (dR lp xp k.g)::kR xb x t::.mem H::F) Xi)
 refine Gp ?_
 have hS:=dm.put k.d hS dE Xp
 cases ho:k.d.off with
 | true=>
  refine zw ?_
  rw[show k.ir t=(k,(0,8)) by unfold du.ir;rw[if_pos ho]]
  have hS:=fk.put k hS Xp
  exact⟨_,⟨H,aW.le_refl H,rfl,rfl⟩,aR hS⟩
 | false=>
  refine zq ?_
  refine Gn λw hS=>?_
  refine Cc (qE H rp k.ts x.cv t.changes hx.cv hk.len (by omega)) ?_;clear hS
  rintro _ post ⟨H1,d_,rfl,rfl⟩ w hS
  try simp only[app]at hS
  have hS:=dm.gC d_ hS (xp:=xp) (s:=k.d) Xr
  have gL:gO H1 x t:=hx.mono d_
  refine Gp ?_
  refine zA (λhf=>?_) (λhf=>?_)
  ·rw[show k.ir t=(k,(0,7)) by unfold du.ir;rw[if_neg (by simp[ho]),if_pos (.inl hf)]]
   have hS:=fk.put k hS Xp
   exact⟨_,⟨H1,d_,rfl,rfl⟩,aR hS⟩
  refine Gp ?_
  refine Cg (zW lp xp k.g hg.ok (by omega)) λw hS=>?_
  refine za (λhh=>?_) (λhh=>?_)
  ·rw[show k.ir t=(k,(0,7)) by unfold du.ir;rw[if_neg (by simp[ho]),if_pos (.inr (by omega))]]
   have hS:=fk.put k hS Xp
   exact⟨_,⟨H1,d_,rfl,rfl⟩,aR hS⟩
  refine Gp ?_
  refine Cg (zW lp xp k.g hg.ok (by omega)) λw hS=>?_
  have pe:=F4 hm (n:=b9 k.g.bI+1) (by omega) (by omega)
  have jv:gO H1 ⟨b9 k.g.bI+1,t.kind,x.cv,x.sv,t.mark⟩ {t with aI:=b9 k.g.bI+1}:=⟨rfl,rfl,rfl,gL.cv,gL.sv⟩
  have xF:k.ir t=(let r:=fP k.g k.d (iS {t with aI:=b9 k.g.bI+1});if r.2.2=0 then ({k with g:=r.1.1,d:=r.1.2,ts:=eZ k.ts t.changes},(b9 k.g.bI+1,0)) else ({k with g:=r.1.1,d:=r.1.2},(0,r.2.2))):=by
   unfold du.ir
   rw[if_neg (by simp[ho]),if_neg (by rw[hf];simp;omega)]
  have rQ:=Bi pe
  have BN:=Mi pe
  rw[xF]
  clear xF
  generalize hq:({t with aI:=b9 k.g.bI+1}:cW)=t2 at *
  have vT:1<=b9 k.g.bI+1:=by omega
  have W6:=λh=>TW (g:=k.g) (d:=k.d) (p:=iS t2) h
  generalize b9 k.g.bI+1=aI at *
  refine Cc (q8 H1 ⟨aI,t.kind,x.cv,x.sv,t.mark⟩ t2 jv) ?_;clear hS
  rintro r post hq w hS
  unfold sy at hq
  rw[BN]at hq
  obtain⟨bv,rfl,rfl⟩:=hq
  try simp only[app]at hS
  obtain⟨H2,eh,hB,hS⟩:=zE (H:=H1) (v:=bv) (n:=(mj t2).length) (sz:=1) (t:=5) (cells:=(mj t2).map cI) hS Xp
  have hS:=dm.gC eh hS (xp:=xp) (s:=k.d) Xr
  have hS:=eC.gC eh hS (r:=rp) (ts:=k.ts) Xr
  have gv:=aW.le_trans d_ eh
  refine Gp ?_
  refine Cc (Yh H2 lp xp k.g k.d bv (mj t2) hB (by omega) hg (by omega) hk.d (by omega) eJ) ?_;clear hS
  rintro _ post ⟨rfl,H3,gE,rfl⟩ w hS
  try simp only[app]at hS
  have hS:=eC.gC gE hS (r:=rp) (ts:=k.ts) Xr
  have mw:=aW.le_trans gv gE
  generalize fP k.g k.d (iS t2)=r at *
  obtain⟨⟨g',d'⟩,n',e'⟩:=r
  simp only at hS ⊢
  refine bR (λhe=>?_) (λhe=>?_)
  ·rw[if_neg he]
   have hS:=fk.lh (d:=d') hS Xp
   exact⟨_,⟨H3,mw,rfl,rfl⟩,aR hS⟩
  ·have he:e'=0:=by omega
   rw[if_pos he]
   have uM:=hx.mono mw
   refine Gn λw hS=>?_
   refine Cc (yS H3 rp k.ts x.cv t.changes uM.cv hk.len (by omega)) ?_;clear hS
   rintro _ post k6 w hS
   have dY:t.changes.all (gd k.ts.length)=true:=by
    unfold lE at hf
    rw[Bool.and_eq_true]at hf
    exact hf.1
   unfold vd at k6
   rw[if_pos dY]at k6
   obtain⟨rfl,H4,kT,rfl⟩:=k6
   try simp only[app]at hS
   have hS:=dm.gC kT hS (xp:=xp) (s:=d') Xr
   have hS:=fk.lh (d:=d') hS Xp
   obtain rfl:n'=aI:=W6 he
   exact⟨_,⟨H4,aW.le_trans mw kT,rfl,rfl⟩,aR hS⟩
theorem b9w(kp xp lp rp:Nat)(k:du)(H:aW)(sv cv:Value)(sg:List ByteArray)(l:List dW)(hs:dy H 1 sv sg.length (sg.map Value.string))(hc:dy H 4 cv l.length (l.map gi).flatten)(hl:l.length<=140737488351232){N:Nat}(hk:jz k N)(hN:N<=1000000000)(eJ:k.d.ops<=90000):
  SP 31 [dg kp,sv,cv] [.ob (fk kp xp lp rp H k),.ob (dm H xp k.d),.mem H] (HC kp xp lp rp H (k.jE sg l)):=by
 intro W F w hS;apply bWy;delta Kx aF bw a_ dc ai bF;(try simp only[app]at hS)
 have po:=hs.one
 have fW:=hc.one
 have hx:gO H ⟨1,1,cv,sv,0⟩ ⟨1,1,l,sg,0⟩:=⟨rfl,rfl,rfl,hc,hs⟩
 have e0:iw [.int .i64 0,.int .i64 0,.slice none 0 0,.slice none 0 0,.int .i64 0] [(0,1,.int .i64 1),(1,1,.int .i64 1),(2,1,cv),(3,1,sv)]=some (eI ⟨1,1,cv,sv,0⟩):=by
  simp[iw,show ∀n,(Value.int .i64 n).cells = #[.int .i64 n] from λ_=>rfl,si po,si fW,eI]
 refine yr e0 ?_
 refine Gb λxb w hS=>?_
 refine zz hS Xu rfl rfl (mo fW po) λw hS=>?_
 refine yy hS Xh rfl ?_
 refine Cg (yX H ⟨1,1,cv,sv,0⟩ ⟨1,1,l,sg,0⟩ hx) λw hS=>?_
 refine zA (λhm=>?_) (λhm=>?_)
 ·rw[show k.jE sg l=(k,(0,1)) by unfold du.jE;rw[if_neg (by rw[hm];simp)]]
  exact⟨_,⟨H,aW.le_refl H,rfl,rfl⟩,aR hS⟩
 have Fi:=(kJ hm).2.2.2.2.2.1
 have Fi:∀c∈l,ib c 8=true:=Fi
 refine⟨λus w=>∃i:Nat,us=[.int .i64 i]/\i<=l.length/\(∀j (h:j<l.length),j<i->l[j].table<(k.ts.length:Int))/\SL W (.ob (fk kp xp lp rp H k)::.ob (dm H xp k.d)::.pt xb (eI ⟨1,1,cv,sv,0⟩) 39::.mem H::F) w,λus _=>match us with|[.int _ i]=>(l.length-i).toNat|_=>0,⟨0,rfl,by omega,λj h hj=>by omega,aR hS⟩,?_⟩
 clear hS
 rintro v9 w ⟨i,da,hi,dY,hS⟩
 cases da
 refine zm hc ?_
 refine bR (λh=>?_) (λh=>?_)
 ·have bW:i<l.length:=by omega
  have uq:=td.1 (Fi _ (List.getElem_mem bW))
  have hS:=fk.iff.1 (SL.b6 hS (t:=.ob (fk kp xp lp rp H k)::.ob (dm H xp k.d)::.pt xb (eI ⟨1,1,cv,sv,0⟩) 39::.mem H::F) Xi)
  refine Gn λw hS=>?_
  refine zJ hS Xh kh hc (x:=l[i]) (List.getElem?_eq_getElem bW) bW (i:=0) rfl ?_
  refine Cg (Y4 H rp k.ts l[i].table) λw hS=>?_
  have hS:=fk.put k hS Xp
  refine zA (λhe=>?_) (λhe=>?_)
  ·have he:=of_decide_eq_false he
   rw[show k.jE sg l=(k,(0,1)) by unfold du.jE;rw[if_neg λh=>he ⟨uq.1,h.2 _ (List.getElem_mem bW)⟩]]
   exact⟨_,⟨H,aW.le_refl H,rfl,rfl⟩,aR hS⟩
  ·have he:=of_decide_eq_true he
   refine Gp ?_
   refine⟨⟨i+1,rfl,by omega,λj hj gZ=>?_,aR hS⟩,by dsimp only;omega⟩
   by_cases e:j=i
   ·subst e;exact he.2
   ·exact dY j hj (by omega)
 ·have hA:∀c∈l,c.table<(k.ts.length:Int):=λc hc=>by
   obtain⟨j,hj,rfl⟩:=List.getElem_of_mem hc
   exact dY j hj (by omega)
  rw[show k.jE sg l=k.ir ⟨1,1,l,sg,0⟩ by unfold du.jE;rw[if_pos ⟨hm,hA⟩]]
  refine yy hS Xh rfl ?_
  refine Cc (q5 kp xp lp rp k H ⟨1,1,cv,sv,0⟩ ⟨1,1,l,sg,0⟩ hx hm hk hN eJ) ?_;clear hS
  rintro _ post ⟨H',hh,rfl,rfl⟩ w hS
  (try simp only[app]at hS);refine Gp ?_
  exact⟨_,⟨H',hh,rfl,rfl⟩,aR hS⟩
def Dh(xp:Nat)(H:aW)(y:DS × Except Int du)(r:Value)(post:List Chunk):Prop:=match y.2 with
 | .error e=>e≠0/\∃H',H.le H'/\r= .tuple #[.pointer none,.int .i64 e]/\post=[.ob (dm H' xp y.1),.mem H']
 | .ok k=>∃kp lp rp H',H.le H'/\r= .tuple #[dg kp,.int .i64 0]/\post=[.ob (fk kp xp lp rp H' k),.ob (dm H' xp y.1),.mem H']
theorem qn(H:aW)(xp:Nat)(d:DS)(iA size:Int){N B:Nat}(b5:d.Ok B)(hB:B<=140737488355328)(hw:nY d.R 16 N)(hN:N<=900000000)(eJ:d.ops<=90000)(hn:∀d' g,gD d 16 size=(d',.ok g)->(eF g.bI).length<=50000):
  SP 30 [dg xp,.int .i64 iA,.int .i64 size] [.ob (dm H xp d),.mem H] (Dh xp H (nL d iA size)):=by
 intro W F w hS;apply bWp;delta Ko aF bw a_ cF df ai dk bF;(try simp only[app]at hS)
 have hR:=b5.wD
 have dK:∀{w:World},(iA<1\/8<iA)->SL W (.ob (dm H xp d)::.mem H::F) w->∃post,Dh xp H (nL d iA size) (.tuple #[.pointer none,.int .i64 1]) post/\SL W (app post F) w:=λht hS=>by
  rw[show nL d iA size=(d,.error 1) by unfold nL;rw[if_pos ht]]
  exact⟨_,⟨by decide,H,aW.le_refl H,rfl,rfl⟩,hS⟩
 refine Gp ?_
 refine za (λh=>dK (by omega) hS) (λh1=>?_)
 refine Gp ?_
 refine za (λh=>dK (by omega) hS) (λh2=>?_)
 clear dK
 have ht:¬(iA<1\/8<iA):=by omega
 obtain⟨n,rfl⟩:∃n:Nat,iA=n:=⟨iA.toNat,by omega⟩
 refine Cc (aRy H xp d 16 size b5 hB hw (by omega) (by omega) (by omega)) ?_;clear hS
 rintro r post hq w hS
 unfold nL
 rw[if_neg ht]
 unfold A3 at hq
 have xJ:=RB (base:=16) (size:=size) b5
 cases uG:gD d 16 size with
 | mk d' o=>
  rw[uG]at hq xJ
  cases o with
  | error e=>
   obtain⟨he,rfl,H1,d_,rfl⟩:=hq
   (try simp only[app]at hS);refine Gp ?_
   refine za (λ_=>?_) (λh=>absurd he h)
   exact⟨_,⟨he,H1,d_,rfl,rfl⟩,aR hS⟩
  | ok g=>
   obtain⟨lp,H1,d_,rfl,rfl⟩:=hq
   have hG:=RA hw (by omega) uG
   have Wq:=hn d' g uG
   obtain⟨x1,x2,x3⟩:=PQ d'.R n
   (try simp only[app]at hS);refine Gp ?_
   refine za (λh=>absurd rfl h) (λ_=>?_)
   refine Cc (awq H1 n (by omega) (by omega)) ?_;clear hS
   rintro _ post ⟨rp,rfl,rfl⟩ w hS
   (try simp only[app]at hS);refine Gp ?_
   refine zK hS λkp w hS=>?_
   refine Cc (YK kp xp lp rp d' H1 (-1,0,List.replicate n []) n List.length_replicate (by omega) xJ hB) ?_;clear hS
   rintro _ post ⟨H2,eh,rfl⟩ w hS
   try simp only[app]at hS
   have B2:fh d'.R n 1 (fh d'.R n 0 (-1,0,List.replicate n []))=l8 d'.R n:=rfl
   rw[B2]at hS
   simp only[Int.toNat_natCast]
   generalize l8 d'.R n=x at *
   obtain⟨nw,im,T0⟩:=x
   simp only at x1 x2 x3 hS ⊢
   have gv:=aW.le_trans d_ eh
   have sY:=M8 hG.seq
   have sZ:=PX hG.ok.bI
   have xQ:=hG.hd
   have xB:N+100000<=1000000000:=by omega
   have hF:∀{w:World} {H':aW},(match kM n im (eF g.bI) (e_ g.bI) T0 with
     | none=>((d',.error 3):DS × Except Int du)
     | some ts=>if im<=b9 g.bI/\e_ g.bI<=im+1 then (d',.ok ⟨g,d',ts,nw,im⟩) else (d',.error 3))=(d',.error 3)->H.le H'->SL W (.ob (dm H' xp d')::.mem H'::F) w ->
     ∃post,Dh xp H (match kM n im (eF g.bI) (e_ g.bI) T0 with
     | none=>((d',.error 3):DS × Except Int du)
     | some ts=>if im<=b9 g.bI/\e_ g.bI<=im+1 then (d',.ok ⟨g,d',ts,nw,im⟩) else (d',.error 3)) (.tuple #[.pointer none,.int .i64 3]) post/\SL W (app post F) w:=λhe hh hS=>by
    rw[he]
    exact⟨_,⟨by decide,_,hh,rfl,rfl⟩,hS⟩
   refine⟨λus w=>us=[.bool (decide (b9 g.bI<im\/im+1<e_ g.bI))]/\SL W (.pt kp (na xp lp rp nw im) 171::.ob (eC H2 rp T0)::.ob (dR lp xp g)::.ob (dm H2 xp d')::.mem H2::F) w,?_,?_⟩
   ·refine Gn λw hS=>?_
    refine Cg (zW lp xp g hG.ok (by omega)) λw hS=>?_
    refine za (λh=>?_) (λh=>?_)
    ·skip
     exact⟨by rw[decide_eq_true (show b9 g.bI<im\/im+1<e_ g.bI from .inl (by omega))],aR hS⟩
    ·refine Gp ?_
     refine Cg (ZA lp xp g hG.ok (by omega)) λw hS=>?_
     refine⟨?_,aR hS⟩
     congr 2
     rw[decide_eq_decide];omega
   clear hS
   rintro v11 w ⟨da,hS⟩
   cases da
   refine Cg (ZA lp xp g hG.ok (by omega)) λw hS=>?_
   have hS:=fk.lh (d:=d') hS Xp
   refine⟨λus w=>∃(i:Nat) (T:gg) (H3:aW),us=[.int .i64 (e_ g.bI+i)]/\i<=(eF g.bI).length/\kM n im (eF g.bI) (e_ g.bI) T0=kM n im ((eF g.bI).drop i) (e_ g.bI+i) T/\T.length=n/\(∀C∈T,C.length<=1000+16*i)/\H.le H3/\SL W (.ob (fk kp xp lp rp H3 ⟨g,d',T,nw,im⟩)::.ob (dm H3 xp d')::.mem H3::F) w,
    λus _=>match us with|[.int _ i]=>(b9 g.bI+1-i).toNat|_=>0,⟨0,T0,H2,by simp,by omega,by simp,x1,λC hC=>by have:=(x3 C hC).len;omega,gv,aR hS⟩,?_⟩
   clear hS
   rintro lu w ⟨i,T,H3,da,hi,dE,kU,nC,hh,hS⟩
   cases da
   have hS:SL W (.pt kp (na xp lp rp nw im) 171::.ob (eC H3 rp T)::.ob (dR lp xp g)::.ob (dm H3 xp d')::.mem H3::F) w:=fk.iff.1 hS
   refine Cg (zW lp xp g hG.ok (by omega)) λw hS=>?_
   refine za (λh=>?_) (λh=>?_)
   ·have bW:i<(eF g.bI).length:=by omega
    have Af:=hG.seq.read i
    rw[List.getElem?_eq_getElem bW]at Af
    rw[List.drop_eq_getElem_cons bW,R1]at dE
    generalize (eF g.bI)[i]=bs at *
    have j8:1<=e_ g.bI+i/\e_ g.bI+i<=1099511627776:=by omega
    generalize WW:e_ g.bI+i=aI at *
    have hS:=fk.lh (d:=d') hS Xp
    refine Cc (qp kp xp lp rp ⟨g,d',T,nw,im⟩ hG xB H3 aI (by omega)) ?_;clear hS
    rintro r post hq w hS
    unfold wV du.fp at hq
    simp only at hq
    rw[Af]at hq
    simp only at hq
    cases hd:iU bs with
    | error e=>
     rw[hd]at hq dE
     obtain⟨dV,H4,kT,rfl,rfl⟩:=hq
     try simp only[app]at hS
     have hS:=dm.gC kT hS (xp:=xp) (s:=d') Xr
     unfold eI ry
     refine Gm λb w hS=>?_
     refine za (λ_=>?_) (λh=>absurd dV h)
     exact hF (by rw[dE]) (aW.le_trans hh kT) (aR hS)
    | ok t=>
     rw[hd]at hq dE
     obtain⟨xx,H4,kT,rfl,hx,rfl⟩:=hq
     have ug:=aW.le_trans hh kT
     obtain⟨FE,v_,FF,FG,FH,Ak,FI⟩:=kJ (MG hd)
     try simp only[app]at hS
     have hS:=dm.gC kT hS (xp:=xp) (s:=d') Xr
     refine Gp ?_
     refine zI hS λxb w hS=>?_
     refine zz (vs:=eI xx) hS Xu rfl rfl (mo (aI:=xx.aI) (kind:=xx.kind) (mark:=xx.mark) hx.cv.one hx.sv.one) λw hS=>?_
     unfold eI at hS
     rw[hx.aI,hx.kind,hx.mark]at hS
     refine Gp ?_
     refine za (λh=>absurd rfl h) (λ_=>?_)
     refine Gp ?_
     simp only at dE
     refine za (λhl=>?_) (λhl=>?_)
     ·rw[if_neg λh=>hl h.1]at dE
      exact hF (by rw[dE]) ug (aR hS)
     have hS:=SL.b6 hS (t:=.pt xb [.int .i64 t.aI,.int .i64 t.kind,xx.cv,xx.sv,.int .i64 t.mark] 39::.ob (fk kp xp lp rp H4 ⟨g,d',T,nw,im⟩)::.ob (dm H4 xp d')::.mem H4::F) Xi
     refine⟨λus w=>∃j:Nat,us=[.int .i64 j]/\j<=t.changes.length/\(∀a (h:a<t.changes.length),a<j->t.changes[a].table<(n:Int))/\SL W (.pt xb [.int .i64 t.aI,.int .i64 t.kind,xx.cv,xx.sv,.int .i64 t.mark] 39::.ob (fk kp xp lp rp H4 ⟨g,d',T,nw,im⟩)::.ob (dm H4 xp d')::.mem H4::F) w,
      λus _=>match us with|[.int _ i]=>(t.changes.length-i).toNat|_=>0,⟨0,rfl,by omega,λa h ha=>by omega,hS⟩,?_⟩
     clear hS
     rintro S2 w ⟨j,da,hj,dY,hS⟩
     cases da
     refine Gp ?_
     refine zm hx.cv ?_
     refine bR (λfG=>?_) (λfG=>?_)
     ·have fG:j<t.changes.length:=by omega
      refine Gp ?_
      refine zJ hS Xh kh hx.cv (x:=t.changes[j]) (List.getElem?_eq_getElem fG) fG (i:=0) rfl ?_
      refine bR (λhe=>?_) (λhe=>?_)
      ·rw[if_neg λh=>by have:=h.2 _ (List.getElem_mem fG);omega]at dE
       exact hF (by rw[dE]) ug (aR hS)
      ·refine Gp ?_
       refine⟨⟨j+1,rfl,by omega,λa ha haj=>?_,aR hS⟩,by dsimp only;omega⟩
       by_cases e:a=j
       ·subst e;omega
       ·exact dY a ha (by omega)
     ·have hb:∀c∈t.changes,c.table<(n:Int):=λc hc=>by
       obtain⟨a,ha,rfl⟩:=List.getElem_of_mem hc
       exact dY a ha (by omega)
      have Ol:t.changes.all (gd T.length)=true:=List.all_eq_true.2 λc hc=>decide_eq_true ⟨(td.1 (Ak c hc)).1,by rw[kU];exact hb c hc⟩
      rw[if_pos (show t.aI=aI/\∀c∈t.changes,c.table<(n:Int) from ⟨by omega,hb⟩)]at dE
      have uB:aI+1=e_ g.bI+((i+1:Nat):Int):=by omega
      rw[uB]at dE
      have hS:SL W (.pt kp (na xp lp rp nw im) 171::.ob (eC H4 rp T)::.ob (dR lp xp g)::_) w:=fk.iff.1 (SL.b6 hS (t:=.ob (fk kp xp lp rp H4 ⟨g,d',T,nw,im⟩)::.pt xb [.int .i64 t.aI,.int .i64 t.kind,xx.cv,xx.sv,.int .i64 t.mark] 39::.ob (dm H4 xp d')::.mem H4::F) Xi)
      refine bR (λrU=>?_) (λrU=>?_)
      ·rw[if_pos (show im<aI by omega)]at dE
       refine Gn λw hS=>?_
       refine Cc (yS H4 rp T xx.cv t.changes hx.cv nC (by omega)) ?_;clear hS
       rintro _ post k6 w hS
       unfold vd at k6
       rw[if_pos Ol]at k6
       obtain⟨rfl,H5,oh,rfl⟩:=k6
       try simp only[app]at hS
       have hS:=dm.gC oh hS (xp:=xp) (s:=d') Xr
       have hS:=fk.lh (d:=d') hS Xp
       refine Gp ?_
       rw[uB]
       refine⟨⟨i+1,eZ T t.changes,H5,rfl,by omega,dE,by rw[pK];exact kU,λC hC=>?_,aW.le_trans ug oh,aR hS⟩,by dsimp only;omega⟩
       have:=vo (1000+16*i) (l:=t.changes) nC (λc hc=>List.all_eq_true.1 Ol c hc) C hC
       omega
      ·rw[if_neg (show ¬im<aI by omega)]at dE
       have hS:=fk.lh (d:=d') hS Xp
       refine Gp ?_
       rw[uB]
       exact⟨⟨i+1,T,H4,rfl,by omega,dE,kU,λC hC=>by have:=nC C hC;omega,ug,aR hS⟩,by dsimp only;omega⟩
   ·obtain rfl:i=(eF g.bI).length:=by omega
    rw[List.drop_length]at dE
    have dE:kM n im (eF g.bI) (e_ g.bI) T0=some T:=dE
    have hS:=fk.lh (d:=d') hS Xp
    refine za (λhb=>?_) (λhb=>?_)
    ·exact hF (by rw[dE];simp only;rw[if_neg (by omega)]) hh (aR hS)
    ·rw[dE]
     simp only
     rw[if_pos (show im<=b9 g.bI/\e_ g.bI<=im+1 by omega)]
     exact⟨_,⟨kp,lp,rp,H3,hh,rfl,rfl⟩,aR hS⟩
abbrev GO(kp mp gp:Nat)(n:Int):List Value:=[dg kp,dg mp,.int .i64 n,dg gp]
theorem qo(kp mp:Nat)(H:aW)(n:Int):SP 115 [dg kp,dg mp,.int .i64 n] [] (λv post=>(¬(1<=n/\n<=64)/\v= .pointer none/\post=[]) \/
  ((1<=n/\n<=64)/\∃pp gp:Nat,v=dg pp/\post=[.pt pp (GO kp mp gp n) 286,.ob (lU gp H gu)])):=by
 intro W F w hS;apply bwq;delta HU aF ai dk;(try simp only[app]at hS)
 refine Gp ?_
 refine za (λh=>⟨_,.inl ⟨by omega,rfl,rfl⟩,hS⟩) (λh1=>?_)
 refine Gp ?_
 refine za (λh=>⟨_,.inl ⟨by omega,rfl,rfl⟩,hS⟩) (λh2=>?_)
 refine Cc (qR H) ?_;clear hS
 rintro _ post ⟨gp,rfl,rfl⟩ w hS
 (try simp only[app]at hS);refine Gp ?_
 refine⟨_,rfl,zI hS λpp w hS=>?_⟩
 exact⟨_,.inr ⟨by omega,pp,gp,rfl,rfl⟩,aR hS⟩
section
variable {W w:World} {l:List Chunk}
end
def GG(y:Except Int cW):cW:=match y with
 | .error _=>⟨0,0,[],[],0⟩
 | .ok t=>t
def GF(y:Except Int cW):Int:=match y with
 | .error e=>e
 | .ok _=>0
theorem b7b(H:aW):gO H ry ⟨0,0,[],[],0⟩:=⟨rfl,rfl,rfl,dy.nil _ _,dy.nil _ _⟩
theorem rC.all{sp tp dp lp:Nat}{k:du}{H:aW}{aI:Int}{r:Value}{post:List Chunk}(h:rC sp tp dp lp k H aI r post):∃x H',H.le H'/\r= .tuple #[agg (eI x),.int .i64 (GF (k.fp aI))]/\gO H' x (GG (k.fp aI))/\post=[.ob (dU sp tp dp lp k),.mem H']:=by
 unfold rC at h
 cases hr:k.fp aI with
 | error e=>
  rw[hr]at h
  obtain⟨_,H',hh,rfl,rfl⟩:=h
  exact⟨ry,H',hh,rfl,b7b H',rfl⟩
 | ok t=>
  rw[hr]at h
  obtain⟨x,H',hh,rfl,hx,rfl⟩:=h
  exact⟨x,H',hh,rfl,hx,rfl⟩
structure KL(n i tr N M:Nat)(AL:List cW)(k:du):Prop where
 len:AL.length=i
 l4:jP n AL
 live:∃I d0 f lo m,sG n k AL tr I d0 f lo m
 off:k.d.off=false
 arm:0<=k.d.arm
 ok:jz k N
 ops:k.d.ops<=M
 full:∀s∈k.g.bI,s.l≠[]
theorem KL.mono{n i tr N M N' M':Nat}{AL:List cW}{k:du}(h:KL n i tr N M AL k)(hN:N<=N')(hM:M<=M'):KL n i tr N' M' AL k:=⟨h.len,h.l4,h.live,h.off,h.arm,h.ok.mono hN,by have:=h.ops;omega,h.full⟩
end Go.Proofs.YtfenmffiidchcaaGreat
