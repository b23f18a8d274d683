/-
  Texts of the proof, joined: Own, OpT, CellsN, TxT, TxL, PlaySig, TxnsS, BytesT, Law12K, Law28, SameI, Law28D, Law28E, Law28K, Law28P, Law28A, Law28N, Law28T, Law28R, Law28V, Law28U, Law28X, Law28W.
-/
import Derived.Test.YtfenmffiidchcaaGreatJ12
import Derived.Test.YtfenmffiidchcaaGreatRows
namespace Go.Proofs.YtfenmffiidchcaaGreat
set_option linter.unusedVariables false
theorem Tryz.own:ownKnob Tryz.prog.godebug=none:=by kernel_rfl
theorem Tryz.laidOut:laidOutB Tryz.prog=true:=by kernel_rfl
set_option maxRecDepth 100000
open Go.ChangeShapes Go.WideShapes Go.ChangeAt Go.RowKit
def EV:lC ig:=(nM (pX .i64) (nM (pX .i64) (nM Ug (nM C1 C2)))).via λo=>(o.table,o.key,o.gone,o.val,())
theorem bR3{w:World}{M:MS}{o:ig}{cs:List Value}(h:EV.rd w M o cs):cs=jA o:=by
 obtain⟨c1,c2,rfl,h1,c3,c4,rfl,h3,c5,c6,rfl,h5,c7,c8,rfl,h7,h8⟩:=h
 have GA:c1=[.int .i64 o.table]:=h1
 have GB:c3=[.int .i64 o.key]:=h3
 have GC:c5=[.bool o.gone]:=h5
 have GD:c7=[.string o.val]:=h7
 have XJ:c8=[]:=h8
 subst GA GB GC GD XJ
 rfl
def a7k(c:ig):Prop:=R6 .i64 c.key
theorem b_l:pD Tryz.prog 82 EV a7k:=
 qb (Yp (λo:ig=>(o.table,o.key,o.gone,o.val,())) (λx=>⟨x.1,x.2.1,x.2.2.1,x.2.2.2.1⟩) (λ_=>rfl)
  (Zn Tryz.underlying82 (by kernel_rfl) (q_ (zN Tryz.underlying3 (by kernel_rfl)) rfl (q_ (zN Tryz.underlying2 (by kernel_rfl)) rfl (q_ (qO Tryz.underlying4 (by kernel_rfl)) rfl (q_ (a7x Tryz.underlying9 (by kernel_rfl)) rfl (O3 _ _))))))) (λo h=>h.2.1)
set_option maxRecDepth 100000
open Go.RowKit
theorem N8(c:ig)(k:Nat)(h:0<k):1<=(k7 c k).key/\(k7 c k).key<=1099511627776/\0<=(k7 c k).table/\(k7 c k).table<k/\(k7 c k).val.size<=32:=by
 have h1:=nh c.key 1099511627776 (by decide)
 have h2:=nh c.key 12 (by decide)
 have h3:=nh c.table k h
 have h4:(k7 c k).val.size<=32:=by
  unfold k7
  simp only
  split
  ·simp[ByteArray.size]
  ·unfold BF;rw[ByteArray.size_extract];omega
 refine⟨?_,?_,?_,?_,h4⟩<;>(unfold k7;simp only;try split)<;>omega
open Go.ChangeShapes Go.WideShapes Go.ChangeAt Go.RowKit
set_option maxRecDepth 100000
open Go.RowKit
def wT(k lG:Nat)(l:List ig):List ig:=(l.take lG).map (k7 · k)
theorem V4(k lG:Nat)(h0:0<k)(h8:k<=8)(l:List ig):(wT k lG l).length<=lG/\(∀c∈wT k lG l,lF c 8=true)/\∀c∈wT k lG l,ki k c=true:=by
 unfold wT
 refine⟨by rw[List.length_map,List.length_take];omega,λc hc=>?_,λc hc=>?_⟩
 ·obtain⟨x,_,rfl⟩:=List.mem_map.1 hc
  obtain⟨h1,h2,h3,h4,h5⟩:=N8 x k h0
  refine vm.2 ⟨h3,by omega,h1,h2,h5,λhg=>?_⟩
  have hg:x.gone=true:=hg
  show (if x.gone then (⟨#[]⟩:ByteArray) else BF x.val 32)=emp
  rw[if_pos hg];rfl
 ·obtain⟨x,_,rfl⟩:=List.mem_map.1 hc
  obtain⟨_,_,h3,h4,_⟩:=N8 x k h0
  exact decide_eq_true ⟨h3,h4⟩
theorem gF.Good.A2{p:gF}{N:Nat}(h:p.Good N)(hN:N<=900000000):p.Ok:=
 ⟨⟨h.reqs,h.t1,by have:=h.rows;omega,h.mZ⟩,h.d,h.d.len,⟨N,h.src,hN⟩,h.n,h.row.1,by have:=h.wid;omega⟩
theorem eW.aW5{W w:World}{l:List Chunk}{H:bw}{xp:Nat}(hS:SL W (.pt xp [.slice none 0 0,.int .i64 0,.bool false,.int .i64 0] 66::l) w):SL W (.ob (eW H xp mg)::l) w:=by
 have hS:SL W (.ob (a_ (.slice none 0 0) 186 3 0 [])::.pt xp [.slice none 0 0,.int .i64 0,.bool false,.int .i64 0] 66::l) w:=a_.nil hS
 exact (eW.iff (H:=H) (s:=mg)).2 ⟨Value.slice none 0 0,[],⟨rfl,λy hy=>by cases hy⟩,SL.b4 hS (t:=.pt xp [.slice none 0 0,.int .i64 0,.bool false,.int .i64 0] 66::.ob (a_ (.slice none 0 0) 186 3 0 [])::l) Xi⟩
structure z' where
 xb:Nat
 sp:Nat
 tp:Nat
 dp:Nat
 lp:Nat
 mp:Nat
 wp:Nat
 pp:Nat
 gp:Nat
 kp:Nat
 xp:Nat
 EN:Nat
 rp:Nat
 ym:Nat
 yw:Nat
 zp:Nat
 zg:Nat
abbrev Wk(x:z'):List Value:=[dF x.dp,dF x.sp,dF x.mp,dF x.pp,dF x.xp,dF x.kp,dF x.ym,dF x.zp]
abbrev vB(x:z'):Chunk:=.pt x.xb (Wk x) 95
abbrev UM(x:z')(H1 H2 H3:bw)(p q:gF):List Chunk:=[vB x,.pt x.pp (mi x.sp x.mp x.wp x.gp p.n) 201,.ob (jS x.gp p.d),.ob (e_ x.mp x.wp H1 p.m),.ob (ir x.sp x.tp x.dp x.lp p.k),.ob (cw x.dp p.k.d),.pt x.zp (IH x.kp x.ym x.zg q.n) 286,.ob (sY x.zg H2 q.d),.ob (sZ x.ym x.yw H2 q.m),.ob (jH x.kp x.xp x.EN x.rp H2 q.k),.ob (eW H2 x.xp q.k.d),.mem H3]
abbrev UL(x:z')(H:bw)(p:gF):List Chunk:=UM x H H H p p
def wv(n:Nat)(c:oM):gF:=⟨o9 n c.size,⟨n,c.late,0,[],ko c.chunk⟩,lT,c.chunk⟩
structure x9(n:Nat)(c:oM):Prop where
 tables:c.tables=n
 n1:1<=n
 n8:n<=8
 s0:64<=c.size
 s1:c.size<=65536
 cw6:0<=c.late
 cw7:c.late<2 ^ n
 c1:1<=c.chunk
 FL:c.chunk<=64
theorem SF:kx []:=⟨by decide,λi h=>by simp at h⟩
theorem x9.mux{n:Nat}{c:oM}(h:x9 n c):¬sM n c.late c.chunk 0 []:=by
 obtain⟨h1,h2,h3,h4,h5,h6,h7,h8,h9⟩:=h
 unfold sM
 rw[show ((n:Nat):Int).toNat=n from Int.toNat_natCast n]
 rintro (h|h|h|h|h|h|h|h|h|⟨r,hr,_⟩)
 ·omega
 ·omega
 ·omega
 ·omega
 ·omega
 ·omega
 ·omega
 ·omega
 ·exact h SF
 ·cases hr
theorem Tp{n:Nat}{c:oM}(h:x9 n c):(wv n c).Good 0:=
 ⟨SF,⟨by have:=h.n1;show (1:Int)<=(n:Int);omega,by have:=h.n8;show (n:Int)<=8;omega⟩,by show (0:Int)<=0/\(0:Int)<=1099511627776;decide,h.FL,by show 0<=64;decide,by show (0:Int)<=0/\(0:Int)<=64;decide,OH,(λm hm=>by cases hm),⟨h.c1,h.FL⟩,T3 h.n1 h.n8 h.s0 h.s1⟩
theorem Zk(H:bw)(c:oM)(n:Nat)(hc:x9 n c):
  SP 40 [agg (rR c)] [.mem H] (λv post=>∃(x:z') (H':bw),H.le H'/\v=dF x.xb/\post=UL x H' (wv n c)):=by
 obtain⟨e1,_⟩:=T4 hc.n1 hc.n8 hc.s0 hc.s1
 have D3:=hc.mux
 have Hi:∀d' g,kE mg 16 c.size=(d',.ok g)->(iK g.bR).length<=50000:=λd' g h=>by rw[S9 (by decide) (by decide) hc.s0 hc.s1]at h;cases h;exact Nat.zero_le _
 obtain⟨ct,cl,cs,cq,cc,oh,pH,cm,cj,ce⟩:=c
 obtain⟨c1,c2,c3,c4,c5,c6,c7,c8,c9⟩:=hc
 simp only at c1 c4 c5 c6 c7 c8 c9 e1 Hi D3
 subst c1
 intro W F w hS;apply b8f;delta MH bF a7 fI dI ai eI bI;(try simp only[app]at hS)
 refine zK hS λcb w hS=>?_
 unfold rR at hS
 refine Cc (Q8) ?_;clear hS
 rintro _ post ⟨dp,rfl,rfl⟩ w hS
 (try simp only[app]at hS);refine Gp ?_
 refine zK hS λxp w hS=>?_
 have hS:=eW.aW5 (H:=H) hS
 refine Gp ?_
 refine zK hS λxb w hS=>?_
 have hS:SL W (.pt xb [dF dp,.pointer none,.pointer none,.pointer none,dF xp,.pointer none,.pointer none,.pointer none] 95::_) w:=hS
 refine Gp ?_
 refine zq ?_
 refine Gn λw hS=>?_
 refine Cc (Qq H dp mg n cs (IJ 0) (by decide) (by decide) Hi) ?_;clear hS
 rintro r post hq w hS
 rw[e1]at hq
 obtain⟨sp,tp,lp,H1,iw,rfl,rfl⟩:=hq
 refine Gn λw hS=>?_
 refine Cc (Q7 H1 n cl cc 0 (.slice none 0 0) [] (gi.nil _ _) (by decide)) ?_;clear hS
 rintro r post hq w hS
 rcases hq with ⟨hq,_⟩|⟨_,mp,wp,H2,iB,rfl,rfl⟩
 ·exact absurd hq D3
 refine Gn λw hS=>?_
 refine zq ?_
 refine Gp ?_
 refine zq ?_
 refine Gn λw hS=>?_
 refine Cc (Qs sp mp wp H2 ⟨n,cl,0,[],ko cc⟩ cc) ?_;clear hS
 rintro r post hq w hS
 rcases hq with ⟨hq,_⟩|⟨_,pp,gp,rfl,rfl⟩
 ·exact absurd ⟨c8,c9⟩ hq
 refine Gn λw hS=>?_
 refine zq ?_
 obtain⟨rv,hr,hS⟩:=e_.iff.1 (SL.b4 hS (t:=.ob (e_ mp wp H2 ⟨n,cl,0,[],ko cc⟩)::.pt pp (mi sp mp wp gp cc) 201::.ob (jS gp lT)::.ob (ir sp tp dp lp (o9 n cs))::.ob (cw dp mg)::.ob (eW H xp mg)::.pt xb [dF dp,dF sp,dF mp,dF pp,dF xp,.pointer none,.pointer none,.pointer none] 95::.pt cb [.int .i64 n,.int .i64 cl,.int .i64 cs,.int .i64 cq,.int .i64 cc,.int .i64 oh,.int .i64 pH,.int .i64 cm,.int .i64 cj,.int .i64 ce] 87::.mem H2::F) Xi)
 refine Gp ?_
 refine Z3 (vs:=[dF wp]) hS Xh rfl (λj v e=>by
  match j,e with
  | 0,e=>exact e) ?_
 refine Cg (Yn wp) λw hS=>?_
 refine zq ?_
 have hS:=e_.put _ rv hr hS Xp
 have hS:=eW.lh (xp:=xp) (bw.le_trans iw iB) hS Xr
 refine Gn λw hS=>?_
 refine Cc (qr H2 xp mg n cs (N:=0) (IJ 0) (by decide) (λx hx=>by cases hx) (by decide) (by decide) Hi) ?_;clear hS
 rintro r post hq w hS
 rw[e1]at hq
 obtain⟨kp,EN,rp,H3,kz,rfl,rfl⟩:=hq
 refine Gn λw hS=>?_
 refine Cc (q7 H3 n cl cc 0 (.slice none 0 0) [] (gi.nil _ _) (by decide)) ?_;clear hS
 rintro r post hq w hS
 rcases hq with ⟨hq,_⟩|⟨_,ym,yw,H4,m9,rfl,rfl⟩
 ·exact absurd hq D3
 refine Gn λw hS=>?_
 refine Cc (qs kp ym H4 cc) ?_;clear hS
 rintro r post hq w hS
 rcases hq with ⟨hq,_⟩|⟨_,zp,zg,rfl,rfl⟩
 ·exact absurd ⟨c8,c9⟩ hq
 refine Gn λw hS=>?_
 have hS:=e_.lh (mp:=mp) (wp:=wp) (m:=⟨n,cl,0,[],ko cc⟩) (bw.le_trans kz m9) hS Xr
 have hS:=jH.lh (k:=o9 n cs) m9 hS Xr
 have hS:=eW.lh (xp:=xp) m9 hS Xr
 refine⟨_,⟨⟨xb,sp,tp,dp,lp,mp,wp,pp,gp,kp,xp,EN,rp,ym,yw,zp,zg⟩,H4,bw.le_trans iw (bw.le_trans iB (bw.le_trans kz m9)),rfl,rfl⟩,?_⟩
 exact SL.b4 hS (t:=.pt xb [dF dp,dF sp,dF mp,dF pp,dF xp,dF kp,dF ym,dF zp] 95::.pt pp (mi sp mp wp gp cc) 201::.ob (jS gp lT)::.ob (e_ mp wp H4 ⟨n,cl,0,[],ko cc⟩)::.ob (ir sp tp dp lp (o9 n cs))::.ob (cw dp mg)::.pt zp (IH kp ym zg cc) 286::.ob (sY zg H4 lT)::.ob (sZ ym yw H4 ⟨n,cl,0,[],ko cc⟩)::.ob (jH kp xp EN rp H4 (o9 n cs))::.ob (eW H4 xp mg)::.mem H4::F) Xi
theorem Vt(s:DS)(f:Int)(b:List UInt8):(s.append f b).1.ops<=s.ops+1:=by
 unfold DS.append;split
 ·exact Nat.le_succ _
 ·exact Nat.le_refl _
theorem bR1(s:DS)(f:Int):(s.sync f).1.ops<=s.ops+1:=by
 unfold DS.sync;split
 ·exact Nat.le_succ _
 ·split<;>exact Nat.le_refl _
theorem Wg(s:DS)(f n:Int):(s.cut f n).1.ops<=s.ops+1:=by
 unfold DS.cut;split
 ·exact Nat.le_succ _
 ·split
  ·exact Nat.le_succ _
  ·split<;>exact Nat.le_refl _
theorem bFg(s:DS)(f:Int):(s.remove f).1.ops<=s.ops+1:=by
 unfold DS.remove;split
 ·exact Nat.le_succ _
 ·split<;>exact Nat.le_refl _
theorem aWp(g:g8)(d:DS):(g6 g d).1.2.ops<=d.ops+1:=by
 unfold g6
 split
 ·exact Nat.le_succ _
 ·simp only
  split
  ·exact bFg ..
  ·exact Wg ..
theorem Vq(g:g8)(d:DS)(p:List UInt8):(j6 g d p).1.2.ops<=d.ops+3:=by
 unfold j6
 split
 ·exact Nat.le_add_right _ _
 ·rename_i x _
  have h1:=aWp g d
  simp only
  split
  ·simp only;omega
  ·have h2:=Vt (g6 g d).1.2 x.file x.b
   split
   ·simp only;omega
   ·have h3:=bR1 ((g6 g d).1.2.append x.file x.b).1 x.file
    split<;>(simp only;omega)
theorem NG(k:fR)(t:dR):(k.lJ t).1.d.ops<=k.d.ops+3:=by
 unfold fR.lJ
 split
 ·exact Nat.le_add_right _ _
 ·split
  ·exact Nat.le_add_right _ _
  ·simp only
   split<;>exact Vq ..
theorem FV(k:fR)(sg:List ByteArray)(l:List ig):(k.mR sg l).1.d.ops<=k.d.ops+3:=by
 unfold fR.mR
 split
 ·exact NG ..
 ·exact Nat.le_add_right _ _
theorem SD(k:fR)(a b:Int):(k.mL a b).1.d.ops<=k.d.ops+3:=by
 unfold fR.mL
 split
 ·exact NG ..
 ·exact Nat.le_add_right _ _
theorem C0(p:gF):p.step.1.k.d.ops<=p.k.d.ops+3:=by
 unfold gF.step
 split
 ·exact Nat.le_add_right _ _
 ·split
  ·unfold gF.xM gF.uB
   split
   ·exact Nat.le_add_right _ _
   ·unfold gF.wk
    split<;>exact SD ..
  ·split
   ·exact Nat.le_add_right _ _
   ·unfold gF.xm
    simp only
    split<;>exact SD ..
abbrev vw(t:dR)(n:Nat):dR:=⟨(n:Int)+1,t.kind,t.changes,t.signals,t.mark⟩
structure KS(n:Nat)(AL:List dR)(k:fR):Prop where
 vO:nm n AL
 live:∃d0 f m,wK n k AL 0 [] d0 f 0 m
 off:k.d.off=false
 arm:k.d.arm=0
 full:∀s∈k.g.bR,s.l≠[]
theorem KS.init{n:Nat}(n1:1<=n)(n8:n<=8){size:Int}(s0:64<=size)(s1:size<=65536):KS n [] (o9 n size):=by
 obtain⟨_,hL⟩:=T4 n1 n8 s0 s1
 exact⟨nm.nil n,⟨mg,16,0,hL⟩,rfl,rfl,by simp[o9]⟩
theorem KS.head{n:Nat}{AL:List dR}{k:fR}(h:KS n AL k):b9 k.g.bR=AL.length:=by
 obtain⟨d0,f,m,hL⟩:=h.live
 exact hL.head h.off
theorem KS.ts{n:Nat}{AL:List dR}{k:fR}(h:KS n AL k):k.ts=kZ n AL:=by
 obtain⟨d0,f,m,hL⟩:=h.live
 exact hL.ts
theorem KS.read{n:Nat}{AL:List dR}{k:fR}(h:KS n AL k){j:Nat}(hj:j<AL.length):k.jK ((j:Int)+1)= .ok AL[j]:=by
 obtain⟨d0,f,m,hL⟩:=h.live
 exact hL.read h.vO.ok.may (Nat.zero_le _) hj
theorem KS.Iy{n:Nat}{AL:List dR}{k:fR}(h:KS n AL k):k.jK ((AL.length:Int)+1)= .error 5:=by
 obtain⟨d0,f,m,hL⟩:=h.live
 unfold fR.jK
 rw[hL.log.chain.read,if_pos (by omega),hL.log.nT,List.getElem?_eq_none (by rw[List.length_map,List.length_drop];omega)]
theorem KS.add{n:Nat}{AL:List dR}{k:fR}(h:KS n AL k){t:dR}(hm:iM (vw t AL.length)=true)(hc:∀c∈t.changes,ki n c=true)(hf:nm n (AL++[vw t AL.length])):
  ∃k',k.lJ t=(k',((AL.length:Int)+1,0))/\KS n (AL++[vw t AL.length]) k':=by
 obtain⟨d0,f,m,hL⟩:=h.live
 have ho:=h.off
 have ha:=h.arm
 have hlen:=h.vO.len
 have pP:=hL.head ho
 have hd:=hL.OE
 have tC:d0.off=false:=by rw[hd]at ho;exact ho
 have PV:d0.arm=0:=by rw[hd]at ha;exact ha
 have hl:=hL.log.inv tC
 have uw:=hL.HL.le
 have air:=hL.file
 have hb:=hL.base
 have lX:=hL.ts
 have u0:=WR hm
 have rX:=hf.fits
 have um:=Vs hl (p:=l4 (vw t AL.length)) (by omega) (by rw[List.length_map,List.length_drop];omega) (by rw[List.length_map,List.length_drop,hb];omega) (by omega)
 obtain⟨ew,hw,_⟩:=Vr (A:=[]) (B:=[]) (d:=d0) (hL.log.Xw hb) hL.b8 (l4 (vw t AL.length))
 have GW:k.lJ t=(let r:=j6 k.g k.d (l4 (vw t AL.length));if r.2.2=0 then ({k with g:=r.1.1,d:=r.1.2,ts:=jz k.ts t.changes},((AL.length:Int)+1,0)) else ({k with g:=r.1.1,d:=r.1.2},(0,r.2.2))):=by
  unfold fR.lJ
  rw[if_neg (by simp[ho]),if_neg (by rw[lX,rX,pP];simp;omega),pP]
 rw[GW,hd,ew]
 have pO:(AL.drop 0).map l4++[l4 (vw t AL.length)]=((AL++[vw t AL.length]).drop 0).map l4:=by simp
 rcases um with ⟨g',d',e,hv,iO,ha',GO,GS,cwr,pw,_,_⟩|⟨d',e,hT,Hk,iO,GO⟩
 ·rw[e]at hw ⊢
  simp only at hw ⊢
  rw[if_pos trivial]
  rw[pO]at hv
  refine⟨_,rfl,hf,⟨d',f,m,⟨rfl,hw,hv.laid,GS.trans hb,hL.HL.mono _,hL.image,Nat.zero_le _,Nat.le_refl _,?_,air⟩⟩,hv.off,GO PV,pw⟩
  show jz k.ts t.changes=_
  rw[lX,E4 (t:=vw t AL.length) hc]
 ·exact absurd PV GO
theorem KS.ta{n:Nat}{AL:List dR}{k:fR}(h:KS n AL k){sg:List ByteArray}{l:List ig}(h2:l.length<=16)(h3:∀x∈l,lF x 8=true)(h4:sg.length<=2)(h5:∀s∈sg,s.size<=40)(hc:∀c∈l,ki n c=true)(h6:AL.length+1<=1000)(h7:(AL.flatMap (·.changes)).length+l.length<=1000):
  ∃k',k.mR sg l=(k',((AL.length:Int)+1,0))/\KS n (AL++[⟨(AL.length:Int)+1,1,l,sg,0⟩]) k':=by
 have hm:∀aI:Int,1<=aI/\aI<=1099511627776->iM ⟨aI,1,l,sg,0⟩=true:=λaI h1=>uC.2 ⟨h1,.inl ⟨rfl,rfl,h2,h4,h3,h5⟩⟩
 have Cm:=hm ((AL.length:Int)+1) (by omega)
 obtain⟨k',e,hk⟩:=h.add (t:=⟨1,1,l,sg,0⟩) Cm hc (h.vO.app Cm rfl hc h6 h7)
 refine⟨k',?_,hk⟩
 unfold fR.mR
 rw[if_pos ⟨hm 1 (by decide),λc kH=>by rw[h.ts,uG];exact (of_decide_eq_true (hc c kH)).2⟩]
 exact e
theorem KS.mark{n:Nat}{AL:List dR}{k:fR}(h:KS n AL k){kind mark:Int}(hk:kind=2\/kind=3)(hm:∀aI:Int,1<=aI/\aI<=1099511627776->iM ⟨aI,kind,[],[],mark⟩=true)(h6:AL.length+1<=1000):
  ∃k',k.mL kind mark=(k',((AL.length:Int)+1,0))/\KS n (AL++[⟨(AL.length:Int)+1,kind,[],[],mark⟩]) k':=by
 have Cm:=hm ((AL.length:Int)+1) (by omega)
 obtain⟨k',e,Ch⟩:=h.add (t:=⟨1,kind,[],[],mark⟩) Cm (by simp) (h.vO.app Cm rfl (by simp) h6 (by have:=h.vO.kM;simp only[List.length_nil];omega))
 refine⟨k',?_,Ch⟩
 unfold fR.mL
 rw[if_pos ⟨hk,hm 1 (by decide)⟩]
 exact e
abbrev Ac:ByteArray:=⟨#[115,110,97,112,115,104,111,116,32,48]⟩
abbrev wR:ig:=⟨0,5,false,⟨#[97]⟩⟩
abbrev vK:dR:=⟨1,1,[wR],[Ac],0⟩
abbrev tX:g7:=⟨1,0,0,[],ko 2⟩
abbrev wQ:Rq:=⟨1,0,1,1,0,0,false⟩
abbrev uO:g7:=⟨1,0,1,[wQ],ko 2⟩
abbrev wP:g7:=⟨1,0,1,[wQ],⟨2,1,2,0,1,0,[],0,false⟩⟩
abbrev Ab:g7:=⟨1,0,1,[wQ],⟨2,2,2,0,1,0,[⟨5,⟨#[97]⟩⟩],5,true⟩⟩
abbrev BA:g7:=⟨1,0,1,[wQ],⟨2,3,2,0,1,0,[⟨5,⟨#[97]⟩⟩],5,true⟩⟩
abbrev p8:g_:=⟨[(1,1)],0,0⟩
theorem NT:lF wR 8=true:=by decide
theorem Vv:iM vK=true:=uC.2 ⟨by decide,.inl ⟨rfl,rfl,by decide,by decide,λc hc=>by rw[List.mem_singleton.1 hc];exact NT,λs hs=>by rw[List.mem_singleton.1 hs];decide⟩⟩
theorem VA:(tX.take vK).1=uO/\(tX.take vK).2.2=0:=by
 unfold g7.take
 rw[if_neg (by rw[Vv];decide),if_neg (by decide),if_pos rfl]
 exact⟨by kernel_rfl,rfl⟩
theorem Ad:oE tX=false/\oE uO=true/\oE wP=true/\oE Ab=true/\oE BA=false:=by decide
theorem Vz{k k2:fR}{AL:List dR}(h:KS 1 AL k)(hl:AL.length=1)(e:k.mL 2 2=(k2,(2,0))):(⟨k,uO,lT,2⟩:gF).step=(⟨k2,wP,p8,2⟩,(3,0)):=by
 unfold gF.step
 rw[if_neg (by rw[Ad.2.1];decide),if_pos rfl]
 unfold gF.xM
 have e1:(kY lT [wQ]).next=(p8,1):=by kernel_rfl
 show (⟨k,uO,lT,2⟩:gF).uB (kY lT [wQ]).next=_
 rw[e1]
 show (⟨k,uO,p8,2⟩:gF).wk wQ=_
 unfold gF.wk
 simp only[h.head,hl]
 rw[show (((1:Nat):Int)+1)=2 from rfl,e]
 rfl
theorem Vx{k:fR}{AL:List dR}(h:KS 1 AL k)(hl:mA 0 AL=[⟨5,⟨#[97]⟩⟩]):(⟨k,wP,p8,2⟩:gF).step=(⟨k,Ab,p8,2⟩,(4,0)):=by
 unfold gF.step
 rw[if_neg (by rw[Ad.2.2.1];decide),if_neg (show ¬((1:Int)=0) by decide),if_pos rfl]
 have e:k.s9 0 0 2=[⟨5,⟨#[97]⟩⟩]:=by
  unfold fR.s9
  rw[h.ts]
  have:=EZ AL 0 (n:=1) (by decide)
  rw[show (0:Int)=((0:Nat):Int) from rfl,this,show ((0:Nat):Int)=0 from rfl,hl]
  decide
 show (({k:=k,m:={wP with b8:=wP.b8.fill (k.s9 0 0 2)},d:=p8,n:=2}:gF),((4:Int),(0:Int)))=_
 rw[e]
 have:wP.b8.fill [⟨5,⟨#[97]⟩⟩]=Ab.b8:=by unfold ik.fill;rw[if_neg (by decide)];rfl
 rw[this]
theorem Vy{k k2:fR}{a:Int}(e:k.mL 3 2=(k2,(a,0))):(⟨k,Ab,p8,2⟩:gF).step=(⟨k2,BA,p8,2⟩,(5,0)):=by
 unfold gF.step
 rw[if_neg (by rw[Ad.2.2.2.1];decide),if_neg (show ¬((2:Int)=0) by decide),if_neg (show ¬((2:Int)=1) by decide)]
 unfold gF.xm
 simp only[e]
 rfl
theorem Vw{k:fR}:(⟨k,BA,p8,2⟩:gF).step=(⟨k,BA,p8,2⟩,(0,0)):=by
 unfold gF.step
 rw[if_pos Ad.2.2.2.2]
theorem YA:SP 42 [] [] (dW (.bool true) []):=by
 intro W F w hS;apply b8h;delta MJ aF bF aW dI c_ b7 ai eI cI bI iG;(try simp only[app]at hS)
 have hS:=SL.HX hS
 generalize bw.emp=H at hS
 have hc:x9 1 ⟨1,0,64,0,2,0,0,0,0,0⟩:=⟨rfl,by decide,by decide,by decide,by decide,by decide,by decide,by decide,by decide⟩
 have hp:=Tp hc
 have hK:=KS.init (n:=1) (by decide) (by decide) (size:=64) (by decide) (by decide)
 refine yx rfl ?_
 refine Cc (Zk H ⟨1,0,64,0,2,0,0,0,0,0⟩ 1 hc) ?_;clear hS
 rintro _ post ⟨x,H1,iw,rfl,rfl⟩ w hS
 try simp only[app]at hS
 have hp:(⟨o9 1 64,tX,lT,2⟩:gF).Good 0:=hp
 have hS:SL W (vB x::.pt x.pp (mi x.sp x.mp x.wp x.gp 2) 201::.ob (jS x.gp lT)::.ob (e_ x.mp x.wp H1 tX)::.ob (ir x.sp x.tp x.dp x.lp (o9 1 64))::.ob (cw x.dp (o9 1 64).d)::.mem H1::F) w:=SL.b4 hS (t:=vB x::.pt x.pp (mi x.sp x.mp x.wp x.gp (wv 1 ⟨1,0,64,0,2,0,0,0,0,0⟩).n) 201::.ob (jS x.gp (wv 1 ⟨1,0,64,0,2,0,0,0,0,0⟩).d)::.ob (e_ x.mp x.wp H1 (wv 1 ⟨1,0,64,0,2,0,0,0,0,0⟩).m)::.ob (ir x.sp x.tp x.dp x.lp (wv 1 ⟨1,0,64,0,2,0,0,0,0,0⟩).k)::.ob (cw x.dp (wv 1 ⟨1,0,64,0,2,0,0,0,0,0⟩).k.d)::.mem H1::F) Xi
 have GX:(o9 1 64).d.ops=0:=rfl
 generalize o9 1 64=k0 at *
 refine Gp ?_
 refine zq ?_
 refine Gp ?_
 refine zz hS (cells:=[.string Ac]) (by rfl) λsb w hS=>?_
 obtain⟨H2,iB,hR,hS⟩:=SL.CU (sz:=1) (H:=H1) hS Xp rfl
 refine Gp ?_
 refine zz hS (cells:=jA wR) (by rfl) λcb w hS=>?_
 obtain⟨H3,kz,hC,hS⟩:=SL.CU (sz:=4) (H:=H2) hS Xp rfl
 have As:=bw.le_trans iB kz
 have hS:=e_.lh (mp:=x.mp) (wp:=x.wp) (m:=tX) As hS Xr
 refine Cc (yT x.sp x.tp x.dp x.lp k0 H3 (.slice (some ⟨sb,0,none⟩) 1 1) (.slice (some ⟨cb,0,none⟩) 1 1) [Ac] [wR] (hR.mono kz) hC (by decide) hp.src (by decide) (by omega)) ?_;clear hS
 rintro r post ⟨rfl,rfl⟩ w hS
 have Hl:=FV k0 [Ac] [wR]
 have tD:=hp.ta [Ac] [wR]
 obtain⟨k1,e1,BT⟩:=hK.ta (sg:=[Ac]) (l:=[wR]) (by decide) (λc hc=>by rw[List.mem_singleton.1 hc];exact NT) (by decide) (λc hc=>by rw[List.mem_singleton.1 hc];decide) (λc hc=>by rw[List.mem_singleton.1 hc];decide) (by decide) (by decide)
 have BT:KS 1 [vK] k1:=BT
 rw[e1]at hS Hl tD ⊢
 simp only at hS Hl tD ⊢
 clear e1 hK hp
 try simp only[app]at hS
 have B9:=tD.src.g
 have gw:=BT.read (j:=0) (by decide)
 have gw:k1.jK 1= .ok vK:=gw
 refine Gp ?_
 refine Cc (yG x.sp x.tp x.dp x.lp k1 B9 (by decide) H3 1 (by decide)) ?_;clear hS
 rintro r post hq w hS
 unfold uM at hq
 rw[gw]at hq
 obtain⟨xt,H4,m9,rfl,hx,rfl⟩:=hq
 clear gw
 try simp only[app]at hS
 refine Gp ?_
 refine zJ hS λtb w hS=>?_
 refine zD (vs:=iU xt) hS Xu rfl rfl (sA (aI:=xt.aI) (kind:=xt.kind) (mark:=xt.mark) hx.cv.one hx.sv.one) λw hS=>?_
 have hS:=e_.lh (mp:=x.mp) (wp:=x.wp) (m:=tX) m9 hS Xr
 refine Gp ?_
 refine za (λh=>absurd rfl h) (λ_=>?_)
 refine Gp ?_
 refine za (λh=>absurd rfl h) (λ_=>?_)
 refine Gp ?_
 refine Cc (z7 x.sp x.mp x.wp x.pp x.gp 2 H4 tX (by decide)) ?_;clear hS
 rw[Ad.1]
 (rintro v post ⟨rfl,rfl⟩ w hS;(try simp only[app]at hS);(repeat (first|refine Gp ?_|refine Gw λw hS=>?_|refine Gb λb w hS=>?_)))
 have uv:=(tD.A2 (by decide)).m
 obtain⟨t1,t2⟩:=VA
 refine⟨λus w=>∃H5:bw,us=[.int .i64 0]/\SL W (vB x::.pt x.pp (mi x.sp x.mp x.wp x.gp 2) 201::.ob (jS x.gp lT)::.ob (e_ x.mp x.wp H5 uO)::.ob (ir x.sp x.tp x.dp x.lp k1)::.ob (cw x.dp k1.d)::.mem H5::F) w,?_,?_⟩
 ·refine Gn λw hS=>?_
  refine⟨?_,?_⟩
  ·refine Cc (yO x.mp x.wp H4 tX uv xt vK hx (by decide)) ?_;clear hS
   rintro r post ⟨x3,H5,tm,rfl,xI,rfl⟩ w hS
   rw[t1]at hS
   rw[t2]
   try simp only[app]at hS
   refine Gp ?_
   refine zJ hS λb1 w hS=>?_
   refine zD (vs:=nF x3) hS Xu rfl rfl (wY xI) λw hS=>?_
   exact⟨H5,rfl,aR hS⟩
  ·refine Gb λb1 w hS=>?_
   refine Cc (yO x.mp x.wp H4 tX uv xt vK hx (by decide)) ?_;clear hS
   rintro r post ⟨x3,H5,tm,rfl,xI,rfl⟩ w hS
   rw[t1]at hS
   rw[t2]
   try simp only[app]at hS
   refine Gp ?_
   refine zD (vs:=nF x3) hS Xu rfl rfl (wY xI) λw hS=>?_
   exact⟨H5,rfl,aR hS⟩
 clear hS
 rintro v7 w ⟨H5,cW,hS⟩
 cases cW
 refine Gp ?_
 refine za (λh=>absurd rfl h) (λ_=>?_)
 have ux:=tD.take vK
 simp only at ux
 rw[t1]at ux
 clear tD uv t1 t2
 refine Gp ?_
 refine Cc (z7 x.sp x.mp x.wp x.pp x.gp 2 H5 uO (by decide)) ?_;clear hS
 rw[Ad.2.1]
 (rintro v post ⟨rfl,rfl⟩ w hS;(try simp only[app]at hS);(repeat (first|refine Gp ?_|refine Gw λw hS=>?_|refine Gb λb w hS=>?_)))
 refine zq ?_
 have uu:∀kind:Int,(kind=2\/kind=3)->∀aI:Int,1<=aI/\aI<=1099511627776->iM ⟨aI,kind,[],[],2⟩=true:=λkind h aI h1=>uC.2 ⟨h1,.inr ⟨h,by show (1:Int)<=2;decide,by show (2:Int)<=1099511627776;decide,rfl,rfl⟩⟩
 obtain⟨k2,e2,PH⟩:=BT.mark (kind:=2) (mark:=2) (.inl rfl) (uu 2 (.inl rfl)) (by decide)
 have e2:k1.mL 2 2=(k2,(2,0)):=e2
 have s2:=Vz BT rfl e2
 have o2:=C0 ⟨k1,uO,lT,2⟩
 have D5:=ux.step
 rw[s2]at o2 D5
 obtain⟨k3,e3,XR⟩:=PH.mark (kind:=3) (mark:=2) (.inr rfl) (uu 3 (.inr rfl)) (by decide)
 have s3:=Vx PH (by kernel_rfl)
 have s4:=Vy e3
 have o4:=C0 ⟨k2,Ab,p8,2⟩
 have Cp:=D5.step
 simp only at Cp
 rw[s3]at Cp
 have Cq:=Cp.step
 simp only at Cq
 rw[s4]at o4 Cq
 simp only at o2 o4 Hl D5 Cp Cq
 refine Gp ?_
 refine Cc (yg x.sp x.tp x.dp x.lp x.mp x.wp x.pp x.gp H5 ⟨k1,uO,lT,2⟩ (ux.A2 (by decide)) (by show k1.d.ops<=_;omega)) ?_;clear hS
 rintro _ post ⟨H6,tq,rfl,rfl⟩ w hS
 rw[s2]at hS ⊢
 (try simp only[app]at hS);refine Gp ?_
 refine Cc (yg x.sp x.tp x.dp x.lp x.mp x.wp x.pp x.gp H6 ⟨k2,wP,p8,2⟩ (D5.A2 (by decide)) (by show k2.d.ops<=_;omega)) ?_;clear hS
 rintro _ post ⟨H7,rU,rfl,rfl⟩ w hS
 rw[s3]at hS ⊢
 (try simp only[app]at hS);refine Gp ?_
 refine Cc (yg x.sp x.tp x.dp x.lp x.mp x.wp x.pp x.gp H7 ⟨k2,Ab,p8,2⟩ (Cp.A2 (by decide)) (by show k2.d.ops<=_;omega)) ?_;clear hS
 rintro _ post ⟨H8,h78,rfl,rfl⟩ w hS
 rw[s4]at hS ⊢
 (try simp only[app]at hS);refine Gp ?_
 refine Cc (yg x.sp x.tp x.dp x.lp x.mp x.wp x.pp x.gp H8 ⟨k3,BA,p8,2⟩ (Cq.A2 (by decide)) (by show k3.d.ops<=_;omega)) ?_;clear hS
 rintro _ post ⟨H9,h89,rfl,rfl⟩ w hS
 rw[Vw]at hS ⊢
 (try simp only[app]at hS);refine Gp ?_
 refine za (λ_=>?_) (λh=>absurd rfl h)
 refine Gp ?_
 refine za (λ_=>?_) (λh=>absurd rfl h)
 refine Gp ?_
 refine za (λ_=>?_) (λh=>absurd rfl h)
 refine Gp ?_
 refine za (λ_=>?_) (λh=>absurd rfl h)
 refine Gp ?_
 refine Cc (yp x.sp x.tp x.dp x.lp k3 Cq.src.g (by decide)) ?_;clear hS
 rw[XR.head]
 (rintro v post ⟨rfl,rfl⟩ w hS;(try simp only[app]at hS);(repeat (first|refine Gp ?_|refine Gw λw hS=>?_|refine Gb λb w hS=>?_)))
 exact eF hS
set_option maxRecDepth 100000
open Go.ChangeShapes Go.WideShapes Go.ChangeAt Go.RowKit
def I1:lC oM:=(nM (pX .i64) (nM (pX .i64) (nM (pX .i64) (nM (pX .i64) (nM (pX .i64) (nM (pX .i64) (nM (pX .i64) (nM (pX .i64) (nM (pX .i64) (nM (pX .i64) C2)))))))))).via λc=>(c.tables,c.late,c.size,c.queue,c.chunk,c.batch,c.base,c.lG,c.CJ,c.every,())
theorem bR2{w:World}{M:MS}{c:oM}{cs:List Value}(h:I1.rd w M c cs):cs=rR c:=by
 obtain⟨c1,c2,rfl,h1,c3,c4,rfl,h3,c5,c6,rfl,h5,c7,c8,rfl,h7,c9,c10,rfl,h9,VQ,FK,rfl,xa,VR,c14,rfl,As,VS,c16,rfl,XA,VT,c18,rfl,XC,VU,VV,rfl,XE,XG⟩:=h
 have GA:c1=[.int .i64 c.tables]:=h1
 have GB:c3=[.int .i64 c.late]:=h3
 have GC:c5=[.int .i64 c.size]:=h5
 have GD:c7=[.int .i64 c.queue]:=h7
 have XK:c9=[.int .i64 c.chunk]:=h9
 have Xx:VQ=[.int .i64 c.batch]:=xa
 have Xy:VR=[.int .i64 c.base]:=As
 have XB:VS=[.int .i64 c.lG]:=XA
 have XD:VT=[.int .i64 c.CJ]:=XC
 have XF:VU=[.int .i64 c.every]:=XE
 have XH:VV=[]:=XG
 subst GA GB GC GD XK Xx Xy XB XD XF XH
 rfl
def a7j(c:oM):Prop:=True
theorem b_k:pD Tryz.prog 87 I1 a7j:=
 qb (Yp (λc:oM=>(c.tables,c.late,c.size,c.queue,c.chunk,c.batch,c.base,c.lG,c.CJ,c.every,())) (λx=>⟨x.1,x.2.1,x.2.2.1,x.2.2.2.1,x.2.2.2.2.1,x.2.2.2.2.2.1,x.2.2.2.2.2.2.1,x.2.2.2.2.2.2.2.1,x.2.2.2.2.2.2.2.2.1,x.2.2.2.2.2.2.2.2.2.1⟩) (λ_=>rfl)
  (Zn Tryz.underlying87 (by kernel_rfl) (q_ (zN Tryz.underlying3 (by kernel_rfl)) rfl (q_ (zN Tryz.underlying3 (by kernel_rfl)) rfl (q_ (zN Tryz.underlying3 (by kernel_rfl)) rfl (q_ (zN Tryz.underlying3 (by kernel_rfl)) rfl (q_ (zN Tryz.underlying3 (by kernel_rfl)) rfl (q_ (zN Tryz.underlying3 (by kernel_rfl)) rfl
   (q_ (zN Tryz.underlying2 (by kernel_rfl)) rfl (q_ (zN Tryz.underlying2 (by kernel_rfl)) rfl (q_ (zN Tryz.underlying2 (by kernel_rfl)) rfl (q_ (zN Tryz.underlying2 (by kernel_rfl)) rfl (O3 _ _)))))))))))))
  (λc h=>trivial)
structure UQ where
 kind:Int
 n:Int
 sg:List ByteArray
 l:List ig
def t28:lC UQ:=(nM (pX .i64) (nM (pX .i64) (nM (I2 C1) (nM (I2 EV) C2)))).via λo=>(o.kind,o.n,o.sg,o.l,())
theorem bRx{w:World}{l:List ByteArray}{v:Value}(h:sn C1 w rK l v):gi (bw.of w) 1 v l.length (l.map Value.string):=by
 have:=h.flat (enc:=λs=>[.string s]) (λh=>h) (λ_=>rfl)
 have e:(l.map λs=>[Value.string s]).flatten=l.map Value.string:=by
  clear this h
  induction l with
  | nil=>rfl
  | cons a l ih=>simp[ih]
 rw[e]at this
 exact this
theorem VY(c:oM):x9 (1+md c.tables 4) (BD c):=by
 have h1:=nh c.tables 4 (by decide)
 have h2:=nh c.size 4 (by decide)
 have h3:=nh c.chunk 4 (by decide)
 have hp:0<2 ^ (1+md c.tables 4):=Nat.pow_pos (by decide)
 have h4:=nh c.late (2 ^ (1+md c.tables 4)) hp
 have hs:=V1 h2
 refine⟨by show (1:Int)+(md c.tables 4:Int)=((1+md c.tables 4:Nat):Int);omega,by omega,by omega,hs.1,by show uT (md c.size 4)<=_;omega,by show (0:Int)<=(md c.late (2 ^ (1+md c.tables 4)):Int);omega,?_,by show (1:Int)<=1+(md c.chunk 4:Int);omega,by show 1+(md c.chunk 4:Int)<=64;omega⟩
 show (md c.late (2 ^ (1+md c.tables 4)):Int)<2 ^ (1+md c.tables 4)
 have:((2 ^ (1+md c.tables 4):Nat):Int)=(2:Int) ^ (1+md c.tables 4):=by simp
 omega
set_option maxRecDepth 100000
open Go.RowKit
structure JA(n:Nat)(AL:List dR)(p:gF)(N M:Nat):Prop where
 ks:KS n AL p.k
 b8:p.m.b8=ko p.n
 at_:p.m.at_=AL.length
 rh:p.Good N
 ops:p.k.d.ops<=M
abbrev o_(h:Int):dR:=⟨h+1,2,[],[],h+1⟩
abbrev px(h:Int):dR:=⟨h+2,3,[],[],h+1⟩
abbrev wD(C h:Int)(r:Rq):ik:=⟨C,1,h+1,r.h_,r.id,r.table,[],0,false⟩
abbrev wE(C h:Int)(r:Rq)(R:List Row):ik:=⟨C,2,h+1,r.h_,r.id,r.table,R,mw r.h_ R,decide ((R.length:Int)<C)⟩
abbrev Bj(C h:Int)(r:Rq)(R:List Row):ik:={wE C h r R with state:=3}
abbrev oL(C h:Int)(r:Rq)(R:List Row):ik:={wE C h r R with state:=4}
def CR(C:Int)(r:Rq)(R:List Row):Rq:={r with h_:=mw r.h_ R,chunks:=r.chunks+1,done:=decide ((R.length:Int)<C)}
theorem Ey{kind mark aI:Int}(hk:kind=2\/kind=3)(h1:1<=mark/\mark<=1099511627776)(h2:1<=aI/\aI<=1099511627776):iM ⟨aI,kind,[],[],mark⟩=true:=uC.2 ⟨h2,.inr ⟨hk,h1.1,h1.2,rfl,rfl⟩⟩
theorem WA{d:g_}(h:d.Ok){id:Int}:∀m∈(d.del id).l,m.1≠id:=λm hm=>by
 unfold g_.del at hm
 split at hm
 ·rename_i hf
  have:=List.findIdx?_eq_none_iff.1 hf m hm
  simpa using this
 ·rename_i i hf
  obtain⟨hi,hk,_⟩:=List.findIdx?_eq_some_iff_getElem.1 hf
  have hk:d.l[i].1=id:=of_decide_eq_true hk
  obtain⟨j,iW,hj⟩:=List.mem_eraseIdx_iff_getElem?.1 hm
  intro e
  obtain⟨uq,o5⟩:=List.getElem?_eq_some_iff.1 hj
  have Rz:=List.pairwise_iff_getElem.1 h.nd
  have e1:(d.l.map Prod.fst)[i]'(by simpa using hi)=(d.l.map Prod.fst)[j]'(by simpa using uq):=by simp[hk,o5,e]
  rcases Nat.lt_trichotomy i j with ix|heq|ix
  ·exact Rz i j (by simpa using hi) (by simpa using uq) ix e1
  ·exact iW heq.symm
  ·exact Rz j i (by simpa using uq) (by simpa using hi) ix e1.symm
theorem OB:∀(L:List Rq) {d:g_},d.Ok->∀m∈(L.foldl (λd r=>d.del r.id) d).l,∀r∈L,m.1≠r.id
 | [],_,_,m,_,r,hr=>by cases hr
 | x::L,d,h,m,hm,r,hr=>by
  rcases List.mem_cons.1 hr with rfl|hr
  ·exact WA h m (BH L (d.del r.id) m hm)
  ·exact OB L (h.del x.id) m hm r hr
theorem bFp{d:g_}(hd:d.Ok){L:List Rq}(hL:kx L)(hid:∀m∈d.l,m.1<=L.length):∀m∈(kY d L).l,∃r∈L,r.done=false/\r.id=m.1:=λm hm=>by
 rcases Fz _ _ m hm with hm|⟨r,hr,rfl⟩
 ·have hn:=OB _ hd m hm
  have h0:=hd.w m (BH _ _ m hm)
  have h1:=hid m (BH _ _ m hm)
  have hi:(m.1-1).toNat<L.length:=by omega
  have b_5:=(hL.2 _ hi).1.1
  refine⟨L[(m.1-1).toNat],List.getElem_mem hi,?_,by omega⟩
  cases hq:L[(m.1-1).toNat].done with
  | false=>rfl
  | true=>exact absurd (by omega) (hn _ (List.mem_filter.2 ⟨List.getElem_mem hi,hq⟩))
 ·obtain⟨h1,h2⟩:=List.mem_filter.1 hr
  exact⟨r,h1,by simpa using h2,rfl⟩
theorem TB:∀(C:List Row) (k:Int),ke C->(∀x∈C,k<x.key/\x.key<=1099511627776)->oG k C=true
 | [],_,_,_=>rfl
 | r::C,k,hs,h=>by
  have hs:=List.pairwise_cons.1 hs
  unfold oG
  rw[Bool.and_eq_true,decide_eq_true_eq]
  exact⟨h r (.head _),TB C r.key hs.2 λx hx=>⟨hs.1 x hx,(h x (.tail _ hx)).2⟩⟩
theorem NJ{C:List Row}(h:oN C)(key n:Int):ke (lK C key n)/\∀x∈lK C key n,key<x.key/\x.key<=1099511627776:=by
 have Cx:(lK C key n).Sublist C:=(List.take_sublist _ _).trans (List.filter_sublist)
 refine⟨h.sorted.sublist Cx,λx hx=>?_⟩
 have h1:=List.mem_of_mem_take hx
 obtain⟨h2,h3⟩:=List.mem_filter.1 h1
 exact⟨of_decide_eq_true h3,(h.rows x h2).2.1⟩
theorem a_b{k:Int}{R:List Row}(h:∀x∈R,k<x.key/\x.key<=1099511627776)(hk:k<=1099511627776):k<=mw k R/\mw k R<=1099511627776:=by
 unfold mw
 cases hl:R.getLast? with
 | none=>exact⟨Int.le_refl _,hk⟩
 | some x=>
  have:=h x (List.mem_of_getLast? hl)
  show k<=x.key/\x.key<=_
  omega
theorem Pb(t:Int)(AL:List dR)(x:dR)(h:x.changes=[]):mA t (AL++[x])=mA t AL:=by
 unfold mA
 rw[List.flatMap_append]
 simp[h]
theorem KS.row{n:Nat}{AL:List dR}{k:fR}(h:KS n AL k){t:Nat}(ht:t<n):lk k.ts t=mA t AL/\oN (mA t AL):=by
 have e:=EZ AL t ht
 refine⟨by rw[h.ts,e],h.vO.rows _ ?_⟩
 unfold kZ
 exact List.mem_map.2 ⟨t,List.mem_range.2 ht,rfl⟩
theorem bFv{n:Nat}{AL:List dR}{p:gF}{N M:Nat}(h:JA n AL p N M)(ho:lz p.m.reqs≠[])(hl:AL.length<=900):
  ∃r,r∈p.m.reqs/\r.done=false/\r.id=(kY p.d p.m.reqs).next.2/\∃k',KS n (AL++[o_ AL.length]) k' /\
   p.step=(⟨k',{p.m with b8:=wD p.n AL.length r},(kY p.d p.m.reqs).next.1,p.n⟩,(3,0)):=by
 obtain⟨r,hr,hm,hid⟩:=h.rh.oJ ho
 obtain⟨g1,g2⟩:=h.rh.row
 have iW:=TD (d:=p.d) h.rh.reqs ho
 obtain⟨e1,xu⟩:=S0 g1 iW
 obtain⟨r',AK,uo,AD⟩:=bFp h.rh.d h.rh.reqs h.rh.ids _ xu
 have aii:r.done=false:=by
  obtain⟨i,hi,rfl⟩:=List.getElem_of_mem hm
  obtain⟨j,hj,rfl⟩:=List.getElem_of_mem AK
  have a1:=(h.rh.reqs.2 i hi).1.1
  have a2:=(h.rh.reqs.2 j hj).1.1
  have:i=j:=by omega
  subst this
  exact uo
 have kG:=h.rh.reqs.at hm
 obtain⟨k',e,hk⟩:=h.ks.mark (kind:=2) (mark:=(AL.length:Int)+1) (.inl rfl) (λaI ny=>Ey (.inl rfl) (by omega) ny) (by omega)
 refine⟨r,hm,aii,hid,k',hk,?_⟩
 have kP:p.m.b8.state=0:=by rw[h.b8]
 have gw:oE p.m=true:=decide_eq_true (.inr (.inr ⟨kP,ho⟩))
 unfold gF.step
 rw[if_neg (by rw[gw];decide),if_pos kP]
 unfold gF.xM gF.uB
 rw[hr]
 unfold gF.wk
 simp only[h.ks.head,e]
 rw[if_neg (by decide)]
 have ew:p.m.b8.pA ((AL.length:Int)+1) r.id r.table r.h_=wD p.n AL.length r:=by
  rw[h.b8]
  unfold ik.pA
  rw[if_neg]
  unfold ik.wo
  show ¬((0:Int)≠0\/_)
  omega
 rw[ew]
theorem bFt{n:Nat}{AL:List dR}{k':fR}{m:g7}{d:g_}{C h:Int}{r:Rq}(hk:KS n AL k')(hC:1<=C){t:Nat}(ht:t<n)(hrt:r.table=t):
  (⟨k',{m with b8:=wD C h r},d,C⟩:gF).step=(⟨k',{m with b8:=wE C h r (lK (mA t AL) r.h_ C)},d,C⟩,(4,0)):=by
 obtain⟨e1,e2⟩:=hk.row ht
 obtain⟨a1,a2⟩:=NJ e2 r.h_ C
 have gw:oE {m with b8:=wD C h r}=true:=decide_eq_true (.inl rfl)
 unfold gF.step
 rw[if_neg (by rw[gw];decide),if_neg (show ¬((1:Int)=0) by decide),if_pos rfl]
 have ec:k'.s9 r.table r.h_ C=lK (mA t AL) r.h_ C:=by unfold fR.s9;rw[hrt,e1]
 show ((⟨k',{m with b8:=(wD C h r).fill (k'.s9 r.table r.h_ C)},d,C⟩:gF),((4:Int),(0:Int)))=_
 rw[ec]
 have hle:((lK (mA t AL) r.h_ C).length:Int)<=C:=by
  unfold lK
  rw[List.length_take];omega
 have:(wD C h r).fill (lK (mA t AL) r.h_ C)=wE C h r (lK (mA t AL) r.h_ C):=by
  unfold ik.fill
  rw[if_neg]
  unfold ik.vP
  rw[TB _ _ a1 a2]
  show ¬((1:Int)≠1\/C<_\/true=false)
  rintro (h|h|h)
  ·exact h rfl
  ·omega
  ·cases h
 rw[this]
theorem bFu{n:Nat}{AL:List dR}{k':fR}{m:g7}{d:g_}{C:Int}{r:Rq}{R:List Row}{l:Nat}(hk:KS n AL k')(hl:AL.length=l+1)(Rp:l<=900):
  ∃En,KS n (AL++[px l]) En/\(⟨k',{m with b8:=wE C l r R},d,C⟩:gF).step=(⟨En,{m with b8:=Bj C l r R},d,C⟩,(5,0)):=by
 obtain⟨En,e,ow⟩:=hk.mark (kind:=3) (mark:=(l:Int)+1) (.inr rfl) (λaI ny=>Ey (.inr rfl) (by omega) ny) (by omega)
 refine⟨En,?_,?_⟩
 ·have:(⟨(AL.length:Int)+1,3,[],[],(l:Int)+1⟩:dR)=px l:=by rw[hl];simp only[dR.mk.injEq,and_true,true_and];omega
  rw[this]at ow
  exact ow
 ·have gw:oE {m with b8:=wE C l r R}=true:=decide_eq_true (.inr (.inl rfl))
  unfold gF.step
  rw[if_neg (by rw[gw];decide),if_neg (show ¬((2:Int)=0) by decide),if_neg (show ¬((2:Int)=1) by decide)]
  unfold gF.xm
  show (if (k'.mL 3 ((l:Int)+1)).2.2≠0 then _ else _)=_
  simp only[e]
  rfl
theorem bWf{m:g7}{C:Int}{l:Nat}{r:Rq}{R:List Row}(ha:m.at_=l)(hl:l<=900):
  ({m with b8:=Bj C l r R}:g7).take (o_ l)=({m with at_:=(l:Int)+1,b8:=oL C l r R},(⟨(l:Int)+1,[],[]⟩,0)):=by
 have hm:iM (o_ l)=true:=Ey (.inl rfl) (by omega) (by omega)
 unfold g7.take
 rw[if_neg (by rw[hm];decide),if_neg,if_neg (show ¬((2:Int)=1) by decide),if_neg (show ¬((2:Int)=3) by decide)]
 ·have:(Bj C l r R).low ((l:Int)+1)=oL C l r R:=by unfold ik.low;rw[if_pos ⟨rfl,rfl⟩]
  show (({m with at_:=(l:Int)+1,b8:=(Bj C l r R).low ((l:Int)+1)}:g7),_)=_
  rw[this]
 ·show ¬((l:Int)+1≠m.at_+1\/(Bj C l r R).waits 2 ((l:Int)+1)=true)
  rintro (h|h)
  ·omega
  ·have:=of_decide_eq_true h
   have:=this.2.2
   simp at this
theorem bWd{m:g7}{C:Int}{l:Nat}{r:Rq}{R:List Row}{j:Nat}(ha:m.at_=(l:Int)+1)(hl:l<=900)(hL:kx m.reqs)(hj:j<m.reqs.length)(hr:m.reqs[j]=r)(hd:r.done=false)(hR:∀x∈R,r.h_<x.key/\x.key<=1099511627776)(hc:r.chunks<=1000):
  ({m with b8:=oL C l r R}:g7).take (px l)=({m with at_:=(l:Int)+2,b8:=ko C,reqs:=m.reqs.set j (CR C r R)},(⟨(l:Int)+2,mv (oL C l r R) ((l:Int)+2),[uD (oL C l r R)]⟩,0)):=by
 have hm:iM (px l)=true:=Ey (.inr rfl) (by omega) (by omega)
 have kG:=hL.at (show r∈m.reqs by rw[<- hr];exact List.getElem_mem hj)
 have jO:=a_b hR (by omega)
 have hid:r.id=((j+1:Nat):Int):=by have:=(hL.2 j hj).1.1;rw[hr]at this;omega
 unfold g7.take
 rw[if_neg (by rw[hm];decide),if_neg,if_neg (show ¬((3:Int)=1) by decide),if_pos rfl]
 ·have hh:(oL C l r R).high ((l:Int)+1) ((l:Int)+2)=(ko C,some ⟨(l:Int)+2,mv (oL C l r R) ((l:Int)+2),[uD (oL C l r R)]⟩):=by
   unfold ik.high
   rw[if_neg]
   unfold ik.vf
   show ¬((4:Int)≠4\/((l:Int)+1)≠(l:Int)+1\/(l:Int)+2<1\/1099511627776<(l:Int)+2)
   omega
  have na:pI m.reqs r.id (mw r.h_ R) (decide ((R.length:Int)<C))=some (m.reqs.set j (CR C r R)):=by
   rw[hid,Oa hL hj,hr,if_neg]
   ·rfl
   ·rw[hd]
    rintro (h|h|h|h)
    ·cases h
    ·omega
    ·omega
    ·omega
  have hq:({m with at_:=(l:Int)+2,b8:=oL C l r R}:g7).high (px l)=({m with at_:=(l:Int)+2,b8:=ko C,reqs:=m.reqs.set j (CR C r R)},⟨(l:Int)+2,mv (oL C l r R) ((l:Int)+2),[uD (oL C l r R)]⟩):=by
   unfold g7.high
   split
   ·rename_i heq
    have:=hh.symm.trans heq
    cases this
   ·rename_i w x heq
    have e:=hh.symm.trans heq
    cases e
    split
    ·rename_i hn
     have:=na.symm.trans hn
     cases this
    ·rename_i L hL
     cases na.symm.trans hL
     rfl
  show ((({m with at_:=(l:Int)+2,b8:=oL C l r R}:g7).high (px l)).1,((({m with at_:=(l:Int)+2,b8:=oL C l r R}:g7).high (px l)).2,(0:Int)))=_
  rw[hq]
 ·show ¬((l:Int)+2≠m.at_+1\/(oL C l r R).waits 3 ((l:Int)+1)=true)
  rintro (h|h)
  ·omega
  ·have:=of_decide_eq_true h
   have:=this.1
   omega
def uU(T:List Row):Nat->Int
 | 0=>0
 | i+1=>(T[i]?.map (·.key)).getD 0
theorem FX{T:List Row}{i:Nat}(h:i<T.length):uU T (i+1)=T[i].key:=by
 show (T[i]?.map (·.key)).getD 0=_
 rw[List.getElem?_eq_getElem h];rfl
theorem Va{T:List Row}(h:oN T){i:Nat}(hi:i<=T.length):T.filter (λr=>decide (uU T i<r.key))=T.drop i:=by
 have hs:=List.pairwise_iff_getElem.1 h.sorted
 have h1:(T.take i).filter (λr=>decide (uU T i<r.key))=[]:=by
  rw[List.filter_eq_nil_iff]
  intro x hx
  obtain⟨j,hj,rfl⟩:=List.getElem_of_mem hx
  rw[List.length_take]at hj
  match i,hi,hj with
  | i+1,hi,hj=>
   rw[FX (by omega),List.getElem_take]
   have:T[j].key<=T[i].key:=by
    rcases Nat.lt_or_ge j i with ix|sE
    ·exact Int.le_of_lt (hs j i (by omega) (by omega) ix)
    ·have:j=i:=by omega
     subst this;exact Int.le_refl _
   simp only[decide_eq_true_eq];omega
 have h2:(T.drop i).filter (λr=>decide (uU T i<r.key))=T.drop i:=by
  rw[List.filter_eq_self]
  intro x hx
  obtain⟨j,hj,rfl⟩:=List.getElem_of_mem hx
  rw[List.length_drop]at hj
  rw[List.getElem_drop,decide_eq_true_eq]
  match i,hi with
  | 0,_=>
   have:=(h.rows _ (List.getElem_mem (show 0+j<T.length by omega))).1
   show (0:Int)<_
   omega
  | i+1,hi=>
   rw[FX (by omega)]
   exact hs i (i+1+j) (by omega) (by omega) (by omega)
 conv=>lhs;rw[<- List.take_append_drop i T]
 rw[List.filter_append]
 have e:(λr:Row=>decide (uU (T.take i++T.drop i) i<r.key))=λr:Row=>decide (uU T i<r.key):=by rw[List.take_append_drop]
 rw[e,h1,h2,List.nil_append]
structure Da(T:List Row)(C c:Nat)(r:Rq):Prop where
 h_:r.h_=uU T (min (c*C) T.length)
 chunks:r.chunks=c
 done:r.done=decide (T.length / C+1<=c)
 le:c<=T.length / C+1
theorem Da.next{T:List Row}{C c:Nat}{r:Rq}(h:Da T C c r)(hT:oN T)(hC:1<=C)(hd:r.done=false):
  c*C<=T.length/\lK T r.h_ C=(T.drop (c*C)).take C/\Da T C (c+1) (CR C r (lK T r.h_ C)):=by
 have hc:c<=T.length / C:=by
  have:=h.done
  rw[hd]at this
  have:=of_decide_eq_false this.symm
  omega
 have hm:c*C<=T.length:=Nat.le_trans (Nat.mul_le_mul_right C hc) (Nat.div_mul_le_self _ _)
 have P7:r.h_=uU T (c*C):=by rw[h.h_,Nat.min_eq_left hm]
 have ea:lK T r.h_ C=(T.drop (c*C)).take C:=by
  unfold lK
  rw[P7,Va hT hm,Int.toNat_natCast]
 have hlen:((T.drop (c*C)).take C).length=min C (T.length-c*C):=by rw[List.length_take,List.length_drop]
 have cwv:(c+1)*C=c*C+C:=Nat.succ_mul c C
 have hdiv:T.length / C<c+1↔T.length<(c+1)*C:=Nat.div_lt_iff_lt_mul hC
 refine⟨hm,ea,?_,?_,?_,by omega⟩
 ·show mw r.h_ (lK T r.h_ C)=_
  rw[ea]
  unfold mw
  rcases Nat.eq_zero_or_pos (T.length-c*C) with hz|hz
  ·have e0:(T.drop (c*C)).take C=[]:=List.eq_nil_of_length_eq_zero (by rw[hlen,hz];omega)
   rw[e0,P7]
   show uU T (c*C)=_
   congr 1
   omega
  ·have xC:0<((T.drop (c*C)).take C).length:=by rw[hlen];omega
   rw[List.getLast?_eq_getElem?,List.getElem?_eq_getElem (by omega)]
   have ek:min ((c+1)*C) T.length=(c*C+(min C (T.length-c*C)-1))+1:=by omega
   rw[ek,FX (by omega)]
   simp only[Option.map_some,Option.getD_some,List.getElem_take,List.getElem_drop,hlen]
 ·show r.chunks+1=((c+1:Nat):Int)
  rw[h.chunks];omega
 ·show decide (((lK T r.h_ C).length:Int)<C)=_
  rw[ea,hlen,decide_eq_decide]
  omega
structure vH(n C:Nat)(T:Nat->List Row)(Wt:Nat->Int)(cs:Nat->Nat)(AL:List dR)(p:gF)(N M:Nat):Prop where
 rs:JA n AL p N M
 nn:p.n=C
 c1:1<=C
 len:p.m.reqs.length=n
 rq:∀t (h:t<p.m.reqs.length),p.m.reqs[t].table=t/\p.m.reqs[t].weight=Wt t/\Da (T t) C (cs t) p.m.reqs[t]
 EW:∀t,t<n->mA t AL=T t
theorem vH.open_{n C:Nat}{T:Nat->List Row}{Wt:Nat->Int}{cs:Nat->Nat}{AL:List dR}{p:gF}{N M:Nat}(h:vH n C T Wt cs AL p N M):lz p.m.reqs≠[]↔∃t,t<n/\cs t<=(T t).length / C:=by
 constructor
 ·intro ho
  match hq:lz p.m.reqs,ho with
  | r::_,_=>
   obtain⟨h1,h2⟩:=List.mem_filter.1 (show r∈lz p.m.reqs by rw[hq];exact .head _)
   obtain⟨t,ht,rfl⟩:=List.getElem_of_mem h1
   have hd:=(h.rq t ht).2.2.done
   refine⟨t,by rw[<- h.len];exact ht,?_⟩
   cases hb:p.m.reqs[t].done with
   | true=>simp[hb]at h2
   | false=>
    rw[hb]at hd
    have:=of_decide_eq_false hd.symm
    omega
 ·rintro ⟨t,ht,hc⟩ e
  have rA:t<p.m.reqs.length:=by rw[h.len];exact ht
  have hd:=(h.rq t rA).2.2.done
  rw[decide_eq_false (by omega)]at hd
  have:p.m.reqs[t]∈lz p.m.reqs:=List.mem_filter.2 ⟨List.getElem_mem _,by rw[hd];rfl⟩
  rw[e]at this
  cases this
theorem vH.ready{n C:Nat}{T:Nat->List Row}{Wt:Nat->Int}{cs:Nat->Nat}{AL:List dR}{p:gF}{N M:Nat}(h:vH n C T Wt cs AL p N M):oE p.m=true↔lz p.m.reqs≠[]:=by
 have hw:=h.rs.b8
 unfold oE
 rw[decide_eq_true_eq,hw]
 constructor
 ·rintro (h|h|h)
  ·exact absurd (show (0:Int)=1 from h) (by decide)
  ·exact absurd (show (0:Int)=2 from h) (by decide)
  ·exact h.2
 ·exact λh=>.inr (.inr ⟨rfl,h⟩)
structure JB(n C:Nat)(T:Nat->List Row)(Wt:Nat->Int)(cs:Nat->Nat)(AL:List dR)(p:gF)(N M:Nat)(t:Nat)(p1 p2 p3 p4 p5:gF)(y4 y5:sX):Prop where
 tl:t<n
 cl:cs t<=(T t).length / C
 oJ:(kY p.d p.m.reqs).next.2=(t:Int)+1
 de:p5.d=(kY p.d p.m.reqs).next.1/\p1.d=p5.d
 s1:p.step=(p1,(3,0))
 s2:p1.step=(p2,(4,0))
 s3:p2.step=(p3,(5,0))
 r1:oE p1.m=true/\p1.m.at_=AL.length/\p1.k.jK ((AL.length:Int)+1)= .ok (o_ AL.length)/\p1.m.b8.waits 2 ((AL.length:Int)+1)=true
 r2:oE p2.m=true/\p2.m.at_=AL.length/\p2.k.jK ((AL.length:Int)+1)= .ok (o_ AL.length)/\p2.m.b8.waits 2 ((AL.length:Int)+1)=true
 r3:p3.m.at_=AL.length/\p3.k.jK ((AL.length:Int)+1)= .ok (o_ AL.length)/\p3.m.b8.waits 2 ((AL.length:Int)+1)=false
 t3:p3.m.take (o_ AL.length)=(p4.m,(y4,0))/\p4={p3 with m:=p4.m}
 r4:p4.m.at_=(AL.length:Int)+1/\p4.k.jK ((AL.length:Int)+2)= .ok (px AL.length)/\p4.m.b8.waits 3 ((AL.length:Int)+1)=false
 t4:p4.m.take (px AL.length)=(p5.m,(y5,0))/\p5={p4 with m:=p5.m}
 EW:p1.m.b8.table=t
 ops:y5.ops=(((T t).drop (cs t*C)).take C).map λr=>⟨(AL.length:Int)+2,t,r.key,false,r.val⟩
 Pn:p1.Good (N+2000)/\p1.k.d.ops<=M+3
 Po:p2.Good (N+4000)/\p2.k.d.ops<=M+6
 Pp:p3.Good (N+6000)/\p3.k.d.ops<=M+9
 Pq:p4.Good (N+6000)/\p4.k.d.ops<=M+9
 lH:∀s,s<n->lk p4.k.ts (s:Int)=T s
 rt:vH n C T Wt (λs=>if s=t then cs s+1 else cs s) (AL++[o_ AL.length,px AL.length]) p5 (N+6000) (M+9)
theorem vH.round{n C:Nat}{T:Nat->List Row}{Wt:Nat->Int}{cs:Nat->Nat}{AL:List dR}{p:gF}{N M:Nat}(h:vH n C T Wt cs AL p N M)(ho:lz p.m.reqs≠[])(hl:AL.length<=900)(hT:∀t,t<n->(T t).length<=900):∃t p1 p2 p3 p4 p5 y4 y5,JB n C T Wt cs AL p N M t p1 p2 p3 p4 p5 y4 y5:=by
 obtain⟨r,hrm,gw,hid,k1,rn,s1⟩:=bFv h.rs ho hl
 obtain⟨t,rA,rfl⟩:=List.getElem_of_mem hrm
 have ht:t<n:=by rw[<- h.len];exact rA
 obtain⟨q1,q2,q3⟩:=h.rq t rA
 have py:=(h.rs.ks.row ht).2
 rw[h.EW t ht]at py
 obtain⟨hm,ha,o7⟩:=q3.next py h.c1 gw
 have D6:=h.nn
 have aFh:=(h.rs.rh.reqs.2 t rA).1.1
 have Pw:(AL++[o_ AL.length]).length=AL.length+1:=by simp
 have ft:∀s,s<n->mA s (AL++[o_ AL.length])=T s:=λs hs=>by rw[Pb _ _ _ rfl,h.EW s hs]
 have s2:=bFt (m:=p.m) (d:=(kY p.d p.m.reqs).next.1) (C:=p.n) (h:=AL.length) (r:=p.m.reqs[t]) rn (by rw[D6];have:=h.c1;omega) ht q1
 rw[ft t ht]at s2
 have X8:lK (T t) p.m.reqs[t].h_ p.n=((T t).drop (cs t*C)).take C:=by rw[D6];exact ha
 rw[<- D6]at o7
 obtain⟨a1,a2⟩:=NJ py p.m.reqs[t].h_ p.n
 generalize hR:lK (T t) p.m.reqs[t].h_ p.n=R at *
 obtain⟨k3,vh,s3⟩:=bFu (m:=p.m) (d:=(kY p.d p.m.reqs).next.1) (C:=p.n) (r:=p.m.reqs[t]) (R:=R) rn Pw hl
 have kG:=h.rs.at_
 have t3:=bWf (m:=p.m) (C:=p.n) (r:=p.m.reqs[t]) (R:=R) kG hl
 have na:p.m.reqs[t].chunks<=1000:=by
  have h1:=q3.chunks
  have h2:=q3.le
  have h3:=hT t ht
  have:=Nat.div_le_self (T t).length C
  omega
 have t4:=bWd (m:={p.m with at_:=(AL.length:Int)+1}) (C:=p.n) (r:=p.m.reqs[t]) (R:=R) rfl hl h.rs.rh.reqs rA rfl gw a2 na
 have g1:=h.rs.rh.step
 have o1:=C0 p
 rw[s1]at g1 o1
 have g2:=g1.step
 have o2:=C0 (p:=(⟨k1,{p.m with b8:=wD p.n AL.length p.m.reqs[t]},(kY p.d p.m.reqs).next.1,p.n⟩:gF))
 rw[s2]at o2
 simp only at g2
 rw[s2]at g2
 have g3:=g2.step
 have o3:=C0 (p:=(⟨k1,{p.m with b8:=wE p.n AL.length p.m.reqs[t] R},(kY p.d p.m.reqs).next.1,p.n⟩:gF))
 rw[s3]at o3
 simp only at g3
 rw[s3]at g3
 have g4:=g3.take (o_ AL.length)
 simp only at g4
 rw[t3]at g4
 have g5:=g4.take (px AL.length)
 simp only at g5
 rw[t4]at g5
 have iO:=h.rs.ops
 simp only at o1 o2 o3
 have Px:AL++[o_ AL.length]++[px AL.length]=AL++[o_ AL.length,px AL.length]:=by simp
 rw[Px]at vh
 have Tq:k1.jK ((AL.length:Int)+1)= .ok (o_ AL.length):=by
  rw[rn.read (j:=AL.length) (by rw[Pw];omega)]
  simp
 have rd3:k3.jK ((AL.length:Int)+1)= .ok (o_ AL.length):=by
  rw[vh.read (j:=AL.length) (by simp)]
  simp
 have rd4:k3.jK ((AL.length:Int)+2)= .ok (px AL.length):=by
  have:=vh.read (j:=AL.length+1) (by simp)
  rw[show (((AL.length+1:Nat):Int)+1)=(AL.length:Int)+2 by omega]at this
  rw[this]
  simp
 have Pe:∀s,s<n->mA s (AL++[o_ AL.length,px AL.length])=T s:=λs hs=>by rw[<- Px,Pb _ _ _ rfl,ft s hs]
 refine⟨t,⟨k1,{p.m with b8:=wD p.n AL.length p.m.reqs[t]},(kY p.d p.m.reqs).next.1,p.n⟩,⟨k1,{p.m with b8:=wE p.n AL.length p.m.reqs[t] R},(kY p.d p.m.reqs).next.1,p.n⟩,⟨k3,{p.m with b8:=Bj p.n AL.length p.m.reqs[t] R},(kY p.d p.m.reqs).next.1,p.n⟩,⟨k3,{p.m with at_:=(AL.length:Int)+1,b8:=oL p.n AL.length p.m.reqs[t] R},(kY p.d p.m.reqs).next.1,p.n⟩,⟨k3,{p.m with at_:=(AL.length:Int)+2,b8:=ko p.n,reqs:=p.m.reqs.set t (CR p.n p.m.reqs[t] R)},(kY p.d p.m.reqs).next.1,p.n⟩,⟨(AL.length:Int)+1,[],[]⟩,⟨(AL.length:Int)+2,mv (oL p.n AL.length p.m.reqs[t] R) ((AL.length:Int)+2),[uD (oL p.n AL.length p.m.reqs[t] R)]⟩,?_⟩
 refine⟨ht,?_,by rw[<- hid,aFh],⟨rfl,rfl⟩,s1,s2,s3,⟨decide_eq_true (.inl rfl),kG,Tq,decide_eq_true ⟨rfl,rfl,.inl rfl⟩⟩,⟨decide_eq_true (.inr (.inl rfl)),kG,Tq,decide_eq_true ⟨rfl,rfl,.inr rfl⟩⟩,⟨kG,rd3,decide_eq_false λh=>?_⟩,⟨t3,rfl⟩,⟨rfl,rd4,decide_eq_false λh=>?_⟩,⟨t4,rfl⟩,q1,?_,⟨g1,show k1.d.ops<=M+3 by omega⟩,⟨g2,show k1.d.ops<=M+6 by omega⟩,⟨g3,show k3.d.ops<=M+9 by omega⟩,⟨g4,show k3.d.ops<=M+9 by omega⟩,λs hs=>?_,?_⟩
 ·have hd:=q3.done
  rw[gw]at hd
  have:=of_decide_eq_false hd.symm
  omega
 ·have:=h.2.2
  simp at this
 ·have:=h.1
  simp at this
 ·show mv (oL p.n AL.length p.m.reqs[t] R) ((AL.length:Int)+2)=_
  unfold mv
  show R.map (λr=>(⟨(AL.length:Int)+2,p.m.reqs[t].table,r.key,false,r.val⟩:pd))=_
  rw[q1,X8]
 ·rw[(vh.row hs).1,Pe s hs]
 ·refine⟨⟨vh,rfl,by show (AL.length:Int)+2=_;simp,g5,by show k3.d.ops<=_;omega⟩,D6,h.c1,by show (p.m.reqs.set t _).length=n;rw[List.length_set];exact h.len,λs hs=>?_,Pe⟩
  have nf:s<p.m.reqs.length:=by rw[List.length_set]at hs;exact hs
  show (p.m.reqs.set t _)[s].table=_/\_
  rw[List.getElem_set]
  by_cases e:t=s
  ·subst e
   rw[if_pos rfl]
   simp only[if_true]
   refine⟨q1,q2,?_⟩
   exact o7
  ·rw[if_neg e]
   simp only[if_neg (λe2:s=t=>e e2.symm)]
   exact h.rq s nf
def pV(t w:Nat):ByteArray:=⟨(rF++[UInt8.ofNat (48+t),32,UInt8.ofNat (48+w)]).toArray⟩
theorem bRe{t w:Nat}(ht:t<8)(w1:1<=w)(w8:w<=8):A5 (pV t w)=some ((t:Int),(w:Int)):=by
 have h1:(UInt8.ofNat (48+t)).toNat=48+t:=by rw[UInt8.toNat_ofNat'];omega
 have h2:(UInt8.ofNat (48+w)).toNat=48+w:=by rw[UInt8.toNat_ofNat'];omega
 have e:(pV t w).data.toList=rF++[UInt8.ofNat (48+t),32,UInt8.ofNat (48+w)]:=by simp[pV]
 unfold A5
 rw[e,List.take_left' (show rF.length=9 from rfl),List.drop_left' (show rF.length=9 from rfl),if_pos rfl]
 show (if (48<=(UInt8.ofNat (48+t)).toNat/\(UInt8.ofNat (48+t)).toNat<=55)/\(32:UInt8).toNat=32/\49<=(UInt8.ofNat (48+w)).toNat/\(UInt8.ofNat (48+w)).toNat<=56 then some (((UInt8.ofNat (48+t)).toNat:Int)-48,((UInt8.ofNat (48+w)).toNat:Int)-48) else none)=_
 rw[h1,h2,if_pos ⟨⟨by omega,by omega⟩,rfl,by omega,by omega⟩]
 simp only[Option.some.injEq,Prod.mk.injEq]
 omega
theorem bRf(t w:Nat):(pV t w).size=12:=rfl
def mM(base:Nat)(Wt:Nat->Nat)(s:Nat):List Rq:=(List.range s).map λt:Nat=>⟨(t:Int)+1,t,Wt t,((base+t:Nat):Int)+1,0,0,false⟩
theorem IF(base:Nat)(Wt:Nat->Nat)(s:Nat):(mM base Wt s).length=s:=by simp[mM]
theorem Ba{base:Nat}{Wt:Nat->Nat}{s t:Nat}(h:t<(mM base Wt s).length):(mM base Wt s)[t]=⟨(t:Int)+1,t,Wt t,((base+t:Nat):Int)+1,0,0,false⟩:=by simp[mM]
theorem bFr(base:Nat)(Wt:Nat->Nat)(s:Nat):mM base Wt (s+1)=mM base Wt s++[CQ (mM base Wt s) s (Wt s) (((base+s:Nat):Int)+1)]:=by
 unfold mM CQ
 rw[List.range_succ,List.map_append,List.map_singleton,List.length_map,List.length_range]
 simp
theorem IG{base:Nat}{Wt:Nat->Nat}{s:Nat}(hb:base<=1000)(hw:∀t,t<s->1<=Wt t/\Wt t<=8)(hs:s<=8):kx (mM base Wt s):=by
 refine⟨by rw[IF];omega,λi hi=>?_⟩
 have AD:=hi
 rw[IF]at AD
 have:=hw i AD
 refine⟨?_,λh0=>?_,λk hk=>?_⟩
 ·rw[Ba]
  exact⟨rfl,Int.natCast_nonneg _,by show (i:Int)<8;omega,by show 1<=(Wt i:Int);omega,by show (Wt i:Int)<=8;omega,by show (1:Int)<=((base+i:Nat):Int)+1;omega,by show ((base+i:Nat):Int)+1<=1099511627776;omega,Int.le_refl _,by show (0:Int)<=1099511627776;decide,Int.le_refl _,by show (0:Int)<=1099511627776;decide⟩
 ·rw[Ba,Ba]
  simp only
  omega
 ·rw[Ba,Ba]
  simp only
  omega
structure oO(n base:Nat)(Wt:Nat->Nat)(s:Nat)(AL:List dR)(k:fR)(N M:Nat):Prop where
 ks:KS n AL k
 len:AL.length=base+s
 BE:∀j (h:j<AL.length),j<base->AL[j].kind=1/\AL[j].signals=[]
 sig:∀t (h:base+t<AL.length),AL[base+t].kind=1/\AL[base+t].changes=[]/\AL[base+t].signals=[pV t (Wt t)]
 ok:mY k N
 ops:k.d.ops<=M
theorem oO.init{n:Nat}(Wt:Nat->Nat)(n1:1<=n)(n8:n<=8){size:Int}(s0:64<=size)(s1:size<=65536):oO n 0 Wt 0 [] (o9 n size) 0 0:=
 ⟨KS.init n1 n8 s0 s1,rfl,λj h=>by simp at h,λt h=>by simp at h,T3 n1 n8 s0 s1,Nat.le_refl _⟩
theorem oO.ta{n base:Nat}{Wt:Nat->Nat}{AL:List dR}{k:fR}{N M:Nat}(h:oO n base Wt 0 AL k N M){c:ig}(hc:lF c 8=true)(hn:ki n c=true)(hb:base<=400)(hf:(AL.flatMap (·.changes)).length<=base):
  ∃k',k.mR [] [c]=(k',((base:Int)+1,0))/\oO n (base+1) Wt 0 (AL++[⟨(base:Int)+1,1,[c],[],0⟩]) k' (N+2000) (M+3):=by
 have hl:=h.len
 obtain⟨k',e,hk⟩:=h.ks.ta (sg:=[]) (l:=[c]) (show 1<=16 by decide) (λx hx=>by rw[List.mem_singleton.1 hx];exact hc) (by decide) (by simp) (λx hx=>by rw[List.mem_singleton.1 hx];exact hn) (by omega) (by show _+1<=1000;omega)
 have b5:=h.ok.ta [] [c]
 have iX:=FV k [] [c]
 have hM:=h.ops
 rw[e]at b5 iX
 rw[show AL.length=base by omega]at e hk
 refine⟨k',e,hk,by rw[List.length_append];simp;omega,λj hj Rk=>?_,λt ht=>?_,b5,by simp only at iX;omega⟩
 ·rw[List.getElem_append]
  split
  ·rename_i h2
   exact h.BE j h2 (by omega)
  ·simp
 ·rw[List.length_append]at ht
  simp at ht
  omega
theorem oO.bRg{n base s:Nat}{Wt:Nat->Nat}{AL:List dR}{k:fR}{N M:Nat}(h:oO n base Wt s AL k N M)(hb:base<=500)(hs:s<=8)(hf:(AL.flatMap (·.changes)).length<=base):
  ∃k',k.mR [pV s (Wt s)] []=(k',(((base+s:Nat):Int)+1,0))/\oO n base Wt (s+1) (AL++[⟨((base+s:Nat):Int)+1,1,[],[pV s (Wt s)],0⟩]) k' (N+2000) (M+3):=by
 have hl:=h.len
 obtain⟨k',e,hk⟩:=h.ks.ta (sg:=[pV s (Wt s)]) (l:=[]) (by decide) (by simp) (show 1<=2 by decide) (λx hx=>by rw[List.mem_singleton.1 hx,bRf];decide) (by simp) (by omega) (by show _+0<=1000;omega)
 have b5:=h.ok.ta [pV s (Wt s)] []
 have iX:=FV k [pV s (Wt s)] []
 have hM:=h.ops
 rw[e]at b5 iX
 rw[hl]at e hk
 refine⟨k',e,hk,by rw[List.length_append];simp;omega,λj hj Rk=>?_,λt ht=>?_,b5,by simp only at iX;omega⟩
 ·rw[List.getElem_append]
  split
  ·rename_i h2
   exact h.BE j h2 Rk
  ·simp
   omega
 ·rw[List.getElem_append]
  split
  ·rename_i h2
   exact h.sig t h2
  ·rename_i h2
   rw[List.length_append]at ht
   have:t=s:=by simp at ht;omega
   subst this
   simp
abbrev vp(n:Nat)(late C:Int)(base:Nat)(Wt:Nat->Nat)(i:Nat):g7:=⟨n,late,i,mM base Wt (i-base),ko C⟩
theorem oO.take{n base s:Nat}{Wt:Nat->Nat}{AL:List dR}{k:fR}{N M:Nat}(h:oO n base Wt s AL k N M)(late C:Int)(hb:base<=500)(hs:s<=n)(n8:n<=8)(hw:∀t,t<s->1<=Wt t/\Wt t<=8){i:Nat}(hi:i<AL.length):
  ((vp n late C base Wt i).take AL[i]).1=vp n late C base Wt (i+1)/\((vp n late C base Wt i).take AL[i]).2.2=0/\AL[i].kind=1/\AL[i].mark=0:=by
 have hl:=h.len
 have wc:=h.ks.vO.ok.may _ (List.getElem_mem hi)
 have ny:=h.ks.vO.ok.aI i hi
 have rn:AL[i].kind=1:=by
  rcases Nat.lt_or_ge i base with ix|sE
  ·exact (h.BE i hi ix).1
  ·obtain⟨t,rfl⟩:∃t,i=base+t:=⟨i-base,by omega⟩
   exact (h.sig t hi).1
 have uv:AL[i].mark=0:=by
  obtain⟨_,h2⟩:=uC.1 wc
  rcases h2 with h2|h2
  ·exact h2.2.1
  ·have:=h2.1;omega
 have BX:((⟨n,late,(i:Int)+1,mM base Wt (i-base),ko C⟩:g7).j1 ((i:Int)+1) AL[i].signals).1=⟨n,late,(i:Int)+1,mM base Wt (i+1-base),ko C⟩:=by
  rcases Nat.lt_or_ge i base with ix|sE
  ·rw[(h.BE i hi ix).2,show i+1-base=i-base by omega]
   rfl
  ·obtain⟨t,rfl⟩:∃t,i=base+t:=⟨i-base,by omega⟩
   have lX:t<s:=by omega
   obtain⟨w1,w8⟩:=hw t lX
   rw[(h.sig t hi).2.2,show base+t+1-base=t+1 by omega,show base+t-base=t by omega]
   have ha:(⟨n,late,((base+t:Nat):Int)+1,mM base Wt t,ko C⟩:g7).accept (pV t (Wt t)) (((base+t:Nat):Int)+1)=(mM base Wt (t+1),[⟨1,((mM base Wt (t+1)).length:Nat),t,Wt t,((base+t:Nat):Int)+1,0,false⟩]):=by
    unfold g7.accept
    rw[bRe (by omega) w1 w8]
    have Ax:su (mM base Wt t) (t:Int) (Wt t:Int) (((base+t:Nat):Int)+1)=some (mM base Wt (t+1)):=by
     unfold su
     rw[<- bFr,if_pos ⟨IG (by omega) (λx hx=>hw x (by omega)) (by omega),IG (by omega) (λx hx=>hw x (by omega)) (by omega)⟩]
    show (if (n:Int)<=(t:Int) then _ else match su (mM base Wt t) (t:Int) (Wt t:Int) (((base+t:Nat):Int)+1) with|none=>_|some L=>_)=_
    rw[if_neg (by omega),Ax]
   unfold g7.j1
   rw[ha]
   rfl
 unfold g7.take
 rw[if_neg (by rw[wc];decide),if_neg,if_pos rn]
 ·refine⟨?_,rfl,rn,uv⟩
  show ((⟨n,late,AL[i].aI,mM base Wt (i-base),ko C⟩:g7).wU AL[i]).1=_
  rw[ny]
  unfold g7.wU
  simp only[ny,BX]
  have:(ko C).vv AL[i].changes=ko C:=by unfold ik.vv;rw[if_neg (show ¬((0:Int)=4) by decide)]
  rw[this]
  show _=(⟨n,late,((i+1:Nat):Int),mM base Wt (i+1-base),ko C⟩:g7)
  rw[show (((i+1:Nat):Int))=(i:Int)+1 by omega]
 ·rw[ny,rn]
  show ¬((i:Int)+1≠(i:Int)+1\/(ko C).waits 1 AL[i].mark=true)
  rintro (h|h)
  ·exact h rfl
  ·have:=(of_decide_eq_true h).1
   omega
def n4(f:Nat->Nat):Nat->Nat
 | 0=>0
 | n+1=>n4 f n+f n
theorem Ue{f:Nat->Nat}{t:Nat}:∀n,n4 (λs=>if s=t then f s+1 else f s) n=n4 f n+(if t<n then 1 else 0)
 | 0=>rfl
 | n+1=>by
  show n4 _ n+(if n=t then f n+1 else f n)=n4 f n+f n+_
  rw[Ue n]
  by_cases e:n=t
  ·subst e
   rw[if_pos rfl,if_neg (Nat.lt_irrefl _),if_pos (Nat.lt_succ_self _)]
   omega
  ·rw[if_neg e]
   by_cases h:t<n
   ·rw[if_pos h,if_pos (by omega)];omega
   ·rw[if_neg h,if_neg (by omega)];omega
theorem I0{f:Nat->Nat}{K:Nat}:∀n,(∀t,t<n->f t<=K)->n4 f n<=n*K
 | 0,_=>Nat.zero_le _
 | n+1,h=>by
  have h1:=I0 n λt ht=>h t (by omega)
  have h2:=h n (by omega)
  show n4 f n+f n<=_
  rw[Nat.succ_mul];omega
theorem Uf:∀n,n4 (λ_=>0) n=0
 | 0=>rfl
 | n+1=>by show n4 (λ_=>0) n+0=0;rw[Uf n]
structure Nz(n C base:Nat)(T:Nat->List Row)(Wt:Nat->Nat)(i:Nat)(cs:Nat->Nat)(AL:List dR)(p:gF)(tl:List Nat):Prop where
 st:vH n C T (λt=>(Wt t:Int)) cs AL p (100000+6000*n4 cs n) (1000+9*n4 cs n)
 len:AL.length=base+n+2*n4 cs n
 it:i<=28+5*n4 cs n
 tn:tl.length=n
 tl:∀t (h:t<tl.length),tl[t]=min (cs t*C) (T t).length
def rN(n C base:Nat)(T:Nat->List Row)(Wt:Nat->Nat)(i:Nat)(p:gF)(tl:List Nat):Prop:=
 (∃AL k late,i<base+n/\p=⟨k,vp n late C base Wt i,lT,C⟩/\oO n base Wt n AL k 60000 100/\tl=List.replicate n 0/\∀t,t<n->mA t AL=T t) \/
 (∃cs AL,Nz n C base T Wt i cs AL p tl) \/
 ∃cs AL i0 p0 t p1 p2 p3 p4 p5 y4 y5,Nz n C base T Wt i0 cs AL p0 tl/\JB n C T (λt=>(Wt t:Int)) cs AL p0 (100000+6000*n4 cs n) (1000+9*n4 cs n) t p1 p2 p3 p4 p5 y4 y5 /\
  ((p=p1/\i<=i0+1)\/(p=p2/\i<=i0+2)\/(p=p3/\i<=i0+3)\/(p=p4/\i<=i0+4))
def Ny(n C:Nat)(T:Nat->List Row)(p:gF)(tl:List Nat):Prop:=p.m.reqs.length=n/\tl.length=n/\∀t (h:t<p.m.reqs.length) (h':t<tl.length),p.m.reqs[t].table=t/\p.m.reqs[t].done=true/\p.m.reqs[t].chunks=(((T t).length / C+1:Nat):Int)/\tl[t]=(T t).length/\lk p.k.ts (t:Int)=T t
structure U6(n C base:Nat)(T:Nat->List Row)(Wt:Nat->Nat)(i:Nat)(p:gF)(tl:List Nat):Prop where
 it:i<4000
 rh:p.Good 800000000
 ops:p.k.d.ops<=80000
 tn:tl.length=n
 go:(∃e,e≠0/\p.k.jK (p.m.at_+1)= .error e/\oE p.m=false/\Ny n C T p tl) \/
  (((∃e,e≠0/\p.k.jK (p.m.at_+1)= .error e)\/∃t,p.k.jK (p.m.at_+1)= .ok t/\p.m.b8.waits t.kind t.mark=true)/\oE p.m=true/\∃p' d,p.step=(p',(d,0))/\rN n C base T Wt (i+1) p' tl) \/
  (∃t,p.k.jK (p.m.at_+1)= .ok t/\p.m.b8.waits t.kind t.mark=false/\t.kind≠3/\(p.m.take t).2.2=0/\rN n C base T Wt (i+1) {p with m:=(p.m.take t).1} tl) \/
  ∃t s a,p.k.jK (p.m.at_+1)= .ok t/\p.m.b8.waits t.kind t.mark=false/\t.kind=3/\(p.m.take t).2.2=0/\s<n/\lk p.k.ts (s:Int)=T s/\tl[s]?=some a/\a<=(T s).length/\(p.m.take t).2.1.ops=(((T s).drop a).take C).map (λr=>(⟨t.aI,s,r.key,false,r.val⟩:pd)) /\
   rN n C base T Wt (i+1) {p with m:=(p.m.take t).1} (tl.set s (min (a+C) (T s).length))
theorem Pr{n base:Nat}{Wt:Nat->Nat}{AL:List dR}{k:fR}{N M:Nat}(h:oO n base Wt n AL k N M)(late:Int){C:Nat}(hC:1<=C/\C<=64)(n1:1<=n)(n8:n<=8)(hb:base<=500)(hw:∀t,t<n->1<=Wt t/\Wt t<=8){i:Nat}(hi:i<=base+n):(⟨k,vp n late C base Wt i,lT,C⟩:gF).Good N:=
 ⟨IG (by omega) (λt ht=>hw t (by omega)) (by omega),⟨by show (1:Int)<=n;omega,by show (n:Int)<=8;omega⟩,⟨Int.natCast_nonneg _,by show (i:Int)<=_;omega⟩,by show (C:Int)<=64;omega,by show 0<=64;decide,by show (0:Int)<=0/\(0:Int)<=64;decide,OH,(λm hm=>by cases hm),⟨by show (1:Int)<=C;omega,by show (C:Int)<=64;omega⟩,h.ok⟩
theorem rN.start{n C base:Nat}{T:Nat->List Row}{Wt:Nat->Nat}{AL:List dR}{k:fR}{late:Int}(hI:oO n base Wt n AL k 60000 100)(hC:1<=C/\C<=64)(n1:1<=n)(n8:n<=4)(hb:base<=24)(hw:∀t,t<n->1<=Wt t/\Wt t<=8)(hT:∀t,t<n->mA t AL=T t){i:Nat}(hi:i<=base+n):
  rN n C base T Wt i ⟨k,vp n late C base Wt i,lT,C⟩ (List.replicate n 0):=by
 rcases Nat.lt_or_ge i (base+n) with ix|sE
 ·exact .inl ⟨AL,k,late,ix,rfl,hI,rfl,hT⟩
 ·have:i=base+n:=by omega
  subst this
  have hg:=Pr hI late hC n1 (by omega) (by omega) hw (Nat.le_refl (base+n))
  refine .inr (.inl ⟨λ_=>0,AL,⟨⟨hI.ks,rfl,?_,⟨hg.reqs,hg.t1,hg.mZ,hg.wn,hg.rows,hg.wid,hg.d,hg.ids,hg.n,hI.ok.mono (by omega)⟩,by have:=hI.ops;show k.d.ops<=_;omega⟩,rfl,hC.1,?_,λt ht=>?_,hT⟩,by rw[Uf];exact hI.len,by omega,by simp,λt ht=>?_⟩)
  ·show ((base+n:Nat):Int)=_
   rw[hI.len]
  ·show (mM base Wt (base+n-base)).length=n
   rw[IF];omega
  ·show (mM base Wt (base+n-base))[t].table=_/\_
   rw[Ba]
   exact⟨rfl,rfl,⟨by rw[Nat.zero_mul,Nat.zero_min];rfl,rfl,(decide_eq_false (Nat.not_succ_le_zero _)).symm,Nat.zero_le _⟩⟩
  ·simp
theorem rN.next{n C base:Nat}{T:Nat->List Row}{Wt:Nat->Nat}{i:Nat}{p:gF}{tl:List Nat}(h:rN n C base T Wt i p tl)(hC:1<=C/\C<=64)(n1:1<=n)(n8:n<=4)(hb:base<=24)(hw:∀t,t<n->1<=Wt t/\Wt t<=8)(nt:∀t,t<n->(T t).length<=24):U6 n C base T Wt i p tl:=by
 have oY:∀{q:gF} {N:Nat},q.Good N->N<=800000000->q.Good 800000000:=λg hN=>⟨g.reqs,g.t1,g.mZ,g.wn,g.rows,g.wid,g.d,g.ids,g.n,g.src.mono hN⟩
 rcases h with ⟨AL,k,late,hi,rfl,hI,rfl,hT⟩|⟨cs,AL,hS⟩|⟨cs,AL,i0,p0,t,p1,p2,p3,p4,p5,y4,y5,hS,hR,hp⟩
 ·have hg:=Pr hI late hC n1 (by omega) (by omega) hw (Nat.le_of_lt hi)
  have hlen:=hI.len
  have b3:i<AL.length:=by omega
  obtain⟨t1,t2,t3,t4⟩:=hI.take late C (by omega) (Nat.le_refl n) (by omega) hw b3
  refine⟨by omega,oY hg (by omega),by have:=hI.ops;show k.d.ops<=_;omega,by simp,.inr (.inr (.inl ⟨AL[i],hI.ks.read b3,?_,by rw[t3];decide,t2,?_⟩))⟩
  ·refine decide_eq_false λh=>?_
   have:=h.1
   omega
  ·show rN n C base T Wt (i+1) ⟨k,((vp n late C base Wt i).take AL[i]).1,lT,C⟩ _
   rw[t1]
   exact rN.start hI hC n1 n8 hb hw hT (by omega)
 ·have nH:∀t,t<n->cs t<=25:=λt ht=>by
   have h1:=(hS.st.rq t (by rw[hS.st.len];exact ht)).2.2.le
   have h2:=nt t ht
   have:=Nat.div_le_self (T t).length C
   omega
  have AO:=I0 n nH
  have AO:n4 cs n<=100:=Nat.le_trans AO (by omega)
  have G3:=hS.it
  have hlen:=hS.len
  have gw:p.k.jK (p.m.at_+1)= .error 5:=by rw[hS.st.rs.at_];exact hS.st.rs.ks.Iy
  have iO:=hS.st.rs.ops
  refine⟨by omega,oY hS.st.rs.rh (by omega),by omega,hS.tn,?_⟩
  by_cases ho:lz p.m.reqs=[]
  ·left
   refine⟨5,by decide,gw,?_,hS.st.len,hS.tn,λt ht rA=>?_⟩
   ·cases hq:oE p.m with
    | false=>rfl
    | true=>exact absurd ho (hS.st.ready.1 hq)
   ·obtain⟨q1,q2,q3⟩:=hS.st.rq t ht
    have Ec:t<n:=by rw[<- hS.st.len];exact ht
    have hc:¬cs t<=(T t).length / C:=λhc=>hS.st.open_.2 ⟨t,Ec,hc⟩ ho
    have hle:=q3.le
    have DQ:cs t=(T t).length / C+1:=by omega
    refine⟨q1,by rw[q3.done];exact decide_eq_true (by omega),by rw[q3.chunks,DQ],?_,by rw[(hS.st.rs.ks.row Ec).1,hS.st.EW t Ec]⟩
    rw[hS.tl t rA,DQ]
    have ix:(T t).length<((T t).length / C+1)*C:=(Nat.div_lt_iff_lt_mul hC.1).1 (Nat.lt_succ_self _)
    omega
  ·obtain⟨t,p1,p2,p3,p4,p5,y4,y5,hR⟩:=hS.st.round ho (by omega) (λt ht=>by have:=nt t ht;omega)
   exact .inr (.inl ⟨.inl ⟨5,by decide,gw⟩,hS.st.ready.2 ho,p1,3,hR.s1,.inr (.inr ⟨cs,AL,i,p,t,p1,p2,p3,p4,p5,y4,y5,hS,hR,.inl ⟨rfl,Nat.le_refl _⟩⟩)⟩)
 ·have nH:∀t,t<n->cs t<=25:=λt ht=>by
   have h1:=(hS.st.rq t (by rw[hS.st.len];exact ht)).2.2.le
   have h2:=nt t ht
   have:=Nat.div_le_self (T t).length C
   omega
  have AO:n4 cs n<=100:=Nat.le_trans (I0 n nH) (by omega)
  have G3:=hS.it
  have hlen:=hS.len
  rcases hp with ⟨rfl,hi⟩|⟨rfl,hi⟩|⟨rfl,hi⟩|⟨rfl,hi⟩
  ·obtain⟨r1,r2,r3,r4⟩:=hR.r1
   have iX:=hR.Pn.2
   exact⟨by omega,oY hR.Pn.1 (by omega),by omega,hS.tn,.inr (.inl ⟨.inr ⟨_,by rw[r2];exact r3,r4⟩,r1,p2,4,hR.s2,.inr (.inr ⟨cs,AL,i0,p0,t,p,p2,p3,p4,p5,y4,y5,hS,hR,.inr (.inl ⟨rfl,by omega⟩)⟩)⟩)⟩
  ·obtain⟨r1,r2,r3,r4⟩:=hR.r2
   have iX:=hR.Po.2
   exact⟨by omega,oY hR.Po.1 (by omega),by omega,hS.tn,.inr (.inl ⟨.inr ⟨_,by rw[r2];exact r3,r4⟩,r1,p3,5,hR.s3,.inr (.inr ⟨cs,AL,i0,p0,t,p1,p,p3,p4,p5,y4,y5,hS,hR,.inr (.inr (.inl ⟨rfl,by omega⟩))⟩)⟩)⟩
  ·obtain⟨r2,r3,r4⟩:=hR.r3
   obtain⟨t3,e3⟩:=hR.t3
   have iX:=hR.Pp.2
   refine⟨by omega,oY hR.Pp.1 (by omega),by omega,hS.tn,.inr (.inr (.inl ⟨_,by rw[r2];exact r3,r4,show (2:Int)≠3 by decide,by rw[t3],.inr (.inr ⟨cs,AL,i0,p0,t,p1,p2,p,p4,p5,y4,y5,hS,hR,.inr (.inr (.inr ⟨?_,by omega⟩))⟩)⟩))⟩
   rw[t3]
   exact e3.symm
  ·obtain⟨r2,r3,r4⟩:=hR.r4
   obtain⟨t4,e4⟩:=hR.t4
   have iX:=hR.Pq.2
   have AQ:t<tl.length:=by rw[hS.tn];exact hR.tl
   have kH:=hR.cl
   have hmul:cs t*C<=(T t).length:=Nat.le_trans (Nat.mul_le_mul_right C kH) (Nat.div_mul_le_self _ _)
   have ha:tl[t]?=some (cs t*C):=by rw[List.getElem?_eq_getElem AQ,hS.tl t AQ,Nat.min_eq_left hmul]
   have wg:n4 (λs=>if s=t then cs s+1 else cs s) n=n4 cs n+1:=by rw[Ue,if_pos hR.tl]
   refine⟨by omega,oY hR.Pq.1 (by omega),by omega,hS.tn,.inr (.inr (.inr ⟨_,t,cs t*C,by rw[r2,show (AL.length:Int)+1+1=(AL.length:Int)+2 by omega];exact r3,r4,rfl,by rw[t4],hR.tl,hR.lH t hR.tl,ha,hmul,by rw[t4];exact hR.ops,?_⟩))⟩
   rw[t4]
   refine .inr (.inl ⟨λs=>if s=t then cs s+1 else cs s,AL++[o_ AL.length,px AL.length],?_,?_,?_,?_,λs hs=>?_⟩)
   ·have:=hR.rt
    rw[e4]at this
    rw[wg]
    exact this
   ·rw[wg,List.length_append,hlen];show _+2=_;omega
   ·rw[wg];omega
   ·rw[List.length_set];exact hS.tn
   ·rw[List.getElem_set]
    by_cases e:t=s
    ·subst e
     rw[if_pos rfl,if_pos rfl,Nat.succ_mul]
    ·rw[if_neg e,if_neg (λe2=>e e2.symm)]
     exact hS.tl s (by rw[List.length_set]at hs;exact hs)
set_option maxRecDepth 100000
open Go.ChangeShapes Go.WideShapes Go.ChangeAt Go.RowKit
abbrev sk(x:z')(H:bw)(p:gF):List Chunk:=[vB x,.pt x.pp (mi x.sp x.mp x.wp x.gp p.n) 201,.ob (jS x.gp p.d),.ob (e_ x.mp x.wp H p.m),.ob (ir x.sp x.tp x.dp x.lp p.k),.ob (cw x.dp p.k.d),.mem H]
theorem bF1{P:Program}{w:World}{t:TypeId}{xs ys:List Value}{p:Prop}[Decidable p]{K:Value->Prop}(h:(Op.equal t (agg xs) (agg ys)).run P w= .ok (decide p) w)(hK:K (.bool !(decide p))):QL P t true (agg xs) (agg ys) w K:=⟨xs.toArray,ys.toArray,decide p,rfl,rfl,h,hK⟩
theorem b96(n:Nat):b_ [.int .i64 0] n=(List.replicate n (0:Nat)).map λa:Nat=>Value.int .i64 (a:Int):=by
 induction n with
 | zero=>rfl
 | succ n ih=>rw[List.replicate_succ,List.map_cons,<- ih];rfl
abbrev s5(tb:Nat)(tl:List Nat):Chunk:=.pt tb (tl.map λa:Nat=>Value.int .i64 (a:Int)) 3
set_option maxHeartbeats 8000000 in
theorem Z7(H:bw)(c:oM)(v1 v2:Value)(rows:List ig)(more:List ByteArray)(mU:gi H 4 v1 rows.length (rows.map jA).flatten)(l8:gi H 1 v2 more.length (more.map Value.string))(hrn:rows.length<=140737488351232)(hmn:more.length<=140737488351232):
  SP 10 [agg (rR c),v1,v2] [.mem H] (λv post=>v= .bool true/\∃H' l,H.le H'/\post= .mem H'::l):=by
 intro W F w hS;apply bW7;delta JH aF bF a7 aW dI c_ b7 ai eI cI bI;(try simp only[app]at hS)
 refine zK hS λcb w hS=>?_
 refine yj hS Xh rfl ?_
 refine Cc (Y0 c) ?_;clear hS
 rintro _ post ⟨rfl,rfl⟩ w hS
 try simp only[app]at hS
 refine zD hS Xu rfl rfl (WM _) λw hS=>?_
 refine yj hS Xh rfl ?_
 have tw:=VY c
 generalize BD c=cc at *
 have h4:=nh c.tables 4 (by decide)
 generalize hn:1+md c.tables 4=n at *
 have hg0:=Tp tw
 obtain⟨C,hC⟩:∃C:Nat,cc.chunk=C:=⟨cc.chunk.toNat,by have:=tw.c1;omega⟩
 have PB:1<=C:=by have:=tw.c1;omega
 have DO:C<=64:=by have:=tw.FL;omega
 have tB:=tw.n1
 have PG:=oO.init (n:=n) (λt=>1+(t+more.length) % 8) tB tw.n8 tw.s0 tw.s1
 refine Cc (Zk H cc n tw) ?_;clear hS
 rintro _ post ⟨x,H1,iw,rfl,rfl⟩ w hS
 try simp only[app]at hS
 repeat first|refine Gp ?_|refine Gw λw hS=>?_|refine Gb λb w hS=>?_
 refine zq ?_
 repeat first|refine Gp ?_|refine Gw λw hS=>?_|refine Gb λb w hS=>?_
 refine Cc (YA) ?_;clear hS
 (rintro v post ⟨rfl,rfl⟩ w hS;(try simp only[app]at hS);(repeat (first|refine Gp ?_|refine Gw λw hS=>?_|refine Gb λb w hS=>?_)))
 refine zq ?_
 have P6:=tw.tables
 obtain⟨ct,cl,wW,cq,cch,oh,pH,cm,cj,ce⟩:=cc
 simp only at P6 hC
 subst P6 hC
 have hS:SL W (.pt cb (rR ⟨n,cl,wW,cq,C,oh,pH,cm,cj,ce⟩) 87::app (sk x H1 ⟨o9 n wW,⟨n,cl,0,[],ko C⟩,lT,C⟩) F) w:=SL.b4 hS (t:=.pt cb (rR ⟨n,cl,wW,cq,C,oh,pH,cm,cj,ce⟩) 87::app (sk x H1 (wv n ⟨n,cl,wW,cq,C,oh,pH,cm,cj,ce⟩)) F) Xi
 unfold rR at hS
 try simp only[app]at hS
 repeat first|refine Gp ?_|refine Gw λw hS=>?_|refine Gb λb w hS=>?_
 refine Cc (YB H1 v1 rows n 24 (mU.mono iw) tB (by omega) (by decide) hrn) ?_;clear hS
 rintro u post ⟨H2,iB,hR,rfl⟩ w hS
 try simp only[app]at hS
 obtain⟨c4,Oe,cin⟩:=V4 n 24 tB (by omega) rows
 have hR:gi H2 4 u (wT n 24 rows).length ((wT n 24 rows).map jA).flatten:=hR
 generalize wT n 24 rows=r at *
 have kF:=bw.le_trans iw iB
 have hS:=e_.lh (mp:=x.mp) (wp:=x.wp) (m:=⟨n,cl,0,[],ko C⟩) iB hS Xr
 have l8:=l8.mono kF
 clear iw iB mU hg0 tw
 generalize PQ:(λt=>1+(t+more.length) % 8:Nat->Nat)=Wt at *
 generalize ui:Chunk.pt cb [.int .i64 (n:Int),.int .i64 cl,.int .i64 wW,.int .i64 cq,.int .i64 (C:Int),.int .i64 oh,.int .i64 pH,.int .i64 cm,.int .i64 cj,.int .i64 ce] 87=CB at hS
 refine⟨λus w=>∃(i:Nat) (AL:List dR) (k:fR) (H3:bw),us=[.int .i64 i]/\i<=r.length/\oO n i Wt 0 AL k (2000*i) (3*i)/\(AL.flatMap (·.changes)).length<=i/\H2.le H3/\SL W (CB::app (sk x H3 ⟨k,⟨n,cl,0,[],ko C⟩,lT,C⟩) F) w,
  λus _=>match us with|[.int _ i]=>(r.length-i).toNat|_=>0,⟨0,[],_,H2,rfl,by omega,PG,by simp,bw.le_refl H2,aR hS⟩,?_⟩
 clear hS PG
 rintro v9 w ⟨i,AL,k,H3,cW,hi,hI,pw,kz,hS⟩
 cases cW
 try simp only[app]at hS
 refine zo (hR.mono kz) ?_
 repeat first|refine Gp ?_|refine Gw λw hS=>?_|refine Gb λb w hS=>?_
 refine za (λha=>?_) (λha=>?_)
 ·have b3:i<r.length:=by omega
  repeat first|refine Gp ?_|refine Gw λw hS=>?_|refine Gb λb w hS=>?_
  refine zS hS Xh m0 (hR.mono kz) (List.getElem?_eq_getElem b3) b3 ?_
  have GW:=Oe _ (List.getElem_mem b3)
  have u6:=cin _ (List.getElem_mem b3)
  generalize r[i]=ch at *
  refine zz hS (cells:=jA ch) (by rfl) λb1 w hS=>?_
  obtain⟨H4,m9,XU,hS⟩:=SL.CU (sz:=4) (H:=H3) hS Xp rfl
  have hS:=e_.lh (mp:=x.mp) (wp:=x.wp) (m:=⟨n,cl,0,[],ko C⟩) m9 hS Xr
  repeat first|refine Gp ?_|refine Gw λw hS=>?_|refine Gb λb w hS=>?_
  have iO:=hI.ops
  refine Cc (yT x.sp x.tp x.dp x.lp k H4 (.slice none 0 0) (.slice (some ⟨b1,0,none⟩) 1 1) [] [ch] (gi.nil _ _) XU (show 1<=140737488351232 by decide) hI.ok (by omega) (by omega)) ?_;clear hS
  rintro _ post ⟨rfl,rfl⟩ w hS
  obtain⟨k',e,GI⟩:=hI.ta GW u6 (by omega) pw
  rw[e]at hS ⊢
  simp only at hS ⊢
  try simp only[app]at hS
  repeat first|refine Gp ?_|refine Gw λw hS=>?_|refine Gb λb w hS=>?_
  refine za (λh=>absurd rfl h) (λ_=>?_)
  repeat first|refine Gp ?_|refine Gw λw hS=>?_|refine Gb λb w hS=>?_
  exact⟨⟨i+1,_,k',H4,rfl,by omega,GI,by rw[List.flatMap_append,List.length_append];show _+1<=i+1;omega,bw.le_trans kz m9,aR hS⟩,by dsimp only;omega⟩
 have hir:i=r.length:=by omega
 have PY:i<=24:=by omega
 clear hir ha
 have oV:=bw.le_trans kF kz
 refine⟨λus w=>∃(s:Nat) (AL:List dR) (k:fR) (H4:bw),us=[.int .i64 s]/\s<=n/\oO n i Wt s AL k (2000*(i+s)) (3*(i+s))/\(AL.flatMap (·.changes)).length<=i/\H3.le H4/\SL W (CB::app (sk x H4 ⟨k,⟨n,cl,0,[],ko C⟩,lT,C⟩) F) w,
  λus _=>match us with|[.int _ s]=>(n-s).toNat|_=>0,⟨0,AL,k,H3,rfl,by omega,hI,pw,bw.le_refl H3,aR hS⟩,?_⟩
 clear hS hI pw hR hi Oe cin c4
 rintro oK w ⟨s,AL,k,H4,cW,hs,hI,pw,m9,hS⟩
 cases cW
 rw[<- ui]at hS
 try simp only[app]at hS
 repeat first|refine Gp ?_|refine Gw λw hS=>?_|refine Gb λb w hS=>?_
 refine za (λha=>?_) (λha=>?_)
 ·have uz:s<n:=by omega
  repeat first|refine Gp ?_|refine Gw λw hS=>?_|refine Gb λb w hS=>?_
  refine zL ?_
  refine zo (l8.mono (bw.le_trans kz m9)) ?_
  repeat first|refine Gp ?_|refine Gw λw hS=>?_|refine Gb λb w hS=>?_
  refine QG (by decide) ?_
  have hmd:(s+more.length) % 8<8:=Nat.mod_lt _ (by decide)
  have hws:Wt s=1+(s+more.length) % 8:=by rw[<- PQ]
  rw[show ((s+more.length:Nat):Int).tmod 8=(((s+more.length) % 8:Nat):Int) by rw[Int.tmod_eq_emod_of_nonneg (by omega)];omega]
  generalize (s+more.length) % 8=q at *
  repeat first|refine Gp ?_|refine Gw λw hS=>?_|refine Gb λb w hS=>?_
  refine zL ?_
  have WH:Value.int .u8 (IntKind.u8.wrap (48+(s:Int)))=cR (UInt8.ofNat (48+s)):=by
   unfold cR
   rw[UInt8.toNat_ofNat',IntKind.wrap_u8]
   congr 1
  have WI:Value.int .u8 (IntKind.u8.wrap (49+(q:Int)))=cR (UInt8.ofNat (48+Wt s)):=by
   unfold cR
   rw[UInt8.toNat_ofNat',IntKind.wrap_u8,hws]
   congr 1
   omega
  have WJ:Value.int .u8 32=cR 32:=rfl
  rw[WH,WI,WJ]
  refine zz hS (cells:=([UInt8.ofNat (48+s),32,UInt8.ofNat (48+Wt s)]:List UInt8).map cR) (by rfl) λb1 w hS=>?_
  repeat first|refine Gp ?_|refine Gw λw hS=>?_|refine Gb λb w hS=>?_
  refine Zh (bs:=[UInt8.ofNat (48+s),32,UInt8.ofNat (48+Wt s)]) ⟨_,_,_,rfl⟩ (lP hS Xh rfl) Tryz.underlying62 Tryz.underlying9 Tryz.underlying5 ?_
  refine bFx (show 9+3<=1000000 by decide) ?_
  have W0:(⟨#[115,110,97,112,115,104,111,116,32]⟩:ByteArray)++iQ [UInt8.ofNat (48+s),32,UInt8.ofNat (48+Wt s)]=pV s (Wt s):=by
   apply ByteArray.ext
   simp[pV,rF,iQ]
  rw[W0]
  refine zz hS (cells:=[.string (pV s (Wt s))]) (by rfl) λb2 w hS=>?_
  obtain⟨H5,tm,XX,hS⟩:=SL.CU (sz:=1) (H:=H4) (b:=b2) hS Xp rfl
  have hS:=e_.lh (mp:=x.mp) (wp:=x.wp) (m:=⟨n,cl,0,[],ko C⟩) tm hS Xr
  repeat first|refine Gp ?_|refine Gw λw hS=>?_|refine Gb λb w hS=>?_
  have iO:=hI.ops
  refine Cc (yT x.sp x.tp x.dp x.lp k H5 (.slice (some ⟨b2,0,none⟩) 1 1) (.slice none 0 0) [pV s (Wt s)] [] XX (gi.nil _ _) (by decide) hI.ok (by omega) (by omega)) ?_;clear hS
  rintro _ post ⟨rfl,rfl⟩ w hS
  obtain⟨k',e,GI⟩:=hI.bRg (by omega) (by omega) pw
  rw[e]at hS ⊢
  simp only at hS ⊢
  try simp only[app]at hS
  repeat first|refine Gp ?_|refine Gw λw hS=>?_|refine Gb λb w hS=>?_
  refine za (λh=>absurd rfl h) (λ_=>?_)
  repeat first|refine Gp ?_|refine Gw λw hS=>?_|refine Gb λb w hS=>?_
  rw[ui]at hS
  exact⟨⟨s+1,_,k',H5,rfl,by omega,by rw[show 2000*(i+(s+1))=2000*(i+s)+2000 by omega,show 3*(i+(s+1))=3*(i+s)+3 by omega];exact GI,by rw[List.flatMap_append,List.length_append];show _+0<=i;omega,bw.le_trans m9 tm,aR hS⟩,by dsimp only;omega⟩
 have uz:s=n:=by omega
 subst uz
 clear ha hs
 have Ar:=bw.le_trans oV m9
 repeat first|refine Gp ?_|refine Gw λw hS=>?_|refine Gb λb w hS=>?_
 refine EP hS (Nat.le_refl _) (by omega) (by omega) λtb w hS=>?_
 rw[b96]at hS
 have RQ:∀t,t<s->1<=Wt t/\Wt t<=8:=λt _=>by rw[<- PQ];simp only;omega
 generalize hT:(λt:Nat=>mA (t:Int) AL)=T
 have GM:∀t,t<s->mA (t:Int) AL=T t:=λt _=>by rw[<- hT]
 have nt:∀t,t<s->(T t).length<=24:=λt ht=>by
  have:=Pc AL (t:Int) AL.length
  rw[List.take_length,GM t ht]at this
  omega
 have DO:C<=64:=DO
 have hI:oO s i Wt s AL k 60000 100:=⟨hI.ks,hI.len,hI.BE,hI.sig,hI.ok.mono (by omega),by have:=hI.ops;omega⟩
 have GN:=rN.start (late:=cl) hI ⟨PB,DO⟩ tB (by omega) PY RQ GM (Nat.zero_le _)
 have em:vp s cl C i Wt 0=⟨s,cl,0,[],ko C⟩:=by unfold vp mM;rw[Nat.zero_sub];rfl
 rw[em]at GN
 rw[ui]at hS
 clear hI pw GM em hT
 have hS:SL W (s5 tb (List.replicate s 0)::CB::app (sk x H4 ⟨k,⟨s,cl,0,[],ko C⟩,lT,C⟩) F) w:=aR hS
 refine⟨λus w=>∃(p:gF) (tl:List Nat) (H5:bw),us=[]/\Ny s C T p tl/\p.Good 800000000/\H4.le H5/\SL W (s5 tb tl::CB::app (sk x H5 p) F) w,?_,?_⟩
 ·refine⟨λus w=>∃(j:Nat) (p:gF) (tl:List Nat) (H5:bw),us=[.int .i64 j]/\rN s C i T Wt j p tl/\H4.le H5/\SL W (s5 tb tl::CB::app (sk x H5 p) F) w,
   λus _=>match us with|[.int _ j]=>(4000-j).toNat|_=>0,⟨0,_,_,H4,rfl,GN,bw.le_refl H4,hS⟩,?_⟩
  clear hS GN
  rintro Bf w ⟨j,p,tl,H5,cW,hW,tm,hS⟩
  cases cW
  obtain⟨hj,hg,iO,Ec,rY⟩:=hW.next ⟨PB,DO⟩ tB (by omega) PY RQ nt
  clear hW
  have we:=hg.src.g
  have kG:=hg.mZ
  have b5:=hg.A2 (by decide)
  have D_:=hg.reqs.1
  try simp only[app]at hS
  repeat first|refine Gp ?_|refine Gw λw hS=>?_|refine Gb λb w hS=>?_
  refine za (λ_=>?_) (λh=>absurd (by omega) h)
  generalize Ho:p.k.jK (p.m.at_+1)=re at *
  refine⟨λus w=>∃(ub:Nat) (H6:bw) (xt:oP),us=[dF ub,.int .i64 (Ix re)]/\H5.le H6/\mn H6 xt (Tr re)/\SL W (.pt ub (iU xt) 39::s5 tb tl::CB::app (sk x H6 p) F) w,?_,?_⟩
  ·repeat first|refine Gp ?_|refine Gw λw hS=>?_|refine Gb λb w hS=>?_
   refine⟨?_,?_⟩
   ·refine Cc (Y9 x.mp x.wp H5 p.m) ?_;clear hS
    (rintro v post ⟨rfl,rfl⟩ w hS;(try simp only[app]at hS);(repeat (first|refine Gp ?_|refine Gw λw hS=>?_|refine Gb λb w hS=>?_)))
    refine⟨?_,?_⟩
    ·refine Cc (yG x.sp x.tp x.dp x.lp p.k we (by omega) H5 (p.m.at_+1) (by omega)) ?_;clear hS
     rintro r post hq w hS
     obtain⟨x1,H6,tq,rfl,nA,rfl⟩:=hq.all
     rw[Ho]at nA ⊢
     clear hq
     try simp only[app]at hS
     refine Gp ?_
     refine zJ hS λb1 w hS=>?_
     refine zD (vs:=iU x1) hS Xu rfl rfl (sA (aI:=x1.aI) (kind:=x1.kind) (mark:=x1.mark) nA.cv.one nA.sv.one) λw hS=>?_
     have hS:=e_.lh (mp:=x.mp) (wp:=x.wp) (m:=p.m) tq hS Xr
     exact⟨_,_,_,rfl,tq,nA,aR hS⟩
    ·refine Gb λb1 w hS=>?_
     refine Cc (yG x.sp x.tp x.dp x.lp p.k we (by omega) H5 (p.m.at_+1) (by omega)) ?_;clear hS
     rintro r post hq w hS
     obtain⟨x1,H6,tq,rfl,nA,rfl⟩:=hq.all
     rw[Ho]at nA ⊢
     clear hq
     try simp only[app]at hS
     refine Gp ?_
     refine zD (vs:=iU x1) hS Xu rfl rfl (sA (aI:=x1.aI) (kind:=x1.kind) (mark:=x1.mark) nA.cv.one nA.sv.one) λw hS=>?_
     have hS:=e_.lh (mp:=x.mp) (wp:=x.wp) (m:=p.m) tq hS Xr
     exact⟨_,_,_,rfl,tq,nA,aR hS⟩
   ·refine Gb λb1 w hS=>?_
    refine Cc (Y9 x.mp x.wp H5 p.m) ?_;clear hS
    (rintro v post ⟨rfl,rfl⟩ w hS;(try simp only[app]at hS);(repeat (first|refine Gp ?_|refine Gw λw hS=>?_|refine Gb λb w hS=>?_)))
    refine Cc (yG x.sp x.tp x.dp x.lp p.k we (by omega) H5 (p.m.at_+1) (by omega)) ?_;clear hS
    rintro r post hq w hS
    obtain⟨x1,H6,tq,rfl,nA,rfl⟩:=hq.all
    rw[Ho]at nA ⊢
    clear hq
    try simp only[app]at hS
    refine Gp ?_
    refine zD (vs:=iU x1) hS Xu rfl rfl (sA (aI:=x1.aI) (kind:=x1.kind) (mark:=x1.mark) nA.cv.one nA.sv.one) λw hS=>?_
    have hS:=e_.lh (mp:=x.mp) (wp:=x.wp) (m:=p.m) tq hS Xr
    exact⟨_,_,_,rfl,tq,nA,aR hS⟩
  clear hS
  rintro E8 I7 w ⟨ub,H6,xt,cW,tq,hx,hS⟩
  cases cW
  have DG:=bw.le_trans tm tq
  try simp only[app]at hS
  repeat first|refine Gp ?_|refine Gw λw hS=>?_|refine Gb λb w hS=>?_
  refine za (λhe=>?_) (λhe=>?_)
  ·rcases rY with ⟨e,B5,hr,gw,hF⟩|⟨_,gw,p',d,kP,pk⟩|⟨t,hr,_⟩|⟨t,_,_,hr,_⟩
   ·repeat first|refine Gp ?_|refine Gw λw hS=>?_|refine Gb λb w hS=>?_
    refine Cc (z7 x.sp x.mp x.wp x.pp x.gp p.n H6 p.m (by omega)) ?_;clear hS
    rw[gw]
    (rintro v post ⟨rfl,rfl⟩ w hS;(try simp only[app]at hS);(repeat (first|refine Gp ?_|refine Gw λw hS=>?_|refine Gb λb w hS=>?_)))
    refine zw ?_
    exact⟨p,tl,H6,rfl,hF,hg,DG,aR hS⟩
   ·repeat first|refine Gp ?_|refine Gw λw hS=>?_|refine Gb λb w hS=>?_
    refine Cc (z7 x.sp x.mp x.wp x.pp x.gp p.n H6 p.m (by omega)) ?_;clear hS
    rw[gw]
    (rintro v post ⟨rfl,rfl⟩ w hS;(try simp only[app]at hS);(repeat (first|refine Gp ?_|refine Gw λw hS=>?_|refine Gb λb w hS=>?_)))
    refine zq ?_
    repeat first|refine Gp ?_|refine Gw λw hS=>?_|refine Gb λb w hS=>?_
    refine Cc (yg x.sp x.tp x.dp x.lp x.mp x.wp x.pp x.gp H6 p b5 (by omega)) ?_;clear hS
    rintro _ post ⟨H7,rU,rfl,rfl⟩ w hS
    rw[kP]at hS ⊢
    simp only at hS ⊢
    try simp only[app]at hS
    repeat first|refine Gp ?_|refine Gw λw hS=>?_|refine Gb λb w hS=>?_
    refine za (λh=>absurd rfl h) (λ_=>?_)
    repeat first|refine Gp ?_|refine Gw λw hS=>?_|refine Gb λb w hS=>?_
    exact⟨⟨j+1,p',tl,H7,rfl,pk,bw.le_trans DG rU,aR hS⟩,by dsimp only;omega⟩
   ·rw[hr]at he;exact absurd rfl he
   ·rw[hr]at he;exact absurd rfl he
  have he:Ix re=0:=Decidable.of_not_not he
  obtain⟨t,rfl⟩:∃t,re= .ok t:=by
   cases re with
   | ok t=>exact⟨t,rfl⟩
   | error e=>
    rcases rY with ⟨e',B5,hr,_⟩|⟨h1,_⟩|⟨t,hr,_⟩|⟨t,_,_,hr,_⟩
    ·cases hr;exact absurd he B5
    ·rcases h1 with ⟨e',B5,hr⟩|⟨t,hr,_⟩
     ·cases hr;exact absurd he B5
     ·cases hr
    ·cases hr
    ·cases hr
  have hx:mn H6 xt t:=hx
  have Rn:=hx.kind
  have uv:=hx.mark
  obtain⟨rv,hr,hS⟩:=e_.iff.1 (SL.b4 hS (t:=.ob (e_ x.mp x.wp H6 p.m)::.pt ub (iU xt) 39::s5 tb tl::CB::vB x::.pt x.pp (mi x.sp x.mp x.wp x.gp p.n) 201::.ob (jS x.gp p.d)::.ob (ir x.sp x.tp x.dp x.lp p.k)::.ob (cw x.dp p.k.d)::.mem H6::F) Xi)
  repeat first|refine Gp ?_|refine Gw λw hS=>?_|refine Gb λb w hS=>?_
  refine Z3 (vs:=[dF x.wp]) hS Xh rfl (λj v e=>by
   match j,e with
   | 0,e=>exact e) ?_
  repeat first|refine Gp ?_|refine Gw λw hS=>?_|refine Gb λb w hS=>?_
  refine Cc (ZH x.wp p.m.b8 xt) ?_;clear hS
  rw[Rn,uv]
  (rintro v post ⟨rfl,rfl⟩ w hS;(try simp only[app]at hS);(repeat (first|refine Gp ?_|refine Gw λw hS=>?_|refine Gb λb w hS=>?_)))
  have hS:=e_.put p.m rv hr hS Xp
  rcases rY with ⟨e,B5,hr,_⟩|⟨h1,gw,p',d,kP,pk⟩|rY
  ·cases hr
  ·obtain⟨t',rA,uA⟩:∃t',(Except.ok t:Except Int dR)= .ok t'/\p.m.b8.waits t'.kind t'.mark=true:=by
    rcases h1 with ⟨e',_,hr⟩|h
    ·cases hr
    ·exact h
   cases rA
   rw[uA]
   refine zw ?_
   repeat first|refine Gp ?_|refine Gw λw hS=>?_|refine Gb λb w hS=>?_
   refine Cc (z7 x.sp x.mp x.wp x.pp x.gp p.n H6 p.m (by omega)) ?_;clear hS
   rw[gw]
   (rintro v post ⟨rfl,rfl⟩ w hS;(try simp only[app]at hS);(repeat (first|refine Gp ?_|refine Gw λw hS=>?_|refine Gb λb w hS=>?_)))
   refine zq ?_
   repeat first|refine Gp ?_|refine Gw λw hS=>?_|refine Gb λb w hS=>?_
   refine Cc (yg x.sp x.tp x.dp x.lp x.mp x.wp x.pp x.gp H6 p b5 (by omega)) ?_;clear hS
   rintro _ post ⟨H7,rU,rfl,rfl⟩ w hS
   rw[kP]at hS ⊢
   simp only at hS ⊢
   try simp only[app]at hS
   repeat first|refine Gp ?_|refine Gw λw hS=>?_|refine Gb λb w hS=>?_
   refine za (λh=>absurd rfl h) (λ_=>?_)
   repeat first|refine Gp ?_|refine Gw λw hS=>?_|refine Gb λb w hS=>?_
   exact⟨⟨j+1,p',tl,H7,rfl,pk,bw.le_trans DG rU,aR hS⟩,by dsimp only;omega⟩
  have rY:p.m.b8.waits t.kind t.mark=false/\(p.m.take t).2.2=0/\((t.kind≠3/\rN s C i T Wt (j+1) {p with m:=(p.m.take t).1} tl)\/(t.kind=3/\∃s' a,s'<s/\lk p.k.ts (s':Int)=T s'/\tl[s']?=some a/\a<=(T s').length/\(p.m.take t).2.1.ops=(((T s').drop a).take C).map (λr=>(⟨t.aI,s',r.key,false,r.val⟩:pd))/\rN s C i T Wt (j+1) {p with m:=(p.m.take t).1} (tl.set s' (min (a+C) (T s').length)))):=by
   rcases rY with ⟨t',rA,uA,vh,xE,pk⟩|⟨t',s',a,rA,uA,vh,xE,xD,lX,HA,BZ,iX,pk⟩
   ·cases rA;exact⟨uA,xE,.inl ⟨vh,pk⟩⟩
   ·cases rA;exact⟨uA,xE,.inr ⟨vh,s',a,xD,lX,HA,BZ,iX,pk⟩⟩
  obtain⟨uA,xE,rY⟩:=rY
  rw[uA]
  refine zq ?_
  have hgt:=hg.take t
  have RR:=hg.wid
  clear uA
  refine⟨λus w=>∃(ib:Nat) (H7:bw) (xi:sV),us=[dF ib,.int .i64 0]/\H6.le H7/\tQ H7 xi (p.m.take t).2.1/\SL W (.pt ib (nF xi) 100::.pt ub (iU xt) 39::s5 tb tl::CB::app (sk x H7 {p with m:=(p.m.take t).1}) F) w,?_,?_⟩
  ·repeat first|refine Gp ?_|refine Gw λw hS=>?_|refine Gb λb w hS=>?_
   refine⟨?_,?_⟩
   ·refine Cc (yO x.mp x.wp H6 p.m b5.m xt t hx (by omega)) ?_;clear hS
    rintro r post ⟨xi,H7,rU,rfl,tH,rfl⟩ w hS
    rw[xE]
    try simp only[app]at hS
    refine Gp ?_
    refine zJ hS λb1 w hS=>?_
    refine zD (vs:=nF xi) hS Xu rfl rfl (wY tH) λw hS=>?_
    exact⟨_,_,_,rfl,rU,tH,aR hS⟩
   ·refine Gb λb1 w hS=>?_
    refine Cc (yO x.mp x.wp H6 p.m b5.m xt t hx (by omega)) ?_;clear hS
    rintro r post ⟨xi,H7,rU,rfl,tH,rfl⟩ w hS
    rw[xE]
    try simp only[app]at hS
    refine Gp ?_
    refine zD (vs:=nF xi) hS Xu rfl rfl (wY tH) λw hS=>?_
    exact⟨_,_,_,rfl,rU,tH,aR hS⟩
  clear hS xE
  rintro E9 v22 w ⟨ib,H7,xi,cW,rU,tH,hS⟩
  cases cW
  have Pt:=bw.le_trans DG rU
  try simp only[app]at hS
  repeat first|refine Gp ?_|refine Gw λw hS=>?_|refine Gb λb w hS=>?_
  refine za (λh=>absurd rfl h) (λ_=>?_)
  have ex:iU xt=[.int .i64 xt.aI,.int .i64 t.kind,xt.cv,xt.sv,.int .i64 xt.mark]:=by unfold iU;rw[Rn]
  rw[ex]at hS
  repeat first|refine Gp ?_|refine Gw λw hS=>?_|refine Gb λb w hS=>?_
  refine za (λhk=>?_) (λhk=>?_)
  ·repeat first|refine Gp ?_|refine Gw λw hS=>?_|refine Gb λb w hS=>?_
   rcases rY with ⟨_,pk⟩|⟨h3,_⟩
   ·exact⟨⟨j+1,_,tl,H7,rfl,pk,Pt,aR hS⟩,by dsimp only;omega⟩
   ·exact absurd h3 hk
  rcases rY with ⟨h3,_⟩|⟨h3,s',a,xD,lX,HA,BZ,iX,pk⟩
  ·exact absurd h3 hk
  have hS:SL W (s5 tb tl::.pt ib (nF xi) 100::CB::app (sk x H7 {p with m:=(p.m.take t).1}) F) w:=aR hS
  have ai5:({p with m:=(p.m.take t).1}:gF).k.ts=p.k.ts:=rfl
  rw[<- ai5]at lX
  generalize ({p with m:=(p.m.take t).1}:gF)=p2 at *
  generalize hR:((T s').drop a).take C=R at *
  have hRl:R.length=min C ((T s').length-a):=by rw[<- hR,List.length_take,List.length_drop]
  have XV:∀q (h:q<R.length) (h2:a+q<(T s').length),R[q]=(T s')[a+q]:=λq h h2=>by
   have e:R[q]?=some (T s')[a+q]:=by
    rw[<- hR,List.getElem?_take,if_pos (by omega),List.getElem?_drop,List.getElem?_eq_getElem h2]
   rw[List.getElem?_eq_getElem h]at e
   exact Option.some.inj e
  have cwu:s'<tl.length:=by omega
  have aFi:tl.set s' (a+0)=tl:=by
   obtain⟨h,e⟩:=List.getElem?_eq_some_iff.1 HA
   rw[Nat.add_zero,<- e,List.set_getElem_self]
  unfold nF at hS
  refine⟨λus w=>∃q:Nat,us=[.int .i64 q]/\q<=R.length/\SL W (s5 tb (tl.set s' (a+q))::.pt ib [.int .i64 xi.aI,xi.ov,xi.nv] 100::CB::app (sk x H7 p2) F) w,
   λus _=>match us with|[.int _ q]=>(R.length-q).toNat|_=>0,⟨0,rfl,Nat.zero_le _,by rw[aFi];exact aR hS⟩,?_⟩
  clear hS
  have xB:gi H7 5 xi.ov R.length ((R.map λr=>(⟨t.aI,s',r.key,false,r.val⟩:pd)).map sy).flatten:=by
   have:gi H7 5 xi.ov (p.m.take t).2.1.ops.length ((p.m.take t).2.1.ops.map sy).flatten:=tH.ops
   rw[iX,List.length_map]at this
   exact this
  have v_:∀C∈p2.k.ts,C.length<=1000000:=λC hC=>by have:=hgt.src.len C hC;omega
  rintro v23 w ⟨q,cW,hq,hS⟩
  cases cW
  rw[<- ui]at hS
  try simp only[app]at hS
  repeat first|refine Gp ?_|refine Gw λw hS=>?_|refine Gb λb w hS=>?_
  refine zo xB ?_
  repeat first|refine Gp ?_|refine Gw λw hS=>?_|refine Gb λb w hS=>?_
  refine za (λkI=>?_) (λkI=>?_)
  ·have kI:q<R.length:=by omega
   have GQ:a+q<(T s').length:=by omega
   have XY:=nt s' xD
   have r6:(R.map λr=>(⟨t.aI,s',r.key,false,r.val⟩:pd))[q]?=some ⟨t.aI,s',R[q].key,false,R[q].val⟩:=by rw[List.getElem?_map,List.getElem?_eq_getElem kI];rfl
   have XW:=XV q kI GQ
   repeat first|refine Gp ?_|refine Gw λw hS=>?_|refine Gb λb w hS=>?_
   refine zH hS Xh F9 xB r6 kI (i:=1) (u:=.int .i64 (s':Int)) rfl ?_
   repeat first|refine Gp ?_|refine Gw λw hS=>?_|refine Gb λb w hS=>?_
   refine za (λh=>absurd h (by omega)) (λ_=>?_)
   repeat first|refine Gp ?_|refine Gw λw hS=>?_|refine Gb λb w hS=>?_
   refine za (λh=>absurd h (by omega)) (λ_=>?_)
   have hS:=ir.iff.1 (SL.b4 hS (t:=.ob (ir x.sp x.tp x.dp x.lp p2.k)::s5 tb (tl.set s' (a+q))::.pt ib [.int .i64 xi.aI,xi.ov,xi.nv] 100::.pt cb [.int .i64 (s:Int),.int .i64 cl,.int .i64 wW,.int .i64 cq,.int .i64 (C:Int),.int .i64 oh,.int .i64 pH,.int .i64 cm,.int .i64 cj,.int .i64 ce] 87::vB x::.pt x.pp (mi x.sp x.mp x.wp x.gp p2.n) 201::.ob (jS x.gp p2.d)::.ob (e_ x.mp x.wp H7 p2.m)::.ob (cw x.dp p2.k.d)::.mem H7::F) Xi)
   repeat first|refine Gp ?_|refine Gw λw hS=>?_|refine Gb λb w hS=>?_
   refine Cc (Z8 x.tp p2.k.ts (s':Int) v_) ?_;clear hS
   rintro u post rfl w hS
   try simp only[app]at hS
   rw[lX]at hS
   have hS:=ir.put p2.k hS Xp (sp:=x.sp)
   have cwt:(tl.set s' (a+q)).length=s:=by rw[List.length_set];omega
   have mB:((tl.set s' (a+q)).map λa:Nat=>Value.int .i64 (a:Int))[0+s'*1]?=some (.int .i64 ((a+q:Nat):Int)):=by
    rw[Nat.zero_add,Nat.mul_one,List.getElem?_map,List.getElem?_set_self (by omega)];rfl
   repeat first|refine Gp ?_|refine Gw λw hS=>?_|refine Gb λb w hS=>?_
   refine zB xD ?_
   refine zX hS Xh mB ?_
   refine zt hS (v:=u) (t:=52) (sz:=2) (n:=(T s').length) (cells:=((T s').map iq).flatten) Xh ?_
   repeat first|refine Gp ?_|refine Gw λw hS=>?_|refine Gb λb w hS=>?_
   refine za (λh=>absurd h (by omega)) (λ_=>?_)
   repeat first|refine Gp ?_|refine Gw λw hS=>?_|refine Gb λb w hS=>?_
   refine zB xD ?_
   refine zX hS Xh mB ?_
   refine zV hS (v:=u) (t:=52) Xh jY (x:=(T s')[a+q]) (List.getElem?_eq_getElem GQ) GQ ?_
   repeat first|refine Gp ?_|refine Gw λw hS=>?_|refine Gb λb w hS=>?_
   refine zH hS Xh F9 xB r6 kI (i:=2) (u:=.int .i64 R[q].key) rfl ?_
   repeat first|refine Gp ?_|refine Gw λw hS=>?_|refine Gb λb w hS=>?_
   refine zH hS Xh F9 xB r6 kI (i:=4) (u:=.string R[q].val) rfl ?_
   refine yx rfl ?_
   refine bF1 (xs:=iq (T s')[a+q]) (ys:=iq R[q]) (WX (T s')[a+q] R[q] w) ?_
   rw[decide_eq_true XW.symm]
   refine zq ?_
   refine zB xD ?_
   refine zX hS Xh mB ?_
   repeat first|refine Gp ?_|refine Gw λw hS=>?_|refine Gb λb w hS=>?_
   refine zB xD ?_
   refine Zb hS Xu mB rfl λw hS=>?_
   have WZ:((tl.set s' (a+q)).map λa:Nat=>Value.int .i64 (a:Int)).set (0+s'*1) (.int .i64 ((a+q+1:Nat):Int))=(tl.set s' (a+(q+1))).map λa:Nat=>Value.int .i64 (a:Int):=by
    rw[Nat.zero_add,Nat.mul_one,List.map_set,List.map_set,List.set_set]
    rfl
   rw[WZ]at hS
   repeat first|refine Gp ?_|refine Gw λw hS=>?_|refine Gb λb w hS=>?_
   rw[ui]at hS
   exact⟨⟨q+1,rfl,by omega,aR hS⟩,by dsimp only;omega⟩
  have WY:a+q=min (a+C) (T s').length:=by omega
  rw[WY]at hS
  repeat first|refine Gp ?_|refine Gw λw hS=>?_|refine Gb λb w hS=>?_
  rw[ui]at hS
  exact⟨⟨j+1,p2,_,H7,rfl,pk,Pt,aR hS⟩,by dsimp only;omega⟩
 clear hS
 rintro w ⟨p,tl,H5,_,⟨hF1,vV,XP⟩,hg,tm,hS⟩
 rw[<- ui]at hS
 try simp only[app]at hS
 have D_:=hg.reqs.1
 have we:=hg.src
 repeat first|refine Gp ?_|refine Gw λw hS=>?_|refine Gb λb w hS=>?_
 refine Cc (yE x.mp x.wp H5 p.m (by omega)) ?_;clear hS
 rintro u post rfl w hS
 try simp only[app]at hS
 refine zt hS (v:=u) (t:=125) (sz:=7) (n:=p.m.reqs.length) (cells:=(p.m.reqs.map kT).flatten) Xh ?_
 repeat first|refine Gp ?_|refine Gw λw hS=>?_|refine Gb λb w hS=>?_
 refine za (λh=>absurd (by omega) h) (λ_=>?_)
 have k8:∀{w:World},SL W (.mem H5::F) w->∃post,((Value.bool true)= .bool true/\∃H' l,H.le H'/\post= .mem H'::l)/\SL W (app post F) w:=λhS=>⟨_,⟨rfl,H5,[],bw.le_trans Ar tm,rfl⟩,hS⟩
 refine⟨λus w=>∃q:Nat,us=[.int .i64 q]/\q<=p.m.reqs.length/\SL W (p6 u p.m.reqs::s5 tb tl::CB::app (sk x H5 p) F) w,
  λus _=>match us with|[.int _ q]=>(p.m.reqs.length-q).toNat|_=>0,⟨0,rfl,Nat.zero_le _,by rw[ui]at hS;exact aR hS⟩,?_⟩
 clear hS
 rintro v27 w ⟨q,cW,hq,hS⟩
 cases cW
 rw[<- ui]at hS
 try simp only[app]at hS
 refine zt hS (v:=u) (t:=125) (sz:=7) (n:=p.m.reqs.length) (cells:=(p.m.reqs.map kT).flatten) Xh ?_
 repeat first|refine Gp ?_|refine Gw λw hS=>?_|refine Gb λb w hS=>?_
 refine za (λkI=>?_) (λkI=>k8 (aR hS))
 have kI:q<p.m.reqs.length:=by omega
 have D7:q<tl.length:=by omega
 obtain⟨f1,f2,f3,f4,f5⟩:=XP q kI D7
 have XY:=nt q (by omega)
 have AR:p.m.reqs[q]?=some p.m.reqs[q]:=List.getElem?_eq_getElem kI
 generalize p.m.reqs[q]=r at *
 repeat first|refine Gp ?_|refine Gw λw hS=>?_|refine Gb λb w hS=>?_
 refine zy (i:=1) hS (v:=u) (t:=125) Xh lU AR kI (u:=.int .i64 r.table) rfl ?_
 rw[f1]
 repeat first|refine Gp ?_|refine Gw λw hS=>?_|refine Gb λb w hS=>?_
 refine za (λh=>absurd h (by omega)) (λ_=>?_)
 repeat first|refine Gp ?_|refine Gw λw hS=>?_|refine Gb λb w hS=>?_
 refine zy (i:=1) hS (v:=u) (t:=125) Xh lU AR kI (u:=.int .i64 r.table) rfl ?_
 rw[f1]
 repeat first|refine Gp ?_|refine Gw λw hS=>?_|refine Gb λb w hS=>?_
 refine za (λh=>absurd h (by omega)) (λ_=>?_)
 have v_:∀C∈p.k.ts,C.length<=1000000:=λC hC=>by have:=we.len C hC;omega
 have hS:=ir.iff.1 (SL.b4 hS (t:=.ob (ir x.sp x.tp x.dp x.lp p.k)::p6 u p.m.reqs::s5 tb tl::.pt cb [.int .i64 (s:Int),.int .i64 cl,.int .i64 wW,.int .i64 cq,.int .i64 (C:Int),.int .i64 oh,.int .i64 pH,.int .i64 cm,.int .i64 cj,.int .i64 ce] 87::vB x::.pt x.pp (mi x.sp x.mp x.wp x.gp p.n) 201::.ob (jS x.gp p.d)::.ob (e_ x.mp x.wp H5 p.m)::.ob (cw x.dp p.k.d)::.mem H5::F) Xi)
 repeat first|refine Gp ?_|refine Gw λw hS=>?_|refine Gb λb w hS=>?_
 refine zy (i:=1) hS (v:=u) (t:=125) Xh lU AR kI (u:=.int .i64 r.table) rfl ?_
 rw[f1]
 refine Cc (Z8 x.tp p.k.ts (q:Int) v_) ?_;clear hS
 rintro u2 post rfl w hS
 try simp only[app]at hS
 rw[f5]at hS
 have hS:=ir.put p.k hS Xp (sp:=x.sp)
 refine zt hS (v:=u2) (t:=52) (sz:=2) (n:=(T q).length) (cells:=((T q).map iq).flatten) Xh ?_
 repeat first|refine Gp ?_|refine Gw λw hS=>?_|refine Gb λb w hS=>?_
 refine zy (i:=6) hS (v:=u) (t:=125) Xh lU AR kI (u:=.bool r.done) rfl ?_
 rw[f2]
 repeat first|refine Gp ?_|refine Gw λw hS=>?_|refine Gb λb w hS=>?_
 refine zq ?_
 repeat first|refine Gp ?_|refine Gw λw hS=>?_|refine Gb λb w hS=>?_
 refine zy (i:=1) hS (v:=u) (t:=125) Xh lU AR kI (u:=.int .i64 r.table) rfl ?_
 rw[f1]
 have mB:(tl.map λa:Nat=>Value.int .i64 (a:Int))[0+q*1]?=some (.int .i64 ((T q).length:Int)):=by
  rw[Nat.zero_add,Nat.mul_one,List.getElem?_map,List.getElem?_eq_getElem D7,f4];rfl
 refine zB (show q<s by omega) ?_
 refine zX hS Xh mB ?_
 repeat first|refine Gp ?_|refine Gw λw hS=>?_|refine Gb λb w hS=>?_
 refine za (λh=>absurd rfl h) (λ_=>?_)
 repeat first|refine Gp ?_|refine Gw λw hS=>?_|refine Gb λb w hS=>?_
 refine zy (i:=5) hS (v:=u) (t:=125) Xh lU AR kI (u:=.int .i64 r.chunks) rfl ?_
 rw[f3]
 repeat first|refine Gp ?_|refine Gw λw hS=>?_|refine Gb λb w hS=>?_
 have Gc:((T q).length:Int).tdiv (C:Int)=(((T q).length / C:Nat):Int):=by rw[Int.tdiv_eq_ediv_of_nonneg (by omega)];rfl
 have tx:=Nat.div_le_self (T q).length C
 generalize (T q).length / C=y at *
 refine bIx (by omega) (by rw[Gc];omega) ?_
 rw[Gc]
 clear Gc
 repeat first|refine Gp ?_|refine Gw λw hS=>?_|refine Gb λb w hS=>?_
 refine za (λh=>absurd (by omega) h) (λ_=>?_)
 repeat first|refine Gp ?_|refine Gw λw hS=>?_|refine Gb λb w hS=>?_
 rw[ui]at hS
 exact⟨⟨q+1,rfl,by omega,aR hS⟩,by dsimp only;omega⟩
theorem cFl(c:oM)(rows:List ig)(more:List ByteArray)(hr:rows.length<=140737488351232)(hm:more.length<=140737488351232)(cs:Array Value)(v1 v2:Value)(w:World)(hc:I1.rd w rK c cs.toList)(h1:sn EV w rK rows v1)(h2:sn C1 w rK more v2):
  Calls Tryz.prog 10 #[.agg cs,v1,v2] w λe w'=>e= .returned (.bool true)/\Below w.heap.size w w':=by
 obtain rfl:cs=(rR c).toArray:=by rw[<- bR2 hc]
 exact (Y8 (Z7 (bw.of w) c v1 v2 rows more (h1.flat bR3 (λ_=>rfl)) (bRx h2) hr hm)).calls
end Go.Proofs.YtfenmffiidchcaaGreat
