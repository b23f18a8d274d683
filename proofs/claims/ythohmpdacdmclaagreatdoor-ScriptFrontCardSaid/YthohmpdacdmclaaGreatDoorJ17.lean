/- Part. -/
import Derived.Test.YthohmpdacdmclaaGreatDoorJ16
import Derived.Test.YthohmpdacdmclaaGreatDoorRows
namespace Go.Proofs.YthohmpdacdmclaaGreatDoor
set_option linter.all false
def Tryz.own:ownKnob Tryz.prog.godebug=none:=by kernel_rfl
def Tryz.laidOut:laidOutB Tryz.prog=true:=by kernel_rfl
set_option maxRecDepth 100000
open Go.ChangeShapes Go.WideShapes Go.ChangeAt Go.RowKit Go.Proofs.Tryz
def kD.aWi{α:Type}{T:gE α}{w:Ζ}{xs:List α}{v:Ε}(h:kD T w jJ xs v)(hT:0<T.n):
  ∃uT:List Ξ,uT.length=xs.length/\cn (a_.of w) T.n v xs.length uT.flatten/\∀i (h:i<xs.length) (h':i<uT.length),T.rd w jJ xs[i] uT[i]:=by
 obtain⟨a,cap,rfl,hc,hx⟩:=h.out;have hex:∀i,∃cs:Ξ,cs.length=T.n/\∀h:i<xs.length,T.rd w jJ xs[i] cs/\∃b off,a=some ⟨b,off,none⟩/\At w jJ b (off+i*T.n) cs:=λi=>by
  by_cases hi:i<xs.length
  ·obtain⟨b,off,cs,ha,hr,gx⟩:=hx i hi;exact⟨cs,T.len hr,λ_=>⟨hr,b,off,ha,gx⟩⟩
  exact⟨List.replicate T.n undef,by simp,λh=>absurd h hi⟩
 obtain⟨f,hf⟩:=Classical.axiomOfChoice hex;have hlen:∀x∈(List.range xs.length).map f,x.length=T.n:=λx hx=>by
  obtain⟨i,_,rfl⟩:=zz5.1 hx;exact (hf i).1
 have lO:((List.range xs.length).map f).flatten.length=xs.length*T.n:=by rw[HV (n:=T.n) _ hlen];simp
 refine⟨(List.range xs.length).map f,by simp,⟨lO,a,cap,rfl,hc,?_⟩,λi hi wK=>?_⟩
 ·rcases yy8 xs.length with h0|h0
  ·exact .inl h0
  right;obtain⟨_,b,off,rfl,_⟩:=(hf 0).2 h0;refine⟨b,off,rfl,λj u hu=>?_⟩;have hj:=(zzh.1 hu).1;rw[lO]at hj
  have hi:j / T.n<xs.length:=(uue hT).2 hj;obtain⟨_,b',bq9,tR,gx⟩:=(hf (j / T.n)).2 hi;simp at tR;obtain⟨rfl,rfl⟩:=tR;have wS:j % T.n<(f (j / T.n)).length:=by rw[(hf _).1];exact vvc _ hT
  have hg:=Em (n:=T.n) ((List.range xs.length).map f) hlen (j / T.n) (j % T.n) (by simpa using hi) ((f (j / T.n))[j % T.n]'wS) (by simp[zzd wS]);have Is:j / T.n*T.n+j % T.n=j:=by rw[Nat.mul_comm];exact vv0 j T.n
  rw[Is,hu]at hg
  have I8:u=(f (j / T.n))[j % T.n]:=xx1 hg;have:=gx.2 (j % T.n) u (by rw[I8];exact zzd wS);rw[show off+j / T.n*T.n+j % T.n=off+j by omega]at this
  unfold World.cell? at this;unfold a_.cell a_.of;simp only at this ⊢;split at this
  ·rename_i c t f oy;rw[oy];simpa using this
  cases this
 simpa using ((hf i).2 hi).1
def Gd:gE da:=(jy (kU .i64) (jy (kU .i64) (jy Xq (jy Dx Be)))).via λo=>(o.table,o.key,o.gone,o.val,())
def bAf{w:Ζ}{M:MS}{o:da}{cs:Ξ}(h:Gd.rd w M o cs):cs=eM o:=by
 obtain⟨c1,c2,rfl,h1,c3,c4,rfl,h3,c5,c6,rfl,h5,c7,c8,rfl,h7,h8⟩:=h;have wD:c1=[Γ o.table]:=h1;have tO:c3=[Γ o.key]:=h3;have Cf:c5=[.bool o.gone]:=h5;have Ch:c7=[.string o.val]:=h7;have H_:c8=[]:=h8;subst wD tO Cf Ch H_;rfl
def brd(c:da):Prop:=Fq .i64 c.key
def aWq:l8 prog 118 Gd brd:=
 Zj (y1 (λo:da=>(o.table,o.key,o.gone,o.val,())) (λx=>⟨x.1,x.2.1,x.2.2.1,x.2.2.2.1⟩) (λ_=>rfl)
  (yu underlying118 (by kernel_rfl) (jQ (mw yyc (by kernel_rfl)) rfl (jQ (mw xxg (by kernel_rfl)) rfl (jQ (QI uug (by kernel_rfl)) rfl (jQ (YJ yyz (by kernel_rfl)) rfl (Ei _ _))))))) (λo h=>h.2.1)
def SI{α:Type}(f:α->Ε):∀l:List α,(l.map λx=>[f x]).flatten=l.map f
 | []=>rfl
 | x::l=>by simp only[zzp,zz2,SI f l];rfl
def kD.ints{k:IntKind}{w:Ζ}{l:Ω}{v:Ε}(h:kD (kU k) w jJ l v):cn (a_.of w) 1 v l.length (l.map (Value.int k)):=by
 have h2:=h.flat (enc:=λx=>[.int k x]) (λh=>h) (λ_=>rfl);rw[SI]at h2
 exact h2
def Kt:gE eK:=(jy (kU .i64) (jy (kU .i64) Be)).via λf=>(f.kind,f.keep,())
def bAg{w:Ζ}{M:MS}{f:eK}{cs:Ξ}(h:Kt.rd w M f cs):cs=eY f:=by
 obtain⟨c1,c2,rfl,h1,c3,c4,rfl,h3,h4⟩:=h;have wD:c1=[Γ f.kind]:=h1;have tO:c3=[Γ f.keep]:=h3;have h4':c4=[]:=h4;subst wD tO h4';rfl
def V1(f:eK):Prop:=kJ f.kind/\kJ f.keep
def bf1:l8 prog 41 Kt V1:=
 Zj (y1 (λf:eK=>(f.kind,f.keep,())) (λx=>⟨x.1,x.2.1⟩) (λ_=>rfl)
  (yu underlying41 (by kernel_rfl) (jQ (mw yyc (by kernel_rfl)) rfl (jQ (mw yyc (by kernel_rfl)) rfl (Ei _ _)))))
  (λf h=>⟨C6 h.1,C6 h.2.1⟩)
def Ks:gE cX:=(jy (kU .i64) (jy (kU .i64) (jy (kU .i64) (jy (kU .i64) (jy (kU .i64) (jy (kU .i64) (jy (kU .i64) (jy (kU .i64) (jy (kU .i64) (jy (kU .i64) Be)))))))))).via λc=>(c.tables,c.late,c.size,c.queue,c.chunk,c.batch,c.base,c.bI,c.rZ,c.every,())
def bAe{w:Ζ}{M:MS}{c:cX}{cs:Ξ}(h:Ks.rd w M c cs):cs=mf c:=by
 obtain⟨c1,c2,rfl,h1,c3,c4,rfl,h3,c5,c6,rfl,h5,c7,c8,rfl,h7,c9,c10,rfl,h9,Hk,BQ,rfl,vd,c13,c14,rfl,Es,c15,c16,rfl,h15,c17,c18,rfl,h17,c19,c20,rfl,h19,h20⟩:=h;have wD:c1=[Γ c.tables]:=h1;have tO:c3=[Γ c.late]:=h3;have Cf:c5=[Γ c.size]:=h5;have Ch:c7=[Γ c.queue]:=h7;have Ia:c9=[Γ c.chunk]:=h9;have H8:Hk=[Γ c.batch]:=vd;have bgo:c13=[Γ c.base]:=Es;have bgq:c15=[Γ c.bI]:=h15;have bgs:c17=[Γ c.rZ]:=h17;have bgu:c19=[Γ c.every]:=h19;have bgw:c20=[]:=h20;subst wD tO Cf Ch Ia H8 bgo bgq bgs bgu bgw;rfl
def brc(c:cX):Prop:=True
def bK7:l8 prog 23 Ks brc:=
 Zj (y1 (λc:cX=>(c.tables,c.late,c.size,c.queue,c.chunk,c.batch,c.base,c.bI,c.rZ,c.every,())) (λx=>⟨x.1,x.2.1,x.2.2.1,x.2.2.2.1,x.2.2.2.2.1,x.2.2.2.2.2.1,x.2.2.2.2.2.2.1,x.2.2.2.2.2.2.2.1,x.2.2.2.2.2.2.2.2.1,x.2.2.2.2.2.2.2.2.2.1⟩) (λ_=>rfl)
  (yu underlying23 (by kernel_rfl) (jQ (mw yyc (by kernel_rfl)) rfl (jQ (mw yyc (by kernel_rfl)) rfl (jQ (mw yyc (by kernel_rfl)) rfl (jQ (mw yyc (by kernel_rfl)) rfl (jQ (mw yyc (by kernel_rfl)) rfl (jQ (mw yyc (by kernel_rfl)) rfl
   (jQ (mw xxg (by kernel_rfl)) rfl (jQ (mw xxg (by kernel_rfl)) rfl (jQ (mw xxg (by kernel_rfl)) rfl (jQ (mw xxg (by kernel_rfl)) rfl (Ei _ _)))))))))))))
  (λc h=>trivial)
def bAa{w:Ζ}{l:Ψ}{v:Ε}(h:kD Dx w jJ l v):cn (a_.of w) 1 v l.length (l.map Value.string):=by
 have:=h.flat (enc:=λs=>[.string s]) (λh=>h) (λ_=>rfl);rw[FM]at this
 exact this
def Gf:gE cx:=(jy (kU .i64) (jy (kU .i64) (jy (Ge Dx) (jy (Ge Gd) (jy Kt (jy (Ge (kU .i64)) Be)))))).via λo=>(o.kind,o.n,o.sg,o.l,o.ft,o.keep,())
def bAh{w:Ζ}{o:cx}{cs:Ξ}(h:Gf.rd w jJ o cs):∃x:gr,cs=dF x/\gH (a_.of w) x o:=by
 obtain⟨c1,c2,rfl,h1,c3,c4,rfl,h3,c5,c6,rfl,h5,c7,c8,rfl,h7,c9,c10,rfl,h9,Hk,BQ,rfl,vd,cF⟩:=h;have wD:c1=[Γ o.kind]:=h1;have tO:c3=[Γ o.n]:=h3;obtain⟨sv,Cf,AI⟩:∃v,c5=[v]/\kD Dx w jJ o.sg v:=h5;obtain⟨cv,Ch,rQ⟩:∃v,c7=[v]/\kD Gd w jJ o.l v:=h7;have Ia:=bAg h9;obtain⟨kv,H8,CF⟩:∃v,Hk=[v]/\kD (kU .i64) w jJ o.keep v:=vd;have bgn:BQ=[]:=cF;subst wD tO Cf Ch Ia H8 bgn;exact⟨⟨o.kind,o.n,sv,cv,o.ft,kv⟩,rfl,rfl,rfl,rfl,bAa AI,rQ.flat bAf (λ_=>rfl),CF.ints⟩
def oK.of{w:Ζ}{l:List cx}{v:Ε}(h:kD Gf w jJ l v):oK (a_.of w) v l:=by
 obtain⟨uT,h1,h2,h3⟩:=kD.aWi h (by decide);have hex:∀i,∃x:gr,∀(h:i<l.length) (h':i<uT.length),uT[i]=dF x/\gH (a_.of w) x l[i]:=λi=>by
  by_cases hi:i<l.length
  ·obtain⟨x,e,hx⟩:=bAh (h3 i hi (by omega));exact⟨x,λ_ _=>⟨e,hx⟩⟩
  exact⟨⟨0,0,Θ,Θ,⟨0,0⟩,Θ⟩,λh=>absurd h hi⟩
 obtain⟨f,hf⟩:=Classical.axiomOfChoice hex;refine⟨(List.range l.length).map f,by simp,?_,λi hi wK=>by simpa using (hf i hi (by omega)).2⟩;have e:uT=((List.range l.length).map f).map dF:=xx2 (by simp[h1]) λi g1 g2=>by simpa using (hf i (by omega) g1).1
 rw[e]at h2
 exact h2
structure FL(s:cx):Prop where
 kind:kJ s.kind
 n:kJ s.n
 sg:s.sg.length<=140737488351232
 l:s.l.length<=140737488351232
 ch:∀c∈s.l,kJ c.key
 ft:V1 s.ft
 keep:s.keep.length<=140737488351232
def bMz:l8 prog 43 Gf FL:=
 Zj (y1 (λo:cx=>(o.kind,o.n,o.sg,o.l,o.ft,o.keep,())) (λx=>⟨x.1,x.2.1,x.2.2.1,x.2.2.2.1,x.2.2.2.2.1,x.2.2.2.2.2.1⟩) (λ_=>rfl)
  (yu underlying43 (by kernel_rfl) (jQ (mw yyc (by kernel_rfl)) rfl (jQ (mw xxg (by kernel_rfl)) rfl
   (jQ (JX (b:=16) (YJ yyz (by kernel_rfl)) underlying38 (by kernel_rfl) (by kernel_rfl) (by decide)) rfl
    (jQ (JX (b:=40) aWq underlying39 (by kernel_rfl) (by kernel_rfl) (by decide)) rfl
     (jQ bf1 rfl (jQ (JX (b:=8) (mw yyc (by kernel_rfl)) underlying35 (by kernel_rfl) (by kernel_rfl) (by decide)) rfl (Ei _ _)))))))))
  (λo h=>by
   have h3:=h.2.2.1;have h4:=h.2.2.2.1;have h6:=h.2.2.2.2.2.1;exact⟨C6 h.1,C6 h.2.1,by have:=h3.1;simp only at this;omega,by have:=h4.1;simp only at this;omega,λc hc=>C6 (h4.2 c hc),h.2.2.2.2.1,by have:=h6.1;simp only at this;omega⟩)
set_option maxRecDepth 100000
open Go.RowKit
def aWp(c:da)(k:Nat)(hk:0<k)(hk8:k<=8):0<=(fW c k).table/\(fW c k).table<k/\1<=(fW c k).key/\(fW c k).key<=1099511627776/\(fW c k).val.size<=32/\((fW c k).gone=true->(fW c k).val=emp):=by
 have h1:=fy c.table k hk;have h2:=fy c.key 12 (by decide);have h3:=fy c.key 1099511627776 (by decide);refine⟨xx5 _,by show (md c.table k:Int)<k;omega,?_,?_,?_,?_⟩
 ·unfold fW;simp only;split<;>omega
 ·unfold fW;simp only;split<;>omega
 ·unfold fW;simp only;split
  ·decide
  unfold BY;rw[ByteArray.size_extract];omega
 intro h;have h:c.gone=true:=h;unfold fW;simp only;rw[zzc h];rfl
def bfz(f:eK):(tL f).keep<=2147483647:=by
 have h:=fy f.keep 300 (by decide);unfold tL;split
 ·show (md f.keep 300:Int)<=_;omega
 show (0:Int)<=_;omega
def bzy{H:a_}{y:gr}{t:cx}(hy:gH H y t):∀u∈dF y,u.oneCell'=true:=by
 intro u hu;simp only[dF,yya,yy5,vvb]at hu;rcases hu with rfl|rfl|rfl|rfl|rfl|rfl|rfl
 ·rfl
 ·rfl
 ·exact hy.sv.one
 ·exact hy.cv.one
 ·rfl
 ·rfl
 exact hy.kv.one
def Vr{l:List da}{sg:Ψ}(h1:l.length<=16)(h2:sg.length<=2)(h3:∀c∈l,kN c 8=true)(h4:∀s∈sg,s.size<=40):c_ ⟨1,1,l,sg,0⟩=true:=ur.2 ⟨⟨show (1:Int)<=1 by decide,show (1:Int)<=1099511627776 by decide⟩,.inl ⟨rfl,rfl,h1,h2,h3,h4⟩⟩
def Vu:c_ ⟨1,1,[],[],0⟩=true:=Vr (by decide) (by decide) (λ_ h=>by cases h) (λ_ h=>by cases h)
def bom{rs:Ψ}{l:List da}(Ce:∀s∈rs,s.size<=40)(hr:rs.length<=1)(hl:l.length<=4)(hc:∀c∈l,kN c 8=true):ix ⟨1,0,rs,l,fH,[]⟩=true:=
 s8.2 ⟨⟨⟨show (1:Int)<=1 by decide,show (1:Int)<=8 by decide⟩,⟨show (0:Int)<=0 by decide,show (0:Int)<=1125899906842624 by decide⟩,.inl rfl,.inl rfl,.inr rfl,.inr rfl,.inl rfl,(λh=>absurd h (show ¬(1:Int)=3 by decide)),zz6 _⟩,Vr (show l.length<=16 by omega) (show rs.length<=2 by omega) hc Ce,λ_ h=>by cases h⟩
def boo{kd nn:Int}{ft:eK}(a1:2<=kd/\kd<=7/\0<=nn/\nn<=40/\(nn=0\/kd=2\/kd=4\/kd=5\/kd=7))(a2:kd≠3/\ft=fH\/kd=3/\fI ft=true/\ft.keep<=2147483647):ix ⟨kd,nn,[],[],ft,[]⟩=true:=by
 refine s8.2 ⟨⟨⟨?_,?_⟩,⟨?_,?_⟩,?_,?_,.inl rfl,.inl rfl,.inl rfl,λh=>?_,zz6 _⟩,Vu,λ_ h=>by cases h⟩
 ·show 1<=kd;omega
 ·show kd<=8;omega
 ·show 0<=nn;omega
 ·show nn<=1125899906842624;omega
 ·exact a1.2.2.2.2
 ·rcases a2 with h|h
  ·exact .inl h.2
  exact .inr h.1
 rcases a2 with h2|h2
 ·exact absurd h h2.1
 exact h2.2
def bon{rs:Ω}(hl:rs.length<=20)(hr:∀k∈rs,0<=k/\k<200):ix ⟨8,0,[],[],fH,rs⟩=true:=
 s8.2 ⟨⟨⟨show (1:Int)<=8 by decide,show (8:Int)<=8 by decide⟩,⟨show (0:Int)<=0 by decide,show (0:Int)<=1125899906842624 by decide⟩,.inl rfl,.inl rfl,.inl rfl,.inl rfl,.inr rfl,(λh=>absurd h (show ¬(8:Int)=3 by decide)),show rs.length<=64 by omega⟩,Vu,λk h=>by have:=hr k h;omega⟩
def Qz(H:a_)(v:Ε)(l:Ω)(bI:Nat)(hv:cn H 1 v l.length (l.map (Value.int .i64)))(hm:bI<=1000)(hn:l.length<=140737488351232):
  SP 24 [v,Γ bI] [.mem H] (λu post=>∃(H':a_) (rs:Ω),H.le H'/\rs.length<=bI/\(∀k∈rs,0<=k/\k<200)/\cn H' 1 u rs.length (rs.map (Value.int .i64))/\post=[.mem H']):=by
 refine Enzz λW F w hS=>?_;apply bF0;delta aI ai bc;refine⟨λus w=>∃(m:Nat) (u:Ε) (rs:Ω),us=[u,Γ m]/\m<=l.length/\rs.length=m/\m<=bI/\(∀k∈rs,0<=k/\k<200)/\SL W (.ob (bd u 3 1 m (rs.map (Value.int .i64)))::.mem H::F) w,
  λus _=>match us with|[_,.int _ m]=>(l.length-m).toNat|_=>0,⟨0,_,[],rfl,by omega,rfl,by omega,(λ_ h=>by cases h),bd.nil hS⟩,?_⟩
 clear hS;rintro v7 v8 w ⟨m,u,rs,bM,mU,wZ,ub,oB,hS⟩;cases bM;have e_:∀w,SL W (.ob (bd v7 3 1 m (rs.map (Value.int .i64)))::.mem H::F) w ->
   ∃post,(∃(H':a_) (rs:Ω),H.le H'/\rs.length<=bI/\(∀k∈rs,0<=k/\k<200)/\cn H' 1 v7 rs.length (rs.map (Value.int .i64))/\post=[.mem H'])/\SL W (app post F) w:=λw hS=>by
  obtain⟨H2,cF,hR,hS⟩:=zA (H:=H) (v:=v7) hS Xp;rw[<- wZ]at hR
  exact⟨_,⟨H2,rs,cF,by omega,oB,hR,rfl⟩,hS⟩
 refine zn hv ?_;refine Gp ?_;refine za (λh=>?_) (λh=>e_ w hS);refine Gp ?_;refine za (λh3=>?_) (λh3=>e_ w hS);clear e_;have bn:m<l.length:=by omega
 refine yA hS Xh hv bn (u:=Γ l[m]) (by simp[bn]) ?_;refine Cg (yc l[m] 200 (by decide) (by decide)) λw hS=>?_;refine Gm λb w hS=>?_;refine zL (n:=m) (m:=1) hS Xr (jx (cs:=[Γ (md l[m] 200:Int)]) hS .hd rfl) rfl rfl (by simp[Value.oneCell']) (by omega) (by omega) ?_;clear hS;intro u' w hS;refine Gp ?_;refine⟨⟨m+1,u',rs++[(md l[m] 200:Int)],rfl,(by omega),(by simp[wZ]),(by omega),(λk hk=>by
  have h2:=fy l[m] 200 (by decide);rcases zz4.1 hk with h|h
  ·exact oB k h
  rw[zz8.1 h];omega),(by rw[zzr,zzp,yy6];exact aR hS)⟩,(by dsimp only;omega)⟩
def qJ(H:a_)(x:gr)(s:cx)(k:Nat)(hx:gH H x s)(h1:0<k)(h2:k<=8)(l1:s.sg.length<=140737488351232)(l2:s.l.length<=140737488351232)(l3:s.keep.length<=140737488351232):
  SP 11 [agg (dF x),Γ k] [.mem H] (λv post=>∃(H':a_) (y:gr) (t:cx),H.le H'/\v=agg (dF y)/\gH H' y t/\ix t=true/\post=[.mem H']):=by
 refine Enzz λW F w hS=>?_;apply bCi;delta aI aW bg uN ai bc;obtain⟨e1,e2,e3,AI,rQ,CF⟩:=hx;refine zx hS λxb w hS=>?_;unfold dF at hS;rw[e1,e2,e3]at hS
 have hk:=fy s.kind 24 (by decide);have nl:∀(H:a_) (sz:Nat),cn H sz Θ 0 []:=cn.nil;refine Gm λb w hS=>?_;refine Cg (yc s.kind 24 (by decide) (by decide)) λw hS=>?_;refine za (λh5=>?_) (λh5=>?_)
 ·refine Gn λw hS=>?_;refine Cc (YU H x.cv s.l k 4 rQ h1 h2 (by decide) l2) ?_;clear hS;rintro u post ⟨H1,bX,hR,rfl⟩ w hS;(try simp only[app]at hS);refine Gp ?_
  refine Cc (bzd H1 x.sv s.sg k 1 (AI.mono bX) h1 h2 (by decide) l1) ?_;clear hS;rintro u2 post ⟨H2,rs,cF,vw,IV,nF,rfl⟩ w hS;try simp only[app]at hS
  obtain⟨a1,n1,c1,rfl⟩:=hR.Jn;obtain⟨a2,n2,c2,rfl⟩:=nF.Jn;refine Gn λw hS=>?_;refine⟨_,⟨H2,⟨1,0,.slice a2 n2 c2,.slice a1 n1 c1,fH,Θ⟩,⟨1,0,rs,(s.l.take 4).map (fW · k),fH,[]⟩,a_.le_trans bX cF,rfl,⟨rfl,rfl,rfl,nF,hR.mono cF,nl _ _⟩,bom (IV) vw ?_ ?_,rfl⟩,aR hS⟩
  ·rw[zzv,zzf];omega
  intro c hc;obtain⟨c0,_,rfl⟩:=zz5.1 hc;obtain⟨m1,m2,m3,m4,m5,m6⟩:=aWp c0 k h1 h2;exact uq.2 ⟨m1,by omega,m3,m4,m5,m6⟩
 refine Gp ?_;have mk:∀(kd nn:Int) (ft:eK),(2<=kd/\kd<=7/\0<=nn/\nn<=40/\(nn=0\/kd=2\/kd=4\/kd=5\/kd=7))->(kd≠3/\ft=fH\/kd=3/\fI ft=true/\ft.keep<=2147483647)->gH H ⟨kd,nn,Θ,Θ,ft,Θ⟩ ⟨kd,nn,[],[],ft,[]⟩/\ix ⟨kd,nn,[],[],ft,[]⟩=true:=λkd nn ft a1 a2=>⟨⟨rfl,rfl,rfl,nl _ _,nl _ _,nl _ _⟩,boo a1 a2⟩;refine za (λh6=>?_) (λh6=>?_)
 ·refine Gp ?_;refine Cg (zP s.n 5 (by decide) (by decide)) λw hS=>?_;have hb:=fy s.n 5 (by decide);obtain⟨m1,m2⟩:=mk 2 (md s.n 5:Int) fH (by omega) (.inl ⟨by decide,rfl⟩);exact⟨_,⟨H,⟨2,(md s.n 5:Int),Θ,Θ,fH,Θ⟩,_,a_.le_refl H,rfl,m1,m2,rfl⟩,aR hS⟩
 refine bj (λh7=>?_) (λh7=>?_)
 ·refine Gp ?_;refine yh (vs:=eY s.ft) hS Xh rfl (λj v h=>?_) ?_
  ·match j,h with
   | 0,h=>exact h
   | 1,h=>exact h
   | j+2,h=>simp[eY]at h
  refine Cg (qC s.ft) λw hS=>?_;unfold eY;refine Gn λw hS=>?_;obtain⟨m1,m2⟩:=mk 3 0 (tL s.ft) (by decide) (.inr ⟨rfl,bf0 s.ft,bfz s.ft⟩);exact⟨_,⟨H,⟨3,0,Θ,Θ,tL s.ft,Θ⟩,_,a_.le_refl H,rfl,m1,m2,rfl⟩,aR hS⟩
 refine bj (λh8=>?_) (λh8=>?_)
 ·refine Gp ?_;have hb:=fy s.n 5 (by decide);refine Cg (zP s.n 5 (by decide) (by decide)) λw hS=>?_;obtain⟨m1,m2⟩:=mk 4 (1+(md s.n 5:Int)) fH (by omega) (.inl ⟨by decide,rfl⟩);exact⟨_,⟨H,⟨4,1+(md s.n 5:Int),Θ,Θ,fH,Θ⟩,_,a_.le_refl H,rfl,m1,m2,rfl⟩,aR hS⟩
 refine bj (λh9=>?_) (λh9=>?_)
 ·refine Gp ?_;refine Cg (zP s.n 40 (by decide) (by decide)) λw hS=>?_;have hb:=fy s.n 40 (by decide);obtain⟨m1,m2⟩:=mk 5 (md s.n 40:Int) fH (by omega) (.inl ⟨by decide,rfl⟩);exact⟨_,⟨H,⟨5,(md s.n 40:Int),Θ,Θ,fH,Θ⟩,_,a_.le_refl H,rfl,m1,m2,rfl⟩,aR hS⟩
 refine bj (λsP=>?_) (λsP=>?_)
 ·refine Gn λw hS=>?_;obtain⟨m1,m2⟩:=mk 6 0 fH (by decide) (.inl ⟨by decide,rfl⟩);exact⟨_,⟨H,⟨6,0,Θ,Θ,fH,Θ⟩,_,a_.le_refl H,rfl,m1,m2,rfl⟩,aR hS⟩
 refine bj (λvd=>?_) (λvd=>?_)
 ·refine Gp ?_;have hb:=fy s.n 4 (by decide);refine Cg (zP s.n 4 (by decide) (by decide)) λw hS=>?_;obtain⟨m1,m2⟩:=mk 7 (1+(md s.n 4:Int)) fH (by omega) (.inl ⟨by decide,rfl⟩);exact⟨_,⟨H,⟨7,1+(md s.n 4:Int),Θ,Θ,fH,Θ⟩,_,a_.le_refl H,rfl,m1,m2,rfl⟩,aR hS⟩
 refine Gp ?_;refine Cc (Qz H x.kv s.keep 20 CF (by decide) l3) ?_;clear hS;rintro u post ⟨H1,rs,bX,vw,oB,hR,rfl⟩ w hS;try simp only[app]at hS
 obtain⟨a1,n1,c1,rfl⟩:=hR.Jn;refine Gn λw hS=>?_;exact⟨_,⟨H1,⟨8,0,Θ,Θ,fH,.slice a1 n1 c1⟩,⟨8,0,[],[],fH,rs⟩,bX,rfl,⟨rfl,rfl,rfl,nl _ _,nl _ _,hR⟩,bon vw oB,rfl⟩,aR hS⟩
def Y0(H:a_)(v:Ε)(l:List cx)(k bI:Nat)(hv:oK H v l)(h1:0<k)(h2:k<=8)(hm:bI<=1000)(bC:∀s∈l,FL s):
  SP 5 [v,Γ k,Γ bI] [.mem H] (λu post=>∃(H':a_) (a:List cx),H.le H'/\oK H' u a/\a.length<=bI/\(∀s∈a,ix s=true)/\post=[.mem H']):=by
 refine Enzz λW F w hS=>?_;apply vc5;delta aI ai bc;obtain⟨xs,iL,mW,rX⟩:=hv;refine⟨λus w=>∃(m:Nat) (u:Ε) (H2:a_) (ys:List gr) (a:List cx),us=[u,Γ m]/\m<=l.length/\m<=bI/\H.le H2/\ys.length=m/\a.length=m/\(∀s∈a,ix s=true)/\(∀i (h:i<a.length) (h':i<ys.length),gH H2 ys[i] a[i])/\SL W (.ob (bd u 43 7 m (ys.map dF).flatten)::.mem H2::F) w,
  λus _=>match us with|[_,.int _ m]=>(l.length-m).toNat|_=>0,⟨0,_,H,[],[],rfl,by omega,by omega,a_.le_refl H,rfl,rfl,(λ_ h=>by cases h),(λi h=>absurd h (uum i)),bd.nil hS⟩,?_⟩
 clear hS;rintro v7 v8 w ⟨m,u,H2,ys,a,bM,mU,ub,dW,pZ,oZ,dK,C5,hS⟩;cases bM;have e_:∀w,SL W (.ob (bd v7 43 7 m (ys.map dF).flatten)::.mem H2::F) w ->
   ∃post,(∃(H':a_) (a:List cx),H.le H'/\oK H' v7 a/\a.length<=bI/\(∀s∈a,ix s=true)/\post=[.mem H'])/\SL W (app post F) w:=λw hS=>by
  obtain⟨H3,dG,hR,hS⟩:=zA (H:=H2) (v:=v7) hS Xp;exact⟨_,⟨H3,a,a_.le_trans dW dG,⟨ys,by omega,by rw[oZ];exact hR,λi h h'=>(C5 i h h').mono dG⟩,by omega,dK,rfl⟩,hS⟩
 refine zn mW ?_;refine Gp ?_;refine za (λh=>?_) (λh=>e_ w hS);refine Gp ?_;refine za (λh3=>?_) (λh3=>e_ w hS);clear e_;have EZ:m<l.length:=by omega
 have jc:m<xs.length:=by omega
 have hx:=(rX m EZ jc).mono dW;have hs:=bC l[m] (zzk EZ);have Fk:xs[m]?=some xs[m]:=zzd jc;generalize hX:xs[m]=x at *
 generalize l[m]=s at *
 refine zB hS Xh pG (mW.mono dW) Fk EZ ?_;refine Cc (qJ H2 x s k hx h1 h2 hs.sg hs.l hs.keep) ?_;clear hS;rintro _ post ⟨H3,y,t,dG,rfl,hy,ht,rfl⟩ w hS;try simp only[app]at hS
 refine zR hS (cells:=dF y) (by rfl) ?_;clear hS;intro b w hS;refine zL (n:=m) (m:=1) hS Xr (jx (cs:=dF y) hS .hd rfl) rfl rfl (bzy hy) (by omega) (by omega) ?_;clear hS;intro u' w hS;refine Gp ?_;refine⟨⟨m+1,u',H3,ys++[y],a++[t],rfl,by omega,by omega,a_.le_trans dW dG,by simp[pZ],by simp[oZ],λs hs=>?_,λi h h'=>?_,(by rw[u0];exact aR hS)⟩,(by dsimp only;omega)⟩
 ·rcases zz4.1 hs with h|h
  ·exact dK s h
  rw[zz8.1 h];exact ht
 by_cases e:i<m
 ·rw[yy2 (by omega),yy2 (by omega)];exact (C5 i (by omega) (by omega)).mono dG
 have e:i=m:=by simp at h;omega
 subst e;have e1:(ys++[y])[i]=y:=by rw[xxw (by omega)];simp[pZ]
 have e2:(a++[t])[i]=t:=by rw[xxw (by omega)];simp[oZ]
 rw[e1,e2];exact hy
abbrev BT:cX:=⟨1,0,256,4,2,4,1,8,0,5⟩
abbrev Fw:cT:=⟨4,4,1,8,0⟩
def stA:cx:=⟨1,0,[],[⟨0,5,false,⟨#[97]⟩⟩],fH,[]⟩
def J4(n:Int):cx:=⟨2,n,[],[],fH,[]⟩
def Rn:bq:=xZ BT 1
def Ro:bq:=(Rn.fM BT Fw stA).1
def Rp:bq:=(Ro.fM BT Fw (J4 0)).1
def Rr:bq:=(Rp.fM BT Fw (J4 1)).1
def cA4:bq:=(Rr.fM BT Fw (J4 3)).1
attribute [local irreducible] Rn Ro Rp Rr cA4
end Go.Proofs.YthohmpdacdmclaaGreatDoor
namespace Go.Proofs.YthohmpdacdmclaaGreatDoor
set_option linter.all false
set_option maxRecDepth 100000
open Go.ChangeShapes Go.WideShapes Go.ChangeAt Go.RowKit
def Jp(c:cX):cT:=⟨1+md c.queue 5,1+md c.batch 4,1+(md c.base 4:Int),1+(md c.base 4:Int)+(md c.bI 12:Int),(md c.rZ 4:Int)⟩
def aWb(c:cX):CC (BU c) (Jp c) (1+md c.tables 4):=by
 have h1:=fy c.tables 4 (by decide);have h2:=fy c.size 4 (by decide);have h3:=fy c.chunk 4 (by decide);have h4:=fy c.queue 5 (by decide);have h5:=fy c.batch 4 (by decide);have h6:=fy c.base 4 (by decide);have h7:=fy c.bI 12 (by decide);have h8:=fy c.rZ 4 (by decide);have h9:=fy c.every 8 (by decide);have hp:0<2 ^ (1+md c.tables 4):=Nat.pow_pos (by decide);have sP:=fy c.late (2 ^ (1+md c.tables 4)) hp;have hs:=aWm h2;refine⟨by omega,by omega,by show (1:Int)+(md c.tables 4:Int)=((1+md c.tables 4:Nat):Int);omega,by show (0:Int)<=(md c.late (2 ^ (1+md c.tables 4)):Int);omega,?_,hs.1,by show tC (md c.size 4)<=_;omega,by show 1+(md c.queue 5:Int)=((1+md c.queue 5:Nat):Int);omega,by show 1<=1+md c.queue 5;omega,by show 1+md c.queue 5<=64;omega,by show (1:Int)<=1+(md c.chunk 4:Int);omega,by show 1+(md c.chunk 4:Int)<=64;omega,by show 1+(md c.batch 4:Int)=((1+md c.batch 4:Nat):Int);omega,by show 1<=1+md c.batch 4;omega,by show 1+md c.batch 4<=64;omega,rfl,rfl,rfl,?_,by show (1:Int)<=1+(md c.every 8:Int);omega,by show 1+(md c.every 8:Int)<=1073741824;omega⟩
 ·show (md c.late (2 ^ (1+md c.tables 4)):Int)<2 ^ (1+md c.tables 4);have:((2 ^ (1+md c.tables 4):Nat):Int)=(2:Int) ^ (1+md c.tables 4):=by simp
  omega
 unfold pw Jp;dsimp only;omega
abbrev aWc(cf:cX):Ξ:=[Γ cf.tables,Γ cf.late,Γ cf.size,Γ cf.queue,Γ cf.chunk,Γ cf.batch,Γ cf.base,Γ cf.bI,Γ cf.rZ,Γ cf.every]
section
variable {cf:cX} {kc:cT} {n j:Nat} {AL:List bD} {c:bq}
end
