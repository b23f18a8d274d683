/- Part. -/
import Derived.Test.YtgfbifafbkkghaaGreatDoorJ14
import Derived.Test.YtgfbifafbkkghaaGreatDoorRows
namespace Go.Proofs.YtgfbifafbkkghaaGreatDoor
set_option linter.all false
def Tryz.own:ownKnob Tryz.prog.godebug=none:=by kernel_rfl
def Tryz.laidOut:laidOutB Tryz.prog=true:=by kernel_rfl
set_option maxRecDepth 100000
open Go.ChangeShapes Go.WideShapes Go.ChangeAt Go.RowKit Go.Proofs.Tryz
def gE.Rg{α:Type}{T:fh α}{w:Ζ}{xs:List α}{v:Ε}(h:gE T w gj xs v)(hT:0<T.n):
  ∃pq:List Ξ,pq.length=xs.length/\bK (aX.of w) T.n v xs.length pq.flatten/\∀i (h:i<xs.length) (h':i<pq.length),T.rd w gj xs[i] pq[i]:=by
 obtain⟨a,cap,rfl,hc,hx⟩:=h.out;have hex:∀i,∃cs:Ξ,cs.length=T.n/\∀h:i<xs.length,T.rd w gj xs[i] cs/\∃b off,a=some ⟨b,off,none⟩/\At w gj b (off+i*T.n) cs:=λi=>by
  by_cases hi:i<xs.length
  ·obtain⟨b,off,cs,ha,hr,ie⟩:=hx i hi;exact⟨cs,T.len hr,λ_=>⟨hr,b,off,ha,ie⟩⟩
  exact⟨List.replicate T.n undef,by simp,λh=>absurd h hi⟩
 obtain⟨f,hf⟩:=Classical.axiomOfChoice hex;have hlen:∀x∈(List.range xs.length).map f,x.length=T.n:=λx hx=>by
  obtain⟨i,_,rfl⟩:=zz1.1 hx;exact (hf i).1
 have j3:((List.range xs.length).map f).flatten.length=xs.length*T.n:=by rw[Cr (n:=T.n) _ hlen];simp
 refine⟨(List.range xs.length).map f,by simp,⟨j3,a,cap,rfl,hc,?_⟩,λi hi CU=>?_⟩
 ·rcases yy7 xs.length with h0|h0
  ·exact .inl h0
  right;obtain⟨_,b,off,rfl,_⟩:=(hf 0).2 h0;refine⟨b,off,rfl,λj u hu=>?_⟩;have hj:=(zzf.1 hu).1;rw[j3]at hj
  have hi:j / T.n<xs.length:=(uuc hT).2 hj;obtain⟨_,b',WX,oQ,ie⟩:=(hf (j / T.n)).2 hi;simp at oQ;obtain⟨rfl,rfl⟩:=oQ;have rT:j % T.n<(f (j / T.n)).length:=by rw[(hf _).1];exact uun _ hT
  have hg:=xA (n:=T.n) ((List.range xs.length).map f) hlen (j / T.n) (j % T.n) (by simpa using hi) ((f (j / T.n))[j % T.n]'rT) (by simp[zzc rT]);have CL:j / T.n*T.n+j % T.n=j:=by rw[Nat.mul_comm];exact uu3 j T.n
  rw[CL,hu]at hg
  have Dh:u=(f (j / T.n))[j % T.n]:=xxx hg;have:=ie.2 (j % T.n) u (by rw[Dh];exact zzc rT);rw[show off+j / T.n*T.n+j % T.n=off+j by omega]at this
  unfold World.cell? at this;unfold aX.cell aX.of;simp only at this ⊢;split at this
  ·rename_i c t f jk;rw[jk];simpa using this
  cases this
 simpa using ((hf i).2 hi).1
def A0:fh bY:=(jO (lT .i64) (jO (lT .i64) (jO OC (jO tW tX)))).via λo=>(o.table,o.key,o.gone,o.val,())
def aFv{w:Ζ}{M:MS}{o:bY}{cs:Ξ}(h:A0.rd w M o cs):cs=dh o:=by
 obtain⟨c1,c2,rfl,h1,c3,c4,rfl,h3,c5,c6,rfl,h5,c7,c8,rfl,h7,h8⟩:=h;have rG:c1=[Γ o.table]:=h1;have oP:c3=[Γ o.key]:=h3;have vg:c5=[.bool o.gone]:=h5;have Cx:c7=[.string o.val]:=h7;have Cy:c8=[]:=h8;subst rG oP vg Cx Cy;rfl
def W3(c:bY):Prop:=mc .i64 c.key
def Q3:jG prog 70 A0 W3:=
 y8 (yV (λo:bY=>(o.table,o.key,o.gone,o.val,())) (λx=>⟨x.1,x.2.1,x.2.2.1,x.2.2.2.1⟩) (λ_=>rfl)
  (yn underlying70 (by kernel_rfl) (ko (o4 zz9 (by kernel_rfl)) rfl (ko (o4 xxm (by kernel_rfl)) rfl (ko (qD wwo (by kernel_rfl)) rfl (ko (Zj yyx (by kernel_rfl)) rfl (xu _ _))))))) (λo h=>h.2.1)
def Kg{α:Type}(f:α->Ε):∀l:List α,(l.map λx=>[f x]).flatten=l.map f
 | []=>rfl
 | x::l=>by simp only[zzj,zzt,Kg f l];rfl
def gE.ints{k:IntKind}{w:Ζ}{l:Ω}{v:Ε}(h:gE (lT k) w gj l v):bK (aX.of w) 1 v l.length (l.map (Value.int k)):=by
 have h2:=h.flat (enc:=λx=>[.int k x]) (λh=>h) (λ_=>rfl);rw[Kg]at h2
 exact h2
def ou(x:Int):Κ:=UInt8.ofNat x.toNat
def Es{x:Int}(h:mc .u8 x):bo (ou x)= .int .u8 x:=by
 have:=Vk h;unfold bo ou;congr 1;rw[uup];omega
def OP:∀{l:Ω},(∀x∈l,mc .u8 x)->l.map (Value.int .u8)=(l.map ou).map bo
 | [],_=>rfl
 | x::l,h=>by
  simp only[zzj,Es (h x (.head _))];rw[OP λy hy=>h y (.tail _ hy)]
def bK.ou{H:aX}{v:Ε}{l:Ω}(h:bK H 1 v l.length (l.map (Value.int .u8)))(br:∀x∈l,mc .u8 x):bK H 1 v (l.map ou).length ((l.map ou).map bo):=by
 rw[OP br]at h
 rw[yyh];exact h
def Eo:fh fE:=(jO (lT .i64) (jO (lT .i64) tX)).via λf=>(f.kind,f.bh,())
def aFx{w:Ζ}{M:MS}{f:fE}{cs:Ξ}(h:Eo.rd w M f cs):cs=eE f:=by
 obtain⟨c1,c2,rfl,h1,c3,c4,rfl,h3,h4⟩:=h;have rG:c1=[Γ f.kind]:=h1;have oP:c3=[Γ f.bh]:=h3;have Tq:c4=[]:=h4;subst rG oP Tq;rfl
def Nj(f:fE):Prop:=jL f.kind/\jL f.bh
def S_:jG prog 26 Eo Nj:=
 y8 (yV (λf:fE=>(f.kind,f.bh,())) (λx=>⟨x.1,x.2.1⟩) (λ_=>rfl)
  (yn underlying26 (by kernel_rfl) (ko (o4 zz9 (by kernel_rfl)) rfl (ko (o4 zz9 (by kernel_rfl)) rfl (xu _ _)))))
  (λf h=>⟨vP h.1,vP h.2.1⟩)
def aFr{w:Ζ}{l:Ψ}{v:Ε}(h:gE tW w gj l v):bK (aX.of w) 1 v l.length (l.map Value.string):=by
 have:=h.flat (enc:=λs=>[.string s]) (λh=>h) (λ_=>rfl);rw[tM]at this
 exact this
def sj:fh bB:=(jO (lT .i64) (jO (lT .i64) (jO (A1 tW) (jO (A1 A0) (jO Eo (jO (A1 (lT .i64)) tX)))))).via λo=>(o.kind,o.n,o.sg,o.l,o.ft,o.bh,())
def OD{w:Ζ}{o:bB}{cs:Ξ}(h:sj.rd w gj o cs):∃x:dJ,cs=bT x/\dG (aX.of w) x o:=by
 obtain⟨c1,c2,rfl,h1,c3,c4,rfl,h3,c5,c6,rfl,h5,c7,c8,rfl,h7,c9,c10,rfl,h9,Rb,w_,rfl,oO,cT⟩:=h;have rG:c1=[Γ o.kind]:=h1;have oP:c3=[Γ o.n]:=h3;obtain⟨sv,vg,De⟩:∃v,c5=[v]/\gE tW w gj o.sg v:=h5;obtain⟨cv,Cx,CK⟩:∃v,c7=[v]/\gE A0 w gj o.l v:=h7;have Tt:=aFx h9;obtain⟨kv,To,C2⟩:∃v,Rb=[v]/\gE (lT .i64) w gj o.bh v:=oO;have Tp:w_=[]:=cT;subst rG oP vg Cx Tt To Tp;exact⟨⟨o.kind,o.n,sv,cv,o.ft,kv⟩,rfl,rfl,rfl,rfl,aFr De,CK.flat aFv (λ_=>rfl),C2.ints⟩
def eJ.of{w:Ζ}{l:List bB}{v:Ε}(h:gE sj w gj l v):eJ (aX.of w) v l:=by
 obtain⟨pq,h1,h2,h3⟩:=gE.Rg h (by decide);have hex:∀i,∃x:dJ,∀(h:i<l.length) (h':i<pq.length),pq[i]=bT x/\dG (aX.of w) x l[i]:=λi=>by
  by_cases hi:i<l.length
  ·obtain⟨x,e,hx⟩:=OD (h3 i hi (by omega));exact⟨x,λ_ _=>⟨e,hx⟩⟩
  exact⟨⟨0,0,Θ,Θ,⟨0,0⟩,Θ⟩,λh=>absurd h hi⟩
 obtain⟨f,hf⟩:=Classical.axiomOfChoice hex;refine⟨(List.range l.length).map f,by simp,?_,λi hi CU=>by simpa using (hf i hi (by omega)).2⟩;have e:pq=((List.range l.length).map f).map bT:=vvp (by simp[h1]) λi g1 g2=>by simpa using (hf i (by omega) g1).1
 rw[e]at h2
 exact h2
structure oY(s:bB):Prop where
 kind:jL s.kind
 n:jL s.n
 sg:s.sg.length<=140737488351232
 l:s.l.length<=140737488351232
 ch:∀c∈s.l,jL c.key
 ft:Nj s.ft
 bh:s.bh.length<=140737488351232
def bd2:jG prog 29 sj oY:=
 y8 (yV (λo:bB=>(o.kind,o.n,o.sg,o.l,o.ft,o.bh,())) (λx=>⟨x.1,x.2.1,x.2.2.1,x.2.2.2.1,x.2.2.2.2.1,x.2.2.2.2.2.1⟩) (λ_=>rfl)
  (yn underlying29 (by kernel_rfl) (ko (o4 zz9 (by kernel_rfl)) rfl (ko (o4 xxm (by kernel_rfl)) rfl
   (ko (DV (b:=16) (Zj yyx (by kernel_rfl)) underlying23 (by kernel_rfl) (by kernel_rfl) (by decide)) rfl
    (ko (DV (b:=40) Q3 underlying24 (by kernel_rfl) (by kernel_rfl) (by decide)) rfl
     (ko S_ rfl (ko (DV (b:=8) (o4 zz9 (by kernel_rfl)) underlying27 (by kernel_rfl) (by kernel_rfl) (by decide)) rfl (xu _ _)))))))))
  (λo h=>by
   have h3:=h.2.2.1;have h4:=h.2.2.2.1;have h6:=h.2.2.2.2.2.1;exact⟨vP h.1,vP h.2.1,by have:=h3.1;simp only at this;omega,by have:=h4.1;simp only at this;omega,λc hc=>vP (h4.2 c hc),h.2.2.2.2.1,by have:=h6.1;simp only at this;omega⟩)
set_option maxRecDepth 100000
open Go.RowKit
def Ri(c:bY)(k:Nat)(hk:0<k)(hk8:k<=8):0<=(eS c k).table/\(eS c k).table<k/\1<=(eS c k).key/\(eS c k).key<=1099511627776/\(eS c k).val.size<=32/\((eS c k).gone=true->(eS c k).val=emp):=by
 have h1:=iX c.table k hk;have h2:=iX c.key 12 (by decide);have h3:=iX c.key 1099511627776 (by decide);refine⟨wwb _,by show (md c.table k:Int)<k;omega,?_,?_,?_,?_⟩
 ·unfold eS;simp only;split<;>omega
 ·unfold eS;simp only;split<;>omega
 ·unfold eS;simp only;split
  ·decide
  unfold uM;rw[ByteArray.size_extract];omega
 intro h;have h:c.gone=true:=h;unfold eS;simp only;rw[zzd h];rfl
def S9(f:fE):(oM f).bh<=2147483647:=by
 have h:=iX f.bh 300 (by decide);unfold oM;split
 ·show (md f.bh 300:Int)<=_;omega
 show (0:Int)<=_;omega
def aFd{H:aX}{y:dJ}{t:bB}(hy:dG H y t):∀u∈bT y,u.oneCell'=true:=by
 intro u hu;simp only[bT,zzv,yy8,vvf]at hu;rcases hu with rfl|rfl|rfl|rfl|rfl|rfl|rfl
 ·rfl
 ·rfl
 ·exact hy.sv.one
 ·exact hy.cv.one
 ·rfl
 ·rfl
 exact hy.kv.one
def MG{l:List bY}{sg:Ψ}(h1:l.length<=16)(h2:sg.length<=2)(h3:∀c∈l,fQ c 8=true)(h4:∀s∈sg,s.size<=40):cI ⟨1,1,l,sg,0⟩=true:=tE.2 ⟨⟨show (1:Int)<=1 by decide,show (1:Int)<=1099511627776 by decide⟩,.inl ⟨rfl,rfl,h1,h2,h3,h4⟩⟩
def DF:cI ⟨1,1,[],[],0⟩=true:=MG (by decide) (by decide) (λ_ h=>by cases h) (λ_ h=>by cases h)
def Wn{rs:Ψ}{l:List bY}(xG:∀s∈rs,s.size<=40)(hr:rs.length<=1)(hl:l.length<=4)(hc:∀c∈l,fQ c 8=true):du ⟨1,0,rs,l,dL,[]⟩=true:=
 iA.2 ⟨⟨⟨show (1:Int)<=1 by decide,show (1:Int)<=8 by decide⟩,⟨show (0:Int)<=0 by decide,show (0:Int)<=1125899906842624 by decide⟩,.inl rfl,.inl rfl,.inr rfl,.inr rfl,.inl rfl,(λh=>absurd h (show ¬(1:Int)=3 by decide)),yye _⟩,MG (show l.length<=16 by omega) (show rs.length<=2 by omega) hc xG,λ_ h=>by cases h⟩
def Ws{kd nn:Int}{ft:fE}(a1:2<=kd/\kd<=7/\0<=nn/\nn<=40/\(nn=0\/kd=2\/kd=4\/kd=5\/kd=7))(a2:kd≠3/\ft=dL\/kd=3/\eY ft=true/\ft.bh<=2147483647):du ⟨kd,nn,[],[],ft,[]⟩=true:=by
 refine iA.2 ⟨⟨⟨?_,?_⟩,⟨?_,?_⟩,?_,?_,.inl rfl,.inl rfl,.inl rfl,λh=>?_,yye _⟩,DF,λ_ h=>by cases h⟩
 ·show 1<=kd;omega
 ·show kd<=8;omega
 ·show 0<=nn;omega
 ·show nn<=1125899906842624;omega
 ·exact a1.2.2.2.2
 ·rcases a2 with h|h
  ·exact .inl h.2
  exact .inr h.1
 rcases a2 with h2|h2
 ·exact absurd h h2.1
 exact h2.2
def Wo{rs:Ω}(hl:rs.length<=20)(hr:∀k∈rs,0<=k/\k<200):du ⟨8,0,[],[],dL,rs⟩=true:=
 iA.2 ⟨⟨⟨show (1:Int)<=8 by decide,show (8:Int)<=8 by decide⟩,⟨show (0:Int)<=0 by decide,show (0:Int)<=1125899906842624 by decide⟩,.inl rfl,.inl rfl,.inl rfl,.inl rfl,.inr rfl,(λh=>absurd h (show ¬(8:Int)=3 by decide)),show rs.length<=64 by omega⟩,DF,λk h=>by have:=hr k h;omega⟩
def qv(H:aX)(v:Ε)(l:Ω)(cC:Nat)(hv:bK H 1 v l.length (l.map (Value.int .i64)))(hm:cC<=1000)(hn:l.length<=140737488351232):
  SP 52 [v,Γ cC] [.mem H] (λu post=>∃(H':aX) (rs:Ω),H.le H'/\rs.length<=cC/\(∀k∈rs,0<=k/\k<200)/\bK H' 1 u rs.length (rs.map (Value.int .i64))/\post=[.mem H']):=by
 refine Enzz λW F w hS=>?_;apply aZ4;delta aF ai aZ;refine⟨λus w=>∃(m:Nat) (u:Ε) (rs:Ω),us=[u,Γ m]/\m<=l.length/\rs.length=m/\m<=cC/\(∀k∈rs,0<=k/\k<200)/\SL W (.ob (aY u 3 1 m (rs.map (Value.int .i64)))::.mem H::F) w,
  λus _=>match us with|[_,.int _ m]=>(l.length-m).toNat|_=>0,⟨0,_,[],rfl,by omega,rfl,by omega,(λ_ h=>by cases h),aY.nil hS⟩,?_⟩
 clear hS;rintro v7 v8 w ⟨m,u,rs,bM,nf,rW,tm,l9,hS⟩;cases bM;have fM:∀w,SL W (.ob (aY v7 3 1 m (rs.map (Value.int .i64)))::.mem H::F) w ->
   ∃post,(∃(H':aX) (rs:Ω),H.le H'/\rs.length<=cC/\(∀k∈rs,0<=k/\k<200)/\bK H' 1 v7 rs.length (rs.map (Value.int .i64))/\post=[.mem H'])/\SL W (app post F) w:=λw hS=>by
  obtain⟨H2,cT,hR,hS⟩:=zW (H:=H) (v:=v7) hS Xp;rw[<- rW]at hR
  exact⟨_,⟨H2,rs,cT,by omega,l9,hR,rfl⟩,hS⟩
 refine zh hv ?_;refine Gp ?_;refine za (λh=>?_) (λh=>fM w hS);refine Gp ?_;refine za (λh3=>?_) (λh3=>fM w hS);clear fM;have bg:m<l.length:=by omega
 refine yg hS Xh hv bg (u:=Γ l[m]) (by simp[bg]) ?_;refine Cg (yt l[m] 200 (by decide) (by decide)) λw hS=>?_;refine Gm λb w hS=>?_;refine zx (n:=m) (m:=1) hS Xr (fC (cs:=[Γ (md l[m] 200:Int)]) hS .hd rfl) rfl rfl (by simp[Value.oneCell']) (by omega) (by omega) ?_;clear hS;intro u' w hS;refine Gp ?_;refine⟨⟨m+1,u',rs++[(md l[m] 200:Int)],rfl,(by omega),(by simp[rW]),(by omega),(λk hk=>by
  have h2:=iX l[m] 200 (by decide);rcases yyb.1 hk with h|h
  ·exact l9 k h
  rw[zz8.1 h];omega),(by rw[zzx,zzj,xxa];exact aI hS)⟩,(by dsimp only;omega)⟩
def YX(H:aX)(x:dJ)(s:bB)(k:Nat)(hx:dG H x s)(h1:0<k)(h2:k<=8)(l1:s.sg.length<=140737488351232)(l2:s.l.length<=140737488351232)(l3:s.bh.length<=140737488351232):
  SP 21 [agg (bT x),Γ k] [.mem H] (λv post=>∃(H':aX) (y:dJ) (t:bB),H.le H'/\v=agg (bT y)/\dG H' y t/\du t=true/\post=[.mem H']):=by
 refine Enzz λW F w hS=>?_;apply aW7;delta aF aW ba pe ai aZ;obtain⟨e1,e2,e3,De,CK,C2⟩:=hx;refine zu hS λxb w hS=>?_;unfold bT at hS;rw[e1,e2,e3]at hS
 have hk:=iX s.kind 24 (by decide);have nl:∀(H:aX) (sz:Nat),bK H sz Θ 0 []:=bK.nil;refine Gm λb w hS=>?_;refine Cg (yt s.kind 24 (by decide) (by decide)) λw hS=>?_;refine za (λh5=>?_) (λh5=>?_)
 ·refine Gn λw hS=>?_;refine Cc (Yk H x.cv s.l k 4 CK h1 h2 (by decide) l2) ?_;clear hS;rintro u post ⟨H1,dF,hR,rfl⟩ w hS;(try simp only[app]at hS);refine Gp ?_
  refine Cc (awv H1 x.sv s.sg k 1 (De.mono dF) h1 h2 (by decide) l1) ?_;clear hS;rintro u2 post ⟨H2,rs,cT,vG,C_,nP,rfl⟩ w hS;try simp only[app]at hS
  obtain⟨a1,n1,c1,rfl⟩:=hR.pO;obtain⟨a2,n2,c2,rfl⟩:=nP.pO;refine Gn λw hS=>?_;refine⟨_,⟨H2,⟨1,0,.slice a2 n2 c2,.slice a1 n1 c1,dL,Θ⟩,⟨1,0,rs,(s.l.take 4).map (eS · k),dL,[]⟩,aX.le_trans dF cT,rfl,⟨rfl,rfl,rfl,nP,hR.mono cT,nl _ _⟩,Wn (C_) vG ?_ ?_,rfl⟩,aI hS⟩
  ·rw[yyh,zzn];omega
  intro c hc;obtain⟨c0,_,rfl⟩:=zz1.1 hc;obtain⟨m1,m2,m3,m4,m5,m6⟩:=Ri c0 k h1 h2;exact pS.2 ⟨m1,by omega,m3,m4,m5,m6⟩
 refine Gp ?_;have mk:∀(kd nn:Int) (ft:fE),(2<=kd/\kd<=7/\0<=nn/\nn<=40/\(nn=0\/kd=2\/kd=4\/kd=5\/kd=7))->(kd≠3/\ft=dL\/kd=3/\eY ft=true/\ft.bh<=2147483647)->dG H ⟨kd,nn,Θ,Θ,ft,Θ⟩ ⟨kd,nn,[],[],ft,[]⟩/\du ⟨kd,nn,[],[],ft,[]⟩=true:=λkd nn ft a1 a2=>⟨⟨rfl,rfl,rfl,nl _ _,nl _ _,nl _ _⟩,Ws a1 a2⟩;refine za (λh6=>?_) (λh6=>?_)
 ·refine Gp ?_;refine Cg (z8 s.n 5 (by decide) (by decide)) λw hS=>?_;have hb:=iX s.n 5 (by decide);obtain⟨m1,m2⟩:=mk 2 (md s.n 5:Int) dL (by omega) (.inl ⟨by decide,rfl⟩);exact⟨_,⟨H,⟨2,(md s.n 5:Int),Θ,Θ,dL,Θ⟩,_,aX.le_refl H,rfl,m1,m2,rfl⟩,aI hS⟩
 refine bw (λh7=>?_) (λh7=>?_)
 ·refine Gp ?_;refine yl (vs:=eE s.ft) hS Xh rfl (λj v h=>?_) ?_
  ·match j,h with
   | 0,h=>exact h
   | 1,h=>exact h
   | j+2,h=>simp[eE]at h
  refine Cg (YR s.ft) λw hS=>?_;unfold eE;refine Gn λw hS=>?_;obtain⟨m1,m2⟩:=mk 3 0 (oM s.ft) (by decide) (.inr ⟨rfl,S' s.ft,S9 s.ft⟩);exact⟨_,⟨H,⟨3,0,Θ,Θ,oM s.ft,Θ⟩,_,aX.le_refl H,rfl,m1,m2,rfl⟩,aI hS⟩
 refine bw (λh8=>?_) (λh8=>?_)
 ·refine Gp ?_;have hb:=iX s.n 5 (by decide);refine Cg (z8 s.n 5 (by decide) (by decide)) λw hS=>?_;obtain⟨m1,m2⟩:=mk 4 (1+(md s.n 5:Int)) dL (by omega) (.inl ⟨by decide,rfl⟩);exact⟨_,⟨H,⟨4,1+(md s.n 5:Int),Θ,Θ,dL,Θ⟩,_,aX.le_refl H,rfl,m1,m2,rfl⟩,aI hS⟩
 refine bw (λh9=>?_) (λh9=>?_)
 ·refine Gp ?_;refine Cg (z8 s.n 40 (by decide) (by decide)) λw hS=>?_;have hb:=iX s.n 40 (by decide);obtain⟨m1,m2⟩:=mk 5 (md s.n 40:Int) dL (by omega) (.inl ⟨by decide,rfl⟩);exact⟨_,⟨H,⟨5,(md s.n 40:Int),Θ,Θ,dL,Θ⟩,_,aX.le_refl H,rfl,m1,m2,rfl⟩,aI hS⟩
 refine bw (λkR=>?_) (λkR=>?_)
 ·refine Gn λw hS=>?_;obtain⟨m1,m2⟩:=mk 6 0 dL (by decide) (.inl ⟨by decide,rfl⟩);exact⟨_,⟨H,⟨6,0,Θ,Θ,dL,Θ⟩,_,aX.le_refl H,rfl,m1,m2,rfl⟩,aI hS⟩
 refine bw (λoO=>?_) (λoO=>?_)
 ·refine Gp ?_;have hb:=iX s.n 4 (by decide);refine Cg (z8 s.n 4 (by decide) (by decide)) λw hS=>?_;obtain⟨m1,m2⟩:=mk 7 (1+(md s.n 4:Int)) dL (by omega) (.inl ⟨by decide,rfl⟩);exact⟨_,⟨H,⟨7,1+(md s.n 4:Int),Θ,Θ,dL,Θ⟩,_,aX.le_refl H,rfl,m1,m2,rfl⟩,aI hS⟩
 refine Gp ?_;refine Cc (qv H x.kv s.bh 20 C2 (by decide) l3) ?_;clear hS;rintro u post ⟨H1,rs,dF,vG,l9,hR,rfl⟩ w hS;try simp only[app]at hS
 obtain⟨a1,n1,c1,rfl⟩:=hR.pO;refine Gn λw hS=>?_;exact⟨_,⟨H1,⟨8,0,Θ,Θ,dL,.slice a1 n1 c1⟩,⟨8,0,[],[],dL,rs⟩,dF,rfl,⟨rfl,rfl,rfl,nl _ _,nl _ _,hR⟩,Wo vG l9,rfl⟩,aI hS⟩
def yG(H:aX)(v:Ε)(l:List bB)(k cC:Nat)(hv:eJ H v l)(h1:0<k)(h2:k<=8)(hm:cC<=1000)(br:∀s∈l,oY s):
  SP 8 [v,Γ k,Γ cC] [.mem H] (λu post=>∃(H':aX) (a:List bB),H.le H'/\eJ H' u a/\a.length<=cC/\(∀s∈a,du s=true)/\post=[.mem H']):=by
 refine Enzz λW F w hS=>?_;apply vc8;delta aF ai aZ;obtain⟨xs,iT,eG,ik⟩:=hv;refine⟨λus w=>∃(m:Nat) (u:Ε) (H2:aX) (ys:List dJ) (a:List bB),us=[u,Γ m]/\m<=l.length/\m<=cC/\H.le H2/\ys.length=m/\a.length=m/\(∀s∈a,du s=true)/\(∀i (h:i<a.length) (h':i<ys.length),dG H2 ys[i] a[i])/\SL W (.ob (aY u 29 7 m (ys.map bT).flatten)::.mem H2::F) w,
  λus _=>match us with|[_,.int _ m]=>(l.length-m).toNat|_=>0,⟨0,_,H,[],[],rfl,by omega,by omega,aX.le_refl H,rfl,rfl,(λ_ h=>by cases h),(λi h=>absurd h (www i)),aY.nil hS⟩,?_⟩
 clear hS;rintro v7 v8 w ⟨m,u,H2,ys,a,bM,nf,tm,ep,j4,m_,nU,pL,hS⟩;cases bM;have fM:∀w,SL W (.ob (aY v7 29 7 m (ys.map bT).flatten)::.mem H2::F) w ->
   ∃post,(∃(H':aX) (a:List bB),H.le H'/\eJ H' v7 a/\a.length<=cC/\(∀s∈a,du s=true)/\post=[.mem H'])/\SL W (app post F) w:=λw hS=>by
  obtain⟨H3,da,hR,hS⟩:=zW (H:=H2) (v:=v7) hS Xp;exact⟨_,⟨H3,a,aX.le_trans ep da,⟨ys,by omega,by rw[m_];exact hR,λi h h'=>(pL i h h').mono da⟩,by omega,nU,rfl⟩,hS⟩
 refine zh eG ?_;repeat first|refine Gp ?_|refine Gw λw hS=>?_|refine Gb λb w hS=>?_
 refine za (λh=>?_) (λh=>fM w hS);repeat first|refine Gp ?_|refine Gw λw hS=>?_|refine Gb λb w hS=>?_
 refine za (λh3=>?_) (λh3=>fM w hS);clear fM;have CW:m<l.length:=by omega
 have gm:m<xs.length:=by omega
 have hx:=(ik m CW gm).mono ep;have hs:=br l[m] (zzi CW);have UX:xs[m]?=some xs[m]:=zzc gm;generalize hX:xs[m]=x at *
 generalize l[m]=s at *
 refine zy hS Xh iy (eG.mono ep) UX CW ?_;refine Cc (YX H2 x s k hx h1 h2 hs.sg hs.l hs.bh) ?_;clear hS;rintro _ post ⟨H3,y,t,da,rfl,hy,ht,rfl⟩ w hS;try simp only[app]at hS
 refine zA hS (cells:=bT y) (by rfl) ?_;clear hS;intro b w hS;refine zx (n:=m) (m:=1) hS Xr (fC (cs:=bT y) hS .hd rfl) rfl rfl (aFd hy) (by omega) (by omega) ?_;clear hS;intro u' w hS;repeat first|refine Gp ?_|refine Gw λw hS=>?_|refine Gb λb w hS=>?_
 refine⟨⟨m+1,u',H3,ys++[y],a++[t],rfl,by omega,by omega,aX.le_trans ep da,by simp[j4],by simp[m_],λs hs=>?_,λi h h'=>?_,(by rw[rD];exact aI hS)⟩,(by dsimp only;omega)⟩
 ·rcases yyb.1 hs with h|h
  ·exact nU s h
  rw[zz8.1 h];exact ht
 by_cases e:i<m
 ·rw[yy6 (by omega),yy6 (by omega)];exact (pL i (by omega) (by omega)).mono da
 have e:i=m:=by simp at h;omega
 subst e;have e1:(ys++[y])[i]=y:=by rw[yy0 (by omega)];simp[j4]
 have e2:(a++[t])[i]=t:=by rw[yy0 (by omega)];simp[m_]
 rw[e1,e2];exact hy
set_option maxRecDepth 100000
open Go.ChangeShapes Go.WideShapes Go.ChangeAt Go.RowKit
def Wq{s:bB}(h:du s=true):s.sg.length<=2/\s.l.length<=16/\s.bh.length<=64:=by
 obtain⟨⟨_,_,_,_,_,_,_,_,hk⟩,ht,_⟩:=iA.1 h;have hb:=iW ht;exact⟨hb.2.2.2.2.1,hb.2.2.2.1,hk⟩
def aIl(l:Φ):∀v∈l.map bo,v.oneCell'=true:=λv hv=>by
 obtain⟨x,_,rfl⟩:=zz1.1 hv;rfl
set_option maxHeartbeats 4000000 in
def Zw(H:aX)(v:Ε)(l:List bB)(m:Κ)(hv:eJ H v l)(br:∀s∈l,oY s):
  SP 4 [v,bo m] [.mem H] (λv post=>v= .bool true/\∃H' l,H.le H'/\post= .mem H'::l):=by
 refine Enzz λW F w hS=>?_;apply vc4;delta aF bD bc ai;refine Cc (yG H v l 8 60 hv (by decide) (by decide) (by decide) br) ?_;clear hS;rintro u0 post ⟨H1,a,dF,ha,m_,nU,rfl⟩ w hS;try simp only[app]at hS
 have hm:iV a=true:=jM.2 ⟨nU,by omega⟩;obtain⟨bs,eb,db,KJ,KK,RN,R_⟩:=wj hm (by omega);have hlen:∀s∈a,s.sg.length<=2/\s.l.length<=16/\s.bh.length<=64:=λs hs=>Wq (nU s hs);refine Cc (zV H1 u0 a ha (λs hs=>by have:=hlen s hs;omega) (by omega)) ?_;clear hS;rintro u post hq w hS;obtain⟨q_,rfl,rfl⟩:=sR eb hq;try simp only[app]at hS
 repeat first|refine Gp ?_|refine Gw λw hS=>?_|refine Gb λb w hS=>?_
 refine Cc (zS) ?_;clear hS;(rintro v post ⟨rfl,rfl⟩ w hS;(try simp only[app]at hS);(repeat (first|refine Gp ?_|refine Gw λw hS=>?_|refine Gb λb w hS=>?_)))
 refine zs ?_;repeat first|refine Gp ?_|refine Gw λw hS=>?_|refine Gb λb w hS=>?_
 refine Χ ?_;refine zB hS (v:=q_) Xh ?_;repeat first|refine Gp ?_|refine Gw λw hS=>?_|refine Gb λb w hS=>?_
 refine Χ ?_;refine Cc (zU (.ob (aY q_ 5 1 bs.length (bs.map bo))) H1 q_ bs bN.own) ?_;clear hS;rintro u1 post hq w hS;unfold kD at hq;rw[db]at hq
 obtain⟨v35,H2,cT,rfl,hR,rfl⟩:=hq;try simp only[app]at hS
 repeat first|refine Gp ?_|refine Gw λw hS=>?_|refine Gb λb w hS=>?_
 refine zB hS (v:=q_) Xh ?_;repeat first|refine Gp ?_|refine Gw λw hS=>?_|refine Gb λb w hS=>?_
 have vB:bN (.ob (aY q_ 5 1 bs.length (bs.map bo))) q_ bs:=bN.own;obtain⟨aa,cc,UR,CI⟩:=vB.sl hS Xh;subst UR;have e1:((bs.length:Nat):Int)-1=((bs.length-1:Nat):Int):=by omega
 rw[e1];refine⟨aa,bs.length,cc,0,bs.length-1,cc,rfl,rfl,⟨_,rfl⟩,rfl,yye _,by omega,zzz _,?_⟩;refine Cc (zU (.ob (aY (.slice aa bs.length cc) 5 1 bs.length (bs.map bo))) H2 _ ((bs.drop 0).take (bs.length-1-0)) (bN.sub vB rfl CI (yye _) (by omega))) ?_;clear hS;rintro u1 post hq w hS;unfold kD at hq;rw[show h_ ((bs.drop 0).take (bs.length-1-0))= .error 2 by rw[List.drop_zero,wwx];exact RN]at hq
 obtain⟨_,H3,da,rfl,rfl⟩:=hq;try simp only[app]at hS
 repeat first|refine Gp ?_|refine Gw λw hS=>?_|refine Gb λb w hS=>?_
 have hS:=aY.full (n:=0) (sz:=1) rfl hS;refine zx (n:=0) (m:=bs.length) hS .hd (iG hS Xh) (by rw[yyh,wwl]) rfl (aIl bs) (by omega) (by omega) ?_;clear hS;intro v1 w hS;rw[zz2,zzp]at hS
 repeat first|refine Gp ?_|refine Gw λw hS=>?_|refine Gb λb w hS=>?_
 refine zA hS (cells:=[bo m]) (J_ rfl) ?_;clear hS;intro b3 w hS;refine zx (n:=bs.length) (m:=1) (cells:=bs.map bo) hS Xr (fC (cs:=[bo m]) hS .hd rfl) rfl rfl (by simp[bo,Value.oneCell']) (by omega) (by omega) ?_;clear hS;intro OT w hS;have el:bs.length+1=(bs++[m]).length:=by rw[zza];rfl
 have em:bs.map bo++[bo m]=(bs++[m]).map bo:=by rw[zzx];rfl
 rw[el,em]at hS
 refine Cc (zU (.ob (aY OT 5 1 (bs++[m]).length ((bs++[m]).map bo))) H3 OT (bs++[m]) bN.own) ?_;clear hS;rintro u1 post hq w hS;unfold kD at hq;rw[R_ m]at hq
 obtain⟨_,H4,jZ,rfl,rfl⟩:=hq;try simp only[app]at hS
 have Kq:=aX.le_trans da jZ;have xF:=aX.le_trans cT Kq;repeat first|refine Gp ?_|refine Gw λw hS=>?_|refine Gb λb w hS=>?_
 refine Υ ?_;refine Cc (yS H4 u0 v35 a (ha.mono xF) (hR.mono Kq) (by omega) (λt ht=>by have:=hlen t ht;exact⟨by omega,by omega,by omega⟩)) ?_;clear hS;(rintro v post ⟨rfl,rfl⟩ w hS;(try simp only[app]at hS);(repeat (first|refine Gp ?_|refine Gw λw hS=>?_|refine Gb λb w hS=>?_)))
 refine Υ ?_;repeat first|refine Gp ?_|refine Gw λw hS=>?_|refine Gb λb w hS=>?_
 exact⟨_,⟨rfl,H4,[],aX.le_trans dF xF,rfl⟩,aI hS⟩
def bdx(l:List bB)(m:Int)(ok:∀s∈l,oY s)(hm:mc .u8 m)(v:Ε)(w:Ζ)(hl:gE sj w gj l v):
  Calls prog 4 #[v,.int .u8 m] w λe w'=>e= .returned (.bool true)/\Below w.heap.size w w':=by
 rw[<- Es hm];exact (yO (Zw (aX.of w) v l (ou m) (eJ.of hl) ok)).calls
set_option maxRecDepth 100000
open Go.RowKit
def k_(s:bB):Prop:=(s.kind=1\/s.sg.length+s.l.length=0)/\(s.kind=3\/s.ft=dL)/\(s.kind=8\/s.bh.length=0)
instance (s:bB):Decidable (k_ s):=by unfold k_;infer_instance
def Wp{s:bB}(h:du s=true):k_ s:=by
 obtain⟨⟨_,_,_,h4,h5,h6,h7,_,_⟩,_,_⟩:=iA.1 h;refine⟨?_,h4.symm,h7.symm⟩;omega
def DE{s:bB}(h:s.sg.length+s.l.length=0):cI ⟨1,1,s.l,s.sg,0⟩=true:=by
 have h1:s.l=[]:=zzm (by omega);have h2:s.sg=[]:=zzm (by omega);rw[h1,h2];exact DF
def Dx{s:bB}(h:s.bh.length=0):∀k∈s.bh,0<=k/\k<=2147483647:=by
 rw[zzm h];exact λ_ h=>by cases h
def Wj{s:bB}(hl:k_ s)(k:s.kind=1)(hn:s.n=0):du s=cI ⟨1,1,s.l,s.sg,0⟩:=by
 obtain⟨_,a2,a3⟩:=hl;rw[xxg,iA];exact⟨λh=>h.2.1,λh=>⟨⟨by omega,by omega,by omega,.inl (a2.resolve_left (by omega)),.inr k,.inr k,.inl (by omega),λh=>by omega,by omega⟩,h,Dx (by omega)⟩⟩
def Wk{s:bB}(hl:k_ s)(k:s.kind=3)(hn:s.n=0):du s=true↔eY s.ft=true/\s.ft.bh<=2147483647:=by
 obtain⟨a1,a2,a3⟩:=hl;rw[iA];exact⟨λh=>h.1.2.2.2.2.2.2.2.1 k,λh=>⟨⟨by omega,by omega,by omega,.inr k,.inl (by omega),.inl (by omega),.inl (by omega),λ_=>h,by omega⟩,DE (by omega),Dx (by omega)⟩⟩
def Wl{s:bB}(hl:k_ s)(k:s.kind=8)(hn:s.n=0):du s=true↔(∀k∈s.bh,0<=k/\k<=2147483647)/\s.bh.length<=64:=by
 obtain⟨a1,a2,a3⟩:=hl;rw[iA];exact⟨λh=>⟨h.2.2,h.1.2.2.2.2.2.2.2.2⟩,λh=>⟨⟨by omega,by omega,by omega,.inl (a2.resolve_left (by omega)),.inl (by omega),.inl (by omega),.inr k,λh=>by omega,h.2⟩,DE (by omega),h.1⟩⟩
def MF{s:bB}(hl:k_ s)(k:s.kind=2\/s.kind=4\/s.kind=5\/s.kind=7\/s.kind=6)(hn:s.kind=6->s.n=0):du s=true↔0<=s.n/\s.n<=1125899906842624:=by
 obtain⟨a1,a2,a3⟩:=hl;rw[iA];exact⟨λh=>h.1.2.1,λh=>⟨⟨by omega,h,by omega,.inl (a2.resolve_left (by omega)),.inl (by omega),.inl (by omega),.inl (by omega),λh=>by omega,by omega⟩,DE (by omega),Dx (by omega)⟩⟩
def Aw{s:bB}(h:du s=true)(k:s.kind=1\/s.kind=3\/s.kind=8\/s.kind=6):s.n=0:=by
 have:=(iA.1 h).1.2.2.1;omega
set_option maxHeartbeats 1000000 in
def ZV(H:aX)(x:dJ)(s:bB)(hx:dG H x s)(gK:s.sg.length<=140737488351232/\s.l.length<=140737488351232/\s.bh.length<=140737488351232):SP 28 [agg (bT x)] [.mem H] (bj (.bool (du s)) [.mem H]):=by
 refine Enzz λW F w hS=>?_;apply aYd;delta aF aW bD bc BC ai aZ;refine zu hS λxb w hS=>?_;unfold bT at hS;rw[hx.kind,hx.n,hx.ft]at hS
 have hF:∀{w:Ζ},du s=false->SL W (jg xb x s::.mem H::F) w->∃post,bj (.bool (du s)) [.mem H] (.bool false) post/\SL W (app post F) w:=λh hS=>⟨_,⟨by rw[h],rfl⟩,aI hS⟩;have o1:=hx.sv.one;have o2:=hx.cv.one;repeat first|refine Gp ?_|refine Gw λw hS=>?_|refine Gb λb w hS=>?_
 refine⟨λus w=>us=[.bool (decide (¬k_ s))]/\SL W (jg xb x s::.mem H::F) w,?_,?_⟩
 ·have last:(s.kind=1\/s.sg.length+s.l.length=0)->(s.kind=3\/s.ft=dL)->∀{w:Ζ},SL W (jg xb x s::.mem H::F) w ->
    zm 0 (Δ xb) λv32=>bx v32 w λv33=>zc .neq v33 (Γ 8) λv34=>bL v34 (zm 6 (Δ xb) λv36=>bx v36 w λv37=>zd v37 λv38=>zc .gtr v38 (Γ 0) λv39=>[v39]=[.bool (decide (¬k_ s))]/\SL W (jg xb x s::.mem H::F) w) ([Value.bool false]=[.bool (decide (¬k_ s))]/\SL W (jg xb x s::.mem H::F) w):=by
   intro g1 g2 w hS;repeat first|refine Gp ?_|refine Gw λw hS=>?_|refine Gb λb w hS=>?_
   refine za (λh8=>?_) (λh8=>?_)
   ·repeat first|refine Gp ?_|refine Gw λw hS=>?_|refine Gb λb w hS=>?_
    refine zh hx.kv ?_;repeat first|refine Gp ?_|refine Gw λw hS=>?_|refine Gb λb w hS=>?_
    refine⟨?_,hS⟩;rw[show decide ((0:Int)<(s.bh.length:Int))=decide (¬k_ s) from yyd.2 ⟨λh k=>by have:=k.2.2;omega,λh=>Decidable.byContradiction λk=>h ⟨g1,g2,.inr (by omega)⟩⟩]
   refine⟨?_,hS⟩;rw[zz5 (λh=>h ⟨g1,g2,.inl (ww1 h8)⟩)]
  have MX:(s.kind=1\/s.sg.length+s.l.length=0)->∀{w:Ζ},s.kind≠3->SL W (jg xb x s::.mem H::F) w->∀{A B:Prop},(s.ft≠dL->A)->(s.ft=dL->B)->bL (.bool (!decide (s.ft=dL))) A B:=by
   intro g1 w h3 hS A B hA hB;exact zr (λhd=>hA (yyj hd)) (λhd=>hB (zzl hd))
  repeat first|refine Gp ?_|refine Gw λw hS=>?_|refine Gb λb w hS=>?_
  refine zr (λh1=>?_) (λh1=>?_)
  ·have h1:=yyj h1;repeat first|refine Gp ?_|refine Gw λw hS=>?_|refine Gb λb w hS=>?_
   refine zh hx.sv ?_;repeat first|refine Gp ?_|refine Gw λw hS=>?_|refine Gb λb w hS=>?_
   refine zh hx.cv ?_;repeat first|refine Gp ?_|refine Gw λw hS=>?_|refine Gb λb w hS=>?_
   refine za (λhgt=>⟨by rw[zzr (p:=¬k_ s) (λk=>by have:=k.1;omega)],aI hS⟩) (λhle=>?_);repeat first|refine Gp ?_|refine Gw λw hS=>?_|refine Gb λb w hS=>?_
   refine za (λh3=>?_) (λh3=>last (.inr (by omega)) (.inl (ww1 h3)) (aI hS));repeat first|refine Gp ?_|refine Gw λw hS=>?_|refine Gb λb w hS=>?_
   refine yl (vs:=eE s.ft) hS Xh rfl (λj v h=>?_) ?_
   ·match j,h with
    | 0,h=>exact h
    | 1,h=>exact h
    | j+2,h=>simp[eE]at h
   repeat first|refine Gp ?_|refine Gw λw hS=>?_|refine Gb λb w hS=>?_
   refine qN (xo s.ft dL w) ?_;refine MX (.inr (by omega)) h3 hS (λhd=>⟨by rw[zzr (p:=¬k_ s) (λk=>hd (k.2.1.resolve_left h3))],aI hS⟩) (λhd=>last (.inr (by omega)) (.inr hd) (aI hS))
  have h1:=zzl h1;repeat first|refine Gp ?_|refine Gw λw hS=>?_|refine Gb λb w hS=>?_
  refine za (λh3=>?_) (λh3=>last (.inl h1) (.inl (ww1 h3)) (aI hS));repeat first|refine Gp ?_|refine Gw λw hS=>?_|refine Gb λb w hS=>?_
  refine yl (vs:=eE s.ft) hS Xh rfl (λj v h=>?_) ?_
  ·match j,h with
   | 0,h=>exact h
   | 1,h=>exact h
   | j+2,h=>simp[eE]at h
  repeat first|refine Gp ?_|refine Gw λw hS=>?_|refine Gb λb w hS=>?_
  refine qN (xo s.ft dL w) ?_;refine MX (.inl h1) h3 hS (λhd=>⟨by rw[zzr (p:=¬k_ s) (λk=>hd (k.2.1.resolve_left h3))],aI hS⟩) (λhd=>last (.inl h1) (.inr hd) (aI hS))
 clear hS;rintro _ w ⟨bM,hS⟩;cases bM;refine za (λh=>hF (xxc.2 λk=>h (Wp k)) hS) (λhl=>?_);have hl:=ww1 hl;repeat first|refine Gp ?_|refine Gw λw hS=>?_|refine Gb λb w hS=>?_
 refine za (λk1=>?_) (λk1=>?_)
 ·repeat first|refine Gp ?_|refine Gw λw hS=>?_|refine Gb λb w hS=>?_
  refine za (λhn=>?_) (λhn=>hF (xxc.2 λk=>hn (Aw k (by omega))) (aI hS));repeat first|refine Gp ?_|refine Gw λw hS=>?_|refine Gb λb w hS=>?_
  refine yQ (cells:=fj ⟨1,1,x.cv,x.sv,0⟩) (by simp[eV,jC o1,jC o2,jC (v:=Γ 1) rfl,fj]) ?_;rw[Wj hl k1 hn];refine Cc (Y5 H ⟨1,1,x.cv,x.sv,0⟩ ⟨1,1,s.l,s.sg,0⟩ ⟨rfl,rfl,rfl,hx.cv,hx.sv⟩) ?_;clear hS;rintro _ post ⟨rfl,rfl⟩ w hS;try simp only[app]at hS
  exact bt hS
 repeat first|refine Gp ?_|refine Gw λw hS=>?_|refine Gb λb w hS=>?_
 refine za (λk3=>?_) (λk3=>?_)
 ·repeat first|refine Gp ?_|refine Gw λw hS=>?_|refine Gb λb w hS=>?_
  refine za (λhn=>?_) (λhn=>hF (xxc.2 λk=>hn (Aw k (by omega))) (aI hS));have h3:=Wk hl k3 hn;repeat first|refine Gp ?_|refine Gw λw hS=>?_|refine Gb λb w hS=>?_
  refine yl (vs:=eE s.ft) hS Xh rfl (λj v h=>?_) ?_
  ·match j,h with
   | 0,h=>exact h
   | 1,h=>exact h
   | j+2,h=>simp[eE]at h
  refine Cc (Y6 s.ft) ?_;clear hS;rintro _ post ⟨rfl,rfl⟩ w hS;try simp only[app]at hS
  refine Zl (λg=>?_) (λg=>hF (xxc.2 λk=>by rw[(h3.1 k).1]at g;cases g) (aI hS));repeat first|refine Gp ?_|refine Gw λw hS=>?_|refine Gb λb w hS=>?_
  have e:du s=decide (s.ft.bh<=2147483647):=by
   rw[xxg,h3,zzo];exact⟨λk=>k.2,λk=>⟨g,k⟩⟩
  rw[e];exact bt hS
 repeat first|refine Gp ?_|refine Gw λw hS=>?_|refine Gb λb w hS=>?_
 refine za (λk8=>?_) (λk8=>?_)
 ·refine⟨λus w=>∃i:Nat,us=[Γ i]/\i<=s.bh.length/\(∀j (hj:j<s.bh.length),j<i->0<=s.bh[j]/\s.bh[j]<=2147483647)/\SL W (jg xb x s::.mem H::F) w,
   λus _=>match us with|[.int _ i]=>(s.bh.length-i).toNat|_=>0,⟨0,rfl,by omega,λj hj h=>by omega,aI hS⟩,?_⟩
  clear hS;rintro _ w ⟨i,bM,hi,b5,hS⟩;cases bM;repeat first|refine Gp ?_|refine Gw λw hS=>?_|refine Gb λb w hS=>?_
  refine zh hx.kv ?_;repeat first|refine Gp ?_|refine Gw λw hS=>?_|refine Gb λb w hS=>?_
  refine za (λh=>?_) (λh=>?_)
  ·have bg:i<s.bh.length:=by omega
   have cU:¬(0<=s.bh[i]/\s.bh[i]<=2147483647)->du s=false:=λh=>xxc.2 λk=>h ((iA.1 k).2.2 _ (zzi bg));repeat first|refine Gp ?_|refine Gw λw hS=>?_|refine Gb λb w hS=>?_
   refine yg hS Xh hx.kv bg (u:=Γ s.bh[i]) (by simp[bg]) ?_;repeat first|refine Gp ?_|refine Gw λw hS=>?_|refine Gb λb w hS=>?_
   refine za (λh=>hF (cU (by omega)) (aI hS)) (λh1=>?_);repeat first|refine Gp ?_|refine Gw λw hS=>?_|refine Gb λb w hS=>?_
   refine yg hS Xh hx.kv bg (u:=Γ s.bh[i]) (by simp[bg]) ?_;repeat first|refine Gp ?_|refine Gw λw hS=>?_|refine Gb λb w hS=>?_
   refine za (λh=>hF (cU (by omega)) (aI hS)) (λh2=>?_);repeat first|refine Gp ?_|refine Gw λw hS=>?_|refine Gb λb w hS=>?_
   refine⟨⟨i+1,by simp,by omega,λj hj gJ=>?_,aI hS⟩,by dsimp only;omega⟩;by_cases e:j=i
   ·subst e;omega
   exact b5 j hj (by omega)
  repeat first|refine Gp ?_|refine Gw λw hS=>?_|refine Gb λb w hS=>?_
  refine za (λhn=>?_) (λhn=>hF (xxc.2 λk=>hn (Aw k (by omega))) (aI hS));repeat first|refine Gp ?_|refine Gw λw hS=>?_|refine Gb λb w hS=>?_
  refine zh hx.kv ?_;repeat first|refine Gp ?_|refine Gw λw hS=>?_|refine Gb λb w hS=>?_
  have e:du s=decide ((s.bh.length:Int)<=64):=by
   rw[xxg,Wl hl k8 hn,zzo];refine⟨λk=>by omega,λk=>⟨λn hk=>?_,by omega⟩⟩;obtain⟨j,hj,rfl⟩:=yyf hk;exact b5 j hj (by omega)
  rw[e];exact bt hS
 repeat first|refine Gp ?_|refine Gw λw hS=>?_|refine Gb λb w hS=>?_
 refine za (λk6=>?_) (λk6=>?_)
 ·repeat first|refine Gp ?_|refine Gw λw hS=>?_|refine Gb λb w hS=>?_
  have e:du s=decide (s.n=0):=by
   rw[xxg,zzo];exact⟨λk=>Aw k (by omega),λh=>(MF hl (by omega) (λ_=>h)).2 (by omega)⟩
  rw[e];exact bt hS
 refine⟨λus w=>us=[.bool (decide (s.kind=2\/s.kind=4\/s.kind=5\/s.kind=7))]/\SL W (jg xb x s::.mem H::F) w,?_,?_⟩
 ·repeat first|refine Gp ?_|refine Gw λw hS=>?_|refine Gb λb w hS=>?_
  refine za (λh=>⟨by rw[zzr (by omega)],aI hS⟩) (λh2=>?_);repeat first|refine Gp ?_|refine Gw λw hS=>?_|refine Gb λb w hS=>?_
  refine za (λh=>⟨by rw[zzr (by omega)],aI hS⟩) (λh4=>?_);repeat first|refine Gp ?_|refine Gw λw hS=>?_|refine Gb λb w hS=>?_
  refine za (λh=>⟨by rw[zzr (by omega)],aI hS⟩) (λh5=>?_);repeat first|refine Gp ?_|refine Gw λw hS=>?_|refine Gb λb w hS=>?_
  exact⟨by rw[show decide (s.kind=7)=decide (s.kind=2\/s.kind=4\/s.kind=5\/s.kind=7) from yyd.2 (by omega)],aI hS⟩
 clear hS;rintro _ w ⟨hv,hS⟩;cases hv;refine za (λk2=>?_) (λk2=>hF (xxc.2 λk=>by have:=(iA.1 k).1.1;omega) (aI hS));have hn:=MF hl (by omega) (λh=>by omega);repeat first|refine Gp ?_|refine Gw λw hS=>?_|refine Gb λb w hS=>?_
 refine za (λg=>?_) (λg=>hF (xxc.2 λk=>by have:=hn.1 k;omega) (aI hS));repeat first|refine Gp ?_|refine Gw λw hS=>?_|refine Gb λb w hS=>?_
 have e:du s=decide (s.n<=1125899906842624):=by
  rw[xxg,hn,zzo];exact⟨λk=>k.2,λk=>⟨by omega,k⟩⟩
 rw[e];exact bt hS
def yo(H:aX)(v:Ε)(l:List bB)(hv:eJ H v l)(hn:∀s∈l,s.sg.length<=140737488351232/\s.l.length<=140737488351232/\s.bh.length<=140737488351232):SP 12 [v] [.mem H] (bj (.bool (iV l)) [.mem H]):=by
 refine Enzz λW F w hS=>?_;apply aRm;delta aF bD bc ai;obtain⟨xs,iT,eG,ik⟩:=hv;refine zh eG ?_;repeat first|refine Gp ?_|refine Gw λw hS=>?_|refine Gb λb w hS=>?_
 refine za (λh=>?_) (λh=>?_)
 ·exact⟨_,⟨by rw[show iV l=false from xxc.2 λhk=>by have:=(jM.1 hk).2;omega],rfl⟩,aI hS⟩
 refine⟨λvs w=>∃i:Nat,vs=[Γ i]/\i<=l.length/\(∀j (hj:j<l.length),j<i->du l[j]=true)/\SL W (.mem H::F) w,
  λvs _=>match vs with|[.int _ i]=>(l.length-i).toNat|_=>0,⟨0,rfl,by omega,λj hj h=>by omega,hS⟩,?_⟩
 clear hS;rintro v3 w ⟨i,b9,hi,b5,hS⟩;cases b9;refine zh eG ?_;repeat first|refine Gp ?_|refine Gw λw hS=>?_|refine Gb λb w hS=>?_
 refine za (λh=>?_) (λh=>?_)
 ·have bg:i<l.length:=by omega
  have gm:i<xs.length:=by omega
  have hx:=ik i bg gm;refine zy hS Xh iy eG (x:=xs[i]) (by simp[gm]) bg ?_;refine Cc (ZV H xs[i] l[i] hx (hn _ (zzi bg))) ?_;clear hS;(rintro v post ⟨rfl,rfl⟩ w hS;(try simp only[app]at hS);(repeat (first|refine Gp ?_|refine Gw λw hS=>?_|refine Gb λb w hS=>?_)))
  refine zr (λh=>?_) (λh=>?_)
  ·exact⟨_,⟨by rw[show iV l=false from xxc.2 λhk=>by rw[(jM.1 hk).1 _ (zzi bg)]at h;cases h],rfl⟩,aI hS⟩
  repeat first|refine Gp ?_|refine Gw λw hS=>?_|refine Gb λb w hS=>?_
  refine⟨⟨i+1,by simp,by omega,λj hj gJ=>?_,aI hS⟩,by dsimp only;omega⟩;by_cases e:j=i
  ·subst e;exact h
  exact b5 j hj (by omega)
 have e:iV l=true:=by
  rw[jM];refine⟨λs hs=>?_,by omega⟩;obtain⟨j,hj,rfl⟩:=yyf hs;exact b5 j hj (by omega)
 rw[e];exact bt hS
def mo(s:bB)(i:Nat):List bz:=[iF s.kind]++kO s i
def od(s:bB)(i:Nat):List bz:=[iF s.kind]++kP s i
set_option maxHeartbeats 1000000 in
def Y7(H:aX)(x:dJ)(s:bB)(hx:dG H x s)(hm:du s=true):SP 26 [agg (bT x)] [.mem H] (λu post=>post=[e_ u (eK s),.mem H]):=by
 refine Enzz λW F w hS=>?_;apply aXs;delta aF aW ba wU ai bn;obtain⟨⟨_,_,_,_,_,_,_,_,Uf⟩,ht,_⟩:=iA.1 hm;have hb:=iW ht;have s8:s.l.length<=16:=hb.2.2.2.1;have j1:s.sg.length<=2:=hb.2.2.2.2.1;clear hb;refine zu hS λxb w hS=>?_;unfold bT at hS;rw[hx.kind,hx.n,hx.ft]at hS
 repeat first|refine Gp ?_|refine Gw λw hS=>?_|refine Gb λb w hS=>?_
 refine Cc (zJ s.kind) ?_;clear hS;(rintro v post ⟨rfl,rfl⟩ w hS;(try simp only[app]at hS);(repeat (first|refine Gp ?_|refine Gw λw hS=>?_|refine Gb λb w hS=>?_)))
 have hS:=aY.full (n:=1) (sz:=3) rfl hS;have hS:SL W (e_ _ [iF s.kind]::_) _:=hS;refine za (λk1=>?_) (λk1=>?_)
 ·have e:eK s=od s s.l.length:=by unfold eK gU od;rw[zzd k1,xp]
  repeat first|refine Gp ?_|refine Gw λw hS=>?_|refine Gb λb w hS=>?_
  refine zh hx.sv ?_;refine Cc (zJ s.sg.length) ?_;clear hS;(rintro v post ⟨rfl,rfl⟩ w hS;(try simp only[app]at hS);(repeat (first|refine Gp ?_|refine Gw λw hS=>?_|refine Gb λb w hS=>?_)))
  refine zz (L:=[iF s.kind]) (M:=[iF s.sg.length]) hS Xr (oh hS Xh) (by simp) λu3 w hS=>?_;refine⟨λvs w=>∃(i:Nat) (u:Ε),vs=[u,Γ i]/\i<=s.sg.length/\SL W (e_ u (mo s i)::jg xb x s::.mem H::F) w,
   λvs _=>match vs with|[_,.int _ i]=>(s.sg.length-i).toNat|_=>0,⟨0,u3,rfl,by omega,?_⟩,?_⟩
  ·rw[show mo s 0=[iF s.kind]++[iF s.sg.length] by unfold mo kO;simp];exact aI hS
  clear hS;rintro u v3 w ⟨i,_,b9,hi,hS⟩;cases b9;have lE:=Ce s i;repeat first|refine Gp ?_|refine Gw λw hS=>?_|refine Gb λb w hS=>?_
  refine zh hx.sv ?_;repeat first|refine Gp ?_|refine Gw λw hS=>?_|refine Gb λb w hS=>?_
  refine za (λh=>?_) (λh=>?_)
  ·have bg:i<s.sg.length:=by omega
   have hs:=J2 bg;repeat first|refine Gp ?_|refine Gw λw hS=>?_|refine Gb λb w hS=>?_
   refine yg hS Xh hx.sv bg (u:=.string s.sg[i]) (by simp[bg]) ?_;refine Cc (Zp s.sg[i]) ?_;clear hS;(rintro v post ⟨rfl,rfl⟩ w hS;(try simp only[app]at hS);(repeat (first|refine Gp ?_|refine Gw λw hS=>?_|refine Gb λb w hS=>?_)))
   refine zz (L:=mo s i) (M:=[tF s.sg[i]]) hS Xr (oh hS Xh) (by unfold mo;simp;omega) λu4 w hS=>?_;repeat first|refine Gp ?_|refine Gw λw hS=>?_|refine Gb λb w hS=>?_
   refine⟨⟨i+1,_,rfl,by omega,?_⟩,by dsimp only;omega⟩;rw[show mo s (i+1)=mo s i++[tF s.sg[i]] by unfold mo;rw[hs,zze]];exact aI hS
  have eM:i=s.sg.length:=by omega
  subst eM;repeat first|refine Gp ?_|refine Gw λw hS=>?_|refine Gb λb w hS=>?_
  refine zh hx.cv ?_;refine Cc (zJ s.l.length) ?_;clear hS;(rintro v post ⟨rfl,rfl⟩ w hS;(try simp only[app]at hS);(repeat (first|refine Gp ?_|refine Gw λw hS=>?_|refine Gb λb w hS=>?_)))
  refine zz (L:=mo s s.sg.length) (M:=[iF s.l.length]) hS Xr (oh hS Xh) (by unfold mo;simp;omega) λu3 w hS=>?_;refine⟨λvs w=>∃(i:Nat) (u:Ε),vs=[u,Γ i]/\i<=s.l.length/\SL W (e_ u (od s i)::jg xb x s::.mem H::F) w,
   λvs _=>match vs with|[_,.int _ i]=>(s.l.length-i).toNat|_=>0,⟨0,u3,rfl,by omega,?_⟩,?_⟩
  ·rw[show od s 0=mo s s.sg.length++[iF s.l.length] by unfold od mo kP;simp];exact aI hS
  clear hS;rintro u v3 w ⟨i,_,b9,hi,hS⟩;cases b9;have vh:=xq s i;repeat first|refine Gp ?_|refine Gw λw hS=>?_|refine Gb λb w hS=>?_
  refine zh hx.cv ?_;repeat first|refine Gp ?_|refine Gw λw hS=>?_|refine Gb λb w hS=>?_
  refine za (λh=>?_) (λh=>?_)
  ·have bg:i<s.l.length:=by omega
   have hs:=J3 bg;repeat first|refine Gp ?_|refine Gw λw hS=>?_|refine Gb λb w hS=>?_
   refine zy hS Xh kM hx.cv (x:=s.l[i]) (by simp[bg]) bg ?_;refine Cc (QN s.l[i]) ?_;clear hS;rintro u2 post rfl w hS;try simp only[app]at hS
   refine zz (L:=od s i) hS Xr (iG hS Xh) (by unfold od;simp[fI];omega) λu4 w hS=>?_;repeat first|refine Gp ?_|refine Gw λw hS=>?_|refine Gb λb w hS=>?_
   refine⟨⟨i+1,_,rfl,by omega,?_⟩,by dsimp only;omega⟩;rw[show od s (i+1)=od s i++fI s.l[i] by unfold od;rw[hs,zze]];exact aI hS
  have eM:i=s.l.length:=by omega
  rw[e,<- eM];exact⟨_,rfl,aI hS⟩
 repeat first|refine Gp ?_|refine Gw λw hS=>?_|refine Gb λb w hS=>?_
 refine za (λk3=>?_) (λk3=>?_)
 ·have e:eK s=[iF s.kind]++[iF s.ft.kind,iF s.ft.bh]:=by unfold eK gU;rw[zzb k1,zzd k3]
  repeat first|refine Gp ?_|refine Gw λw hS=>?_|refine Gb λb w hS=>?_
  refine Cc (zJ s.ft.kind) ?_;clear hS;(rintro v post ⟨rfl,rfl⟩ w hS;(try simp only[app]at hS);(repeat (first|refine Gp ?_|refine Gw λw hS=>?_|refine Gb λb w hS=>?_)))
  refine Cc (zJ s.ft.bh) ?_;clear hS;(rintro v post ⟨rfl,rfl⟩ w hS;(try simp only[app]at hS);(repeat (first|refine Gp ?_|refine Gw λw hS=>?_|refine Gb λb w hS=>?_)))
  refine zA hS (cells:=cn (iF s.ft.kind)++cn (iF s.ft.bh)) (by simp[eV,bq,cn,iF,Value.cells,emp]) λb w hS=>?_;refine zz (L:=[iF s.kind]) (M:=[iF s.ft.kind,iF s.ft.bh]) hS Xr (fC hS .hd rfl) (by simp) λu3 w hS=>?_;rw[e];exact⟨_,rfl,aI hS⟩
 repeat first|refine Gp ?_|refine Gw λw hS=>?_|refine Gb λb w hS=>?_
 refine za (λk8=>?_) (λk8=>?_)
 ·have e:eK s=jI s s.bh.length:=by unfold eK gU jI;rw[zzb k1,zzb k3,zzb (by omega),zzd k8,zz6,zze]
  repeat first|refine Gp ?_|refine Gw λw hS=>?_|refine Gb λb w hS=>?_
  refine zh hx.kv ?_;refine Cc (zJ s.bh.length) ?_;clear hS;(rintro v post ⟨rfl,rfl⟩ w hS;(try simp only[app]at hS);(repeat (first|refine Gp ?_|refine Gw λw hS=>?_|refine Gb λb w hS=>?_)))
  refine zz (L:=[iF s.kind]) (M:=[iF s.bh.length]) hS Xr (oh hS Xh) (by simp) λu3 w hS=>?_;refine⟨λvs w=>∃(i:Nat) (u:Ε),vs=[u,Γ i]/\i<=s.bh.length/\SL W (e_ u (jI s i)::jg xb x s::.mem H::F) w,
   λvs _=>match vs with|[_,.int _ i]=>(s.bh.length-i).toNat|_=>0,⟨0,u3,rfl,by omega,?_⟩,?_⟩
  ·rw[show jI s 0=[iF s.kind]++[iF s.bh.length] by unfold jI;simp];exact aI hS
  clear hS;rintro u v3 w ⟨i,_,b9,hi,hS⟩;cases b9;have vh:=J4 s i;repeat first|refine Gp ?_|refine Gw λw hS=>?_|refine Gb λb w hS=>?_
  refine zh hx.kv ?_;repeat first|refine Gp ?_|refine Gw λw hS=>?_|refine Gb λb w hS=>?_
  refine za (λh=>?_) (λh=>?_)
  ·have bg:i<s.bh.length:=by omega
   have hs:=J5 bg;repeat first|refine Gp ?_|refine Gw λw hS=>?_|refine Gb λb w hS=>?_
   refine yg hS Xh hx.kv bg (u:=Γ s.bh[i]) (by simp[bg]) ?_;refine Cc (zJ s.bh[i]) ?_;clear hS;(rintro v post ⟨rfl,rfl⟩ w hS;(try simp only[app]at hS);(repeat (first|refine Gp ?_|refine Gw λw hS=>?_|refine Gb λb w hS=>?_)))
   refine zz (L:=jI s i) (M:=[iF s.bh[i]]) hS Xr (oh hS Xh) (by simp;omega) λu5 w hS=>?_;repeat first|refine Gp ?_|refine Gw λw hS=>?_|refine Gb λb w hS=>?_
   refine⟨⟨i+1,_,rfl,by omega,?_⟩,by dsimp only;omega⟩;rw[hs];exact aI hS
  have eM:i=s.bh.length:=by omega
  rw[e,<- eM];exact⟨_,rfl,aI hS⟩
 repeat first|refine Gp ?_|refine Gw λw hS=>?_|refine Gb λb w hS=>?_
 refine za (λk6=>?_) (λk6=>?_)
 ·have e:eK s=[iF s.kind]:=by unfold eK gU;rw[zzb k1,zzb k3,zzd k6];rfl
  rw[e];exact⟨_,rfl,aI hS⟩
 have e:eK s=[iF s.kind]++[iF s.n]:=by unfold eK gU;rw[zzb k1,zzb k3,zzb k6,zzb k8]
 repeat first|refine Gp ?_|refine Gw λw hS=>?_|refine Gb λb w hS=>?_
 refine Cc (zJ s.n) ?_;clear hS;(rintro v post ⟨rfl,rfl⟩ w hS;(try simp only[app]at hS);(repeat (first|refine Gp ?_|refine Gw λw hS=>?_|refine Gb λb w hS=>?_)))
 refine zz (L:=[iF s.kind]) (M:=[iF s.n]) hS Xr (oh hS Xh) (by simp) λu3 w hS=>?_;rw[e];exact⟨_,rfl,aI hS⟩
def yz(H:aX)(v:Ε)(l:List bB)(hv:eJ H v l)(hn:∀s∈l,s.sg.length<=140737488351232/\s.l.length<=140737488351232/\s.bh.length<=140737488351232):SP 10 [v] [.mem H] (mE H l):=by
 refine Enzz λW F w hS=>?_;apply aI0;delta aF bD ai bn aZ;refine Cc (yo H v l hv hn) ?_;clear hS;(rintro v post ⟨rfl,rfl⟩ w hS;(try simp only[app]at hS);(repeat (first|refine Gp ?_|refine Gw λw hS=>?_|refine Gb λb w hS=>?_)))
 refine zr (λh=>?_) (λhm=>?_)
 ·exact⟨[.mem H],by unfold mE l4;rw[zzb (by rw[h];decide)];exact⟨rfl,rfl⟩,aI hS⟩
 obtain⟨lJ,rS⟩:=jM.1 hm;obtain⟨xs,iT,eG,ik⟩:=hv;refine zh eG ?_;refine Cc (zJ l.length) ?_;clear hS;(rintro v post ⟨rfl,rfl⟩ w hS;(try simp only[app]at hS);(repeat (first|refine Gp ?_|refine Gw λw hS=>?_|refine Gb λb w hS=>?_)))
 have hS:=aY.full (n:=1) (sz:=3) rfl hS;have hS:SL W (e_ _ (jY l 0)::_) _:=hS;refine⟨λvs w=>∃(i:Nat) (u:Ε),vs=[u,Γ i]/\i<=l.length/\SL W (e_ u (jY l i)::.mem H::F) w,
  λvs _=>match vs with|[_,.int _ i]=>(l.length-i).toNat|_=>0,⟨0,_,rfl,by omega,aI hS⟩,?_⟩
 clear hS;rintro u v3 w ⟨i,_,b9,hi,hS⟩;cases b9;have lE:=Ch lJ i;refine zh eG ?_;repeat first|refine Gp ?_|refine Gw λw hS=>?_|refine Gb λb w hS=>?_
 refine za (λh=>?_) (λh=>?_)
 ·have bg:i<l.length:=by omega
  have gm:i<xs.length:=by omega
  have hs:=Ci bg;have hx:=ik i bg gm;have vJ:=lJ _ (zzi bg);have j3:=Cj vJ;refine zy hS Xh iy eG (x:=xs[i]) (by simp[gm]) bg ?_;refine Cc (Y7 H xs[i] l[i] hx vJ) ?_;clear hS;rintro u2 post rfl w hS;try simp only[app]at hS
  refine zz (L:=jY l i) hS Xr (iG hS Xh) (by omega) λu3 w hS=>?_;repeat first|refine Gp ?_|refine Gw λw hS=>?_|refine Gb λb w hS=>?_
  refine⟨⟨i+1,_,rfl,by omega,?_⟩,by dsimp only;omega⟩;rw[hs];exact aI hS
 have eM:i=l.length:=by omega
 subst eM;rw[Cf]at hS lE
 refine Cc (Za (e_ u (jw l)) u (jw l) jU.own (by omega)) ?_;clear hS;rintro r post hq w hS;try simp only[app]at hS
 unfold lr at hq;unfold mE l4;rw[zzd hm];cases he:gl (jw l) with
 | error e=>
  rw[he]at hq
  obtain⟨rfl,rfl⟩:=hq;repeat first|refine Gp ?_|refine Gw λw hS=>?_|refine Gb λb w hS=>?_
  exact bt hS
 | ok bs=>
  rw[he]at hq
  obtain⟨v,rfl,rfl⟩:=hq;repeat first|refine Gp ?_|refine Gw λw hS=>?_|refine Gb λb w hS=>?_
  exact⟨_,⟨v,rfl,rfl⟩,aI hS⟩
set_option maxRecDepth 100000
open Go.ChangeShapes Go.WideShapes Go.ChangeAt Go.RowKit
def Kp(H:aX)(v:Ε)(l:List bB)(hv:eJ H v l)(hl:l.length<=140737488351232)(hn:∀s∈l,s.sg.length<=140737488351232/\s.l.length<=140737488351232/\s.bh.length<=140737488351232):
  SP 6 [v] [.mem H] (λu post=>∃b:Bool,u= .bool b/\(b=false->l.length<3000/\∀s∈l,s.sg.length<3000/\s.l.length<3000/\s.bh.length<3000)/\post=[.mem H]):=by
 refine Enzz λW F w hS=>?_;apply vc6;delta aF aW ai;obtain⟨xs,iT,eG,ik⟩:=hv;refine zh eG ?_;refine⟨λvs w=>∃(n i:Nat),vs=[Γ n,Γ i]/\i<=l.length/\l.length<=n/\n<=900000000000000/\(∀j (hj:j<l.length),j<i->l[j].sg.length<=n/\l[j].l.length<=n/\l[j].bh.length<=n)/\SL W (.mem H::F) w,
  λvs _=>match vs with|[_,.int _ i]=>(l.length-i).toNat|_=>0,⟨l.length,0,rfl,by omega,by omega,by omega,λj hj h=>by omega,hS⟩,?_⟩
 clear hS;rintro v3 v4 w ⟨n,i,b9,hi,tf,vy,b5,hS⟩;cases b9;refine zh eG ?_;repeat first|refine Gp ?_|refine Gw λw hS=>?_|refine Gb λb w hS=>?_
 refine za (λh=>?_) (λh=>?_)
 ·repeat first|refine Gp ?_|refine Gw λw hS=>?_|refine Gb λb w hS=>?_
  refine za (λh3=>?_) (λh3=>?_)
  ·have bg:i<l.length:=by omega
   have gm:i<xs.length:=by omega
   have hx:=ik i bg gm;have hb:=hn _ (zzi bg);repeat first|refine Gp ?_|refine Gw λw hS=>?_|refine Gb λb w hS=>?_
   refine ZL hS Xh iy eG (x:=xs[i]) (by simp[gm]) bg (i:=3) rfl ?_;refine zh hx.cv ?_;refine ZL hS Xh iy eG (x:=xs[i]) (by simp[gm]) bg (i:=2) rfl ?_;refine zh hx.sv ?_;repeat first|refine Gp ?_|refine Gw λw hS=>?_|refine Gb λb w hS=>?_
   refine ZL hS Xh iy eG (x:=xs[i]) (by simp[gm]) bg (i:=6) rfl ?_;refine zh hx.kv ?_;repeat first|refine Gp ?_|refine Gw λw hS=>?_|refine Gb λb w hS=>?_
   refine⟨⟨n+(l[i].l.length+l[i].sg.length+l[i].bh.length),i+1,by simp,by omega,by omega,by omega,λj hj gJ=>?_,aI hS⟩,by dsimp only;omega⟩;by_cases e:j=i
   ·subst e;omega
   have:=b5 j hj (by omega);omega
  repeat first|refine Gp ?_|refine Gw λw hS=>?_|refine Gb λb w hS=>?_
  exact⟨_,⟨_,rfl,λe=>absurd e (by rw[zzr (by omega)];decide),rfl⟩,aI hS⟩
 repeat first|refine Gp ?_|refine Gw λw hS=>?_|refine Gb λb w hS=>?_
 refine⟨_,⟨_,rfl,λe=>?_,rfl⟩,aI hS⟩;have e:=yyj e;refine⟨by omega,λs hs=>?_⟩;obtain⟨j,hj,rfl⟩:=yyf hs;have:=b5 j hj (by omega);omega
def sA(l:List bB):Prop:=l.length<=140737488351232/\∀s∈l,s.sg.length<=140737488351232/\s.l.length<=140737488351232/\s.bh.length<=140737488351232
def sA.bh{l:List bB}(h:sA l):∀s∈l,s.bh.length<=140737488351232:=λs hs=>(h.2 s hs).2.2
def xt{l:List bB}(h:∀s∈l,du s=true)(hl:l.length<=1000):sA l:=⟨by omega,λs hs=>by
 obtain⟨⟨_,_,_,_,_,_,_,_,hk⟩,ht,_⟩:=iA.1 (h s hs);have hb:=iW ht;have h1:s.l.length<=16:=hb.2.2.2.1;have h2:s.sg.length<=2:=hb.2.2.2.2.1;omega⟩
def eJ.one{H:aX}{v:Ε}{l:List bB}(h:eJ H v l):v.oneCell'=true:=by
 obtain⟨_,_,h,_⟩:=h;exact h.one
def eJ.aww{H:aX}{v:Ε}{x:dJ}{s:bB}(hx:dG H x s)(h:bK H 7 v 1 (bT x)):eJ H v [s]:=⟨[x],rfl,by simpa using h,λi h h'=>by
 match i,h,h' with
 | 0,_,_=>exact hx⟩
def eJ.snoc{H:aX}{a:List bB}{xs:List dJ}{x:dJ}{s:bB}{v:Ε}(hl:xs.length=a.length)(hx:∀i (h:i<a.length) (h':i<xs.length),dG H xs[i] a[i])(hs:dG H x s)(h:bK H 7 v (a.length+1) ((xs.map bT).flatten++bT x)):eJ H v (a++[s]):=by
 refine⟨xs++[x],by simp[hl],by simpa using h,λi h h'=>?_⟩;by_cases e:i<a.length
 ·rw[yy6 (by omega),yy6 (by omega)];exact hx i e (by omega)
 have:i=a.length:=by simp at h;omega
 subst this;have e1:(xs++[x])[a.length]=x:=by rw[yy0 (by omega)];simp[hl]
 have e2:(a++[s])[a.length]=s:=by rw[yy0 (by omega)];simp
 rw[e1,e2];exact hs
set_option maxHeartbeats 4000000 in
def Zx(H:aX)(v:Ε)(l:List bB)(x:dJ)(s:bB)(at_:Ε)(hv:eJ H v l)(hx:dG H x s)(hl:sA l)(hs:sA [s])(br:∀s∈l,oY s):
  SP 3 [v,agg (bT x),at_] [.mem H] (λv post=>v= .bool true/\∃H' l,H.le H'/\post= .mem H'::l):=by
 refine Enzz λW F w hS=>?_;apply vc3;delta Hg aF bD bc ai aZ;refine zu hS λsb w hS=>?_;refine Cc (Kp H v l hv hl.1 hl.2) ?_;clear hS;rintro _ post ⟨b1,rfl,_,rfl⟩ w hS;try simp only[app]at hS
 refine Zl (λg=>?_) (λg=>?_)
 ·refine Cc (zS) ?_;clear hS;(rintro v post ⟨rfl,rfl⟩ w hS;(try simp only[app]at hS);(repeat (first|refine Gp ?_|refine Gw λw hS=>?_|refine Gb λb w hS=>?_)))
  exact⟨_,⟨rfl,H,[],aX.le_refl H,rfl⟩,aI hS⟩
 refine zH hS Xh (iy _) ?_;repeat first|refine Gp ?_|refine Gw λw hS=>?_|refine Gb λb w hS=>?_
 obtain⟨H1,dF,hR,hS⟩:=SL.NI (sz:=7) (H:=H) (b:=b) (n:=1) hS Xp rfl;have pK:=hx.mono dF;refine Cc (Kp H1 (.slice (some ⟨b,0,none⟩) 1 1) [s] (eJ.aww pK hR) hs.1 hs.2) ?_;clear hS;rintro _ post ⟨b2,rfl,_,rfl⟩ w hS;try simp only[app]at hS
 refine Zl (λg=>?_) (λg=>?_)
 ·refine Cc (zS) ?_;clear hS;(rintro v post ⟨rfl,rfl⟩ w hS;(try simp only[app]at hS);(repeat (first|refine Gp ?_|refine Gw λw hS=>?_|refine Gb λb w hS=>?_)))
  exact⟨_,⟨rfl,H1,[],dF,rfl⟩,aI hS⟩
 refine Cc (yG H1 v l 8 40 (hv.mono dF) (by decide) (by decide) (by decide) br) ?_;clear hS;rintro u post ⟨H2,a,cT,ha,m_,nU,rfl⟩ w hS;try simp only[app]at hS
 have xM:=ha;obtain⟨xs,iT,eG,ik⟩:=xM;have lN:=pK.mono cT;have o1:=oo lN;have DX:∀v∈(xs.map bT).flatten,v.oneCell'=true:=λv hv=>by
  obtain⟨c,hc,hv⟩:=wwn.1 hv;obtain⟨y,hy,rfl⟩:=zz1.1 hc;obtain⟨i,hi,rfl⟩:=yyf hy;exact oo (ik i (by omega) hi) v hv
 refine⟨λvs w=>∃u,vs=[u]/\SL W (.ob (aY u 29 7 (a.length+1) ((xs.map bT).flatten++bT x))::.mem H2::F) w,?_,?_⟩
 ·refine zQ hS λw hS=>?_;refine zH hS Xh (iy _) ?_;refine⟨?_,?_⟩
  ·refine Gb λb0 w hS=>?_;have hS:=aY.full (n:=0) (sz:=7) rfl hS;refine⟨?_,?_⟩
   ·refine zx (n:=0) (m:=a.length) hS .hd (sh hS Xh eG) eG.1 rfl DX (by omega) (by omega) λu1 w hS=>?_;refine zH hS Xh (iy _) ?_;refine⟨rfl,?_⟩;refine Gb λb1 w hS=>?_;refine zx (n:=0+a.length) (m:=1) hS Xr (fC (cs:=bT x) hS .hd rfl) rfl rfl o1 (by omega) (by omega) λu1 w hS=>?_;rw[zz2,zzp]at hS
    exact⟨_,rfl,aI hS⟩
   refine Gb λb1 w hS=>?_;refine zx (n:=0) (m:=a.length) hS Xr (sh hS Xh eG) eG.1 rfl DX (by omega) (by omega) λu1 w hS=>?_;refine zx (n:=0+a.length) (m:=1) hS .hd (fC (cs:=bT x) hS Xh rfl) rfl rfl o1 (by omega) (by omega) λu1 w hS=>?_;rw[zz2,zzp]at hS
   exact⟨_,rfl,aI hS⟩
  refine Gb λb1 w hS=>?_;refine Gb λb0 w hS=>?_;have hS:=aY.full (n:=0) (sz:=7) rfl hS;refine zx (n:=0) (m:=a.length) hS .hd (sh hS Xh eG) eG.1 rfl DX (by omega) (by omega) λu1 w hS=>?_;refine zx (n:=0+a.length) (m:=1) hS .hd (fC (cs:=bT x) hS Xh rfl) rfl rfl o1 (by omega) (by omega) λu1 w hS=>?_;rw[zz2,zzp]at hS
  exact⟨_,rfl,aI hS⟩
 clear hS;rintro u3 w ⟨_,h3,hS⟩;cases h3;obtain⟨H3,da,Tz,hS⟩:=aY.freeze (SL.bA hS (t:=.mem H2::.ob (aY u3 29 7 (a.length+1) ((xs.map bT).flatten++bT x))::F) Xi);have hb:eJ H3 u3 (a++[s]):=eJ.snoc iT (λi h h'=>(ik i h h').mono da) (lN.mono da) Tz;have iQ:=aX.le_trans dF (aX.le_trans cT da);have xU:=xt nU (by omega);have b5:∀i (h:i<3),eJ H3 ([v,u,u3][i]'h) ([l,a,a++[s]][i]'h)/\sA ([l,a,a++[s]][i]'h):=λi h=>by
  match i,h with
  | 0,_=>exact⟨hv.mono iQ,hl⟩
  | 1,_=>exact⟨ha.mono da,xU⟩
  | 2,_=>exact⟨hb,by simp;omega,λt ht=>(yyb.1 ht).elim (xU.2 t) (hs.2 t)⟩
 refine zA hS (cells:=[v,u,u3]) (by simp[eV,bq,jC hv.one,jC ha.one,jC hb.one]) λtb w hS=>?_;repeat first|refine Gp ?_|refine Gw λw hS=>?_|refine Gb λb w hS=>?_
 refine⟨λvs w=>∃i:Nat,vs=[Γ i]/\i<=3/\SL W (.pt tb [v,u,u3] 22::.mem H3::F) w,
  λvs _=>match vs with|[.int _ i]=>(3-i).toNat|_=>0,⟨0,rfl,by omega,aI hS⟩,?_⟩
 clear hS;rintro _ w ⟨i,bM,hi,hS⟩;cases bM;repeat first|refine Gp ?_|refine Gw λw hS=>?_|refine Gb λb w hS=>?_
 refine za (λcA=>?_) (λcA=>?_)
 ·have bg:i<3:=by omega
  refine zM bg (zT hS .hd (v:=[v,u,u3][i]'bg) (by rw[zz2,wwl];exact zzc (l:=[v,u,u3]) bg) ?_);obtain⟨hr,hf⟩:=b5 i bg;generalize ([v,u,u3][i]'bg)=y at *
  generalize ([l,a,a++[s]][i]'bg)=L at *
  refine Cc (zV H3 y L hr hf.bh hf.1) ?_;clear hS;rintro r post hq w hS;unfold mE at hq;have fin:∀{w:Ζ},SL W (.pt tb [v,u,u3] 22::.mem H3::F) w->∃(vs:Nat),[Γ ((i:Int)+1)]=[Γ vs]/\vs<=3/\SL W (.pt tb [v,u,u3] 22::.mem H3::F) w:=λhS=>⟨i+1,by simp,by omega,hS⟩;cases he:l4 L with
  | error e=>
   rw[he]at hq
   obtain⟨rfl,rfl⟩:=hq;try simp only[app]at hS
   repeat first|refine Gp ?_|refine Gw λw hS=>?_|refine Gb λb w hS=>?_
   refine Cc (yz H3 y L hr hf.2) ?_;clear hS;rintro r post hq w hS;unfold mE at hq;rw[he]at hq
   obtain⟨rfl,rfl⟩:=hq;try simp only[app]at hS
   repeat first|refine Gp ?_|refine Gw λw hS=>?_|refine Gb λb w hS=>?_
   refine Cc (yW H3 y L hr hf.bh hf.1) ?_;clear hS;(rintro v post ⟨rfl,rfl⟩ w hS;(try simp only[app]at hS);(repeat (first|refine Gp ?_|refine Gw λw hS=>?_|refine Gb λb w hS=>?_)))
   refine Cc (yo H3 y L hr hf.2) ?_;clear hS;(rintro v post ⟨rfl,rfl⟩ w hS;(try simp only[app]at hS);(repeat (first|refine Gp ?_|refine Gw λw hS=>?_|refine Gb λb w hS=>?_)))
   repeat first|refine Gp ?_|refine Gw λw hS=>?_|refine Gb λb w hS=>?_
   refine Χ ?_;repeat first|refine Gp ?_|refine Gw λw hS=>?_|refine Gb λb w hS=>?_
   refine Χ ?_;refine Cc (YF (.mem H3) _ _ [] [] bN.nil bN.nil) ?_;clear hS;(rintro v post ⟨rfl,rfl⟩ w hS;(try simp only[app]at hS);(repeat (first|refine Gp ?_|refine Gw λw hS=>?_|refine Gb λb w hS=>?_)))
   refine zr (λh=>absurd rfl (yyj h)) (λ_=>?_);repeat first|refine Gp ?_|refine Gw λw hS=>?_|refine Gb λb w hS=>?_
   exact⟨fin (aI hS),by dsimp only;omega⟩
  | ok bs=>
   rw[he]at hq
   obtain⟨w1,rfl,rfl⟩:=hq;try simp only[app]at hS
   repeat first|refine Gp ?_|refine Gw λw hS=>?_|refine Gb λb w hS=>?_
   refine Cc (yz H3 y L hr hf.2) ?_;clear hS;rintro r post hq w hS;unfold mE at hq;rw[he]at hq
   obtain⟨w2,rfl,rfl⟩:=hq;try simp only[app]at hS
   repeat first|refine Gp ?_|refine Gw λw hS=>?_|refine Gb λb w hS=>?_
   refine Cc (yW H3 y L hr hf.bh hf.1) ?_;clear hS;(rintro v post ⟨rfl,rfl⟩ w hS;(try simp only[app]at hS);(repeat (first|refine Gp ?_|refine Gw λw hS=>?_|refine Gb λb w hS=>?_)))
   refine Cc (yo H3 y L hr hf.2) ?_;clear hS;(rintro v post ⟨rfl,rfl⟩ w hS;(try simp only[app]at hS);(repeat (first|refine Gp ?_|refine Gw λw hS=>?_|refine Gb λb w hS=>?_)))
   repeat first|refine Gp ?_|refine Gw λw hS=>?_|refine Gb λb w hS=>?_
   refine Χ ?_;repeat first|refine Gp ?_|refine Gw λw hS=>?_|refine Gb λb w hS=>?_
   refine Χ ?_;refine Cc (Zr (.ob (aY w1 5 1 bs.length (bs.map bo))) (.ob (aY w2 5 1 bs.length (bs.map bo))) w1 w2 bs bs bN.own bN.own) ?_;clear hS;(rintro v post ⟨rfl,rfl⟩ w hS;(try simp only[app]at hS);(repeat (first|refine Gp ?_|refine Gw λw hS=>?_|refine Gb λb w hS=>?_)))
   refine zr (λh=>absurd rfl (yyj h)) (λ_=>?_);repeat first|refine Gp ?_|refine Gw λw hS=>?_|refine Gb λb w hS=>?_
   exact⟨fin (aI hS),by dsimp only;omega⟩
 refine Cc (zS) ?_;clear hS;(rintro v post ⟨rfl,rfl⟩ w hS;(try simp only[app]at hS);(repeat (first|refine Gp ?_|refine Gw λw hS=>?_|refine Gb λb w hS=>?_)))
 exact⟨_,⟨rfl,H3,[],iQ,rfl⟩,aI hS⟩
def bdy(l:List bB)(s:bB)(at_:Int)(ln:l.length<=140737488351232)(ok:∀s∈l,oY s)(DQ:oY s)(v:Ε)(cs:Array Ε)(w:Ζ)(hl:gE sj w gj l v)(hs:sj.rd w gj s cs.toList):
  Calls prog 3 #[v,.agg cs,Γ at_] w λe w'=>e= .returned (.bool true)/\Below w.heap.size w w':=by
 obtain⟨x,e,hx⟩:=OD hs;obtain rfl:cs=(bT x).toArray:=by rw[<- e]
 exact (yO (Zx (aX.of w) v l x s (Γ at_) (eJ.of hl) hx ⟨ln,λs hs=>⟨(ok s hs).sg,(ok s hs).l,(ok s hs).bh⟩⟩ ⟨show 1<=140737488351232 by omega,λt ht=>by rw[zz8.1 ht];exact⟨DQ.sg,DQ.l,DQ.bh⟩⟩ ok)).calls
set_option maxRecDepth 100000
open Go.RowKit
def RZ{b:Φ}{l:List bz}(h:dK b= .ok l)(h2:¬mr (oe ⟨l,false⟩)):h_ b= .error 3:=by
 rcases Oe l with ⟨h3,_⟩|⟨_,h3⟩
 ·exact absurd h3 h2
 exact JM h h3
def RY{b:Φ}{l:List bz}(h:dK b= .ok l)(h2:mr (oe ⟨l,false⟩)):h_ b= .ok (oe ⟨l,false⟩).1.2:=by
 rcases Oe l with ⟨h3,e⟩|⟨h3,_⟩
 ·rw[e];exact JK h (by rw[<- e];exact h3)
 exact absurd h2 h3
def Mx{α:Type}(p:bf->α × bf):∀(n:Nat) (r:bf),(bW p n r).1.length<=n
 | 0,r=>by rw[DC p (.inl rfl)];exact zzz _
 | n+1,r=>by
  cases hb:r.bad with
  | true=>rw[DC p (.inr hb)];exact yye _
  | false=>rw[Mw p hb,zzg];have:=Mx p n (p r).2;omega
def BV{α:Type}(p:bf->α × bf){m:Int}(hm:0<=m)(r:bf):(dO (bJ m) (bW p) r).1.2.length<=m.toNat:=by
 show (bW p (bJ m r).1.toNat (bJ m r).2).1.length<=_;have h1:=vR hm r;have h2:=Mx p (bJ m r).1.toNat (bJ m r).2;omega
def aFg(r:bf):(jE r).1.sg.length<=2/\(jE r).1.l.length<=16/\(jE r).1.bh.length<=64:=by
 have h:∀(k:Int) (r:bf),(fP k r).1.sg.length<=2/\(fP k r).1.l.length<=16/\(fP k r).1.bh.length<=64:=λk r=>by
  have z:([]:Ω).length<=64:=yye _;have z1:([]:Ψ).length<=2:=yye _;have z2:([]:List bY).length<=16:=yye _;unfold fP;split
  ·exact⟨BV cJ (m:=2) (by decide) r,BV jv (m:=16) (by decide) _,z⟩
  split
  ·exact⟨z1,z2,z⟩
  split
  ·exact⟨z1,z2,z⟩
  split
  ·exact⟨z1,z2,BV (bJ 2147483647) (m:=64) (by decide) r⟩
  exact⟨z1,z2,z⟩
 exact h _ _
set_option maxHeartbeats 2000000 in
def Y8(rp:Nat)(r:bf)(H:aX):SP 42 [Δ rp] [.ob (de rp r),.mem H]
  (λv post=>∃(y:dJ) (H':aX),H.le H'/\v=agg (bT y)/\dG H' y (jE r).1/\post=[.ob (de rp (jE r).2),.mem H']):=by
 refine Enzz λW F w hS=>?_;apply aZu;delta aF bd aW ba bD pf ai bn aZ;have he:jE r=fP (bJ 8 r).1 (bJ 8 r).2:=rfl;rw[he];refine Gb λzb w hS=>?_;refine Cc (zI rp r 8) ?_;clear hS;rintro v1 post ⟨rfl,rfl⟩ w hS;try simp only[app]at hS
 clear he;generalize (bJ 8 r).1=k at *
 generalize (bJ 8 r).2=r2 at *
 have nl:∀(H:aX) (sz:Nat),bK H sz Θ 0 []:=bK.nil;(repeat refine Gp ?_)
 refine Gb λob w hS=>?_;repeat first|refine Gp ?_|refine Gw λw hS=>?_|refine Gb λb w hS=>?_
 have fin:∀(n:Int) (sv cv:Ε) (x y:Int) (kv:Ε) (H2:aX) (t:bB) (r':bf) {w:Ζ},fP k r2=(t,r')->H.le H2->dG H2 ⟨k,n,sv,cv,⟨x,y⟩,kv⟩ t->SL W (.pt ob [Γ k,Γ n,sv,cv,Γ x,Γ y,kv] 29::fG zb 0 0 Θ Θ Θ::.ob (de rp r')::.mem H2::F) w ->
   zf 7 (Δ ob) w λra=>zn 7 (Δ zb) ra w λjR=>zf 7 (Δ zb) jR λv=>∃post,(∃(y:dJ) (H':aX),H.le H'/\v=agg (bT y)/\dG H' y (fP k r2).1/\post=[.ob (de rp (fP k r2).2),.mem H'])/\SL W (app post F) jR:=by
  intro n sv cv x y kv H2 t r' w e hh gd hS;rw[e];refine zH hS Xh rfl ?_;refine zO (vs:=bT ⟨k,n,sv,cv,⟨x,y⟩,kv⟩) hS Xu rfl rfl (oo gd) λw hS=>?_;refine zH hS Xh rfl ?_;exact⟨_,⟨_,H2,hh,rfl,gd,rfl⟩,aI hS⟩
 have hS:SL W (.pt ob [Γ k,Γ 0,Θ,Θ,Γ 0,Γ 0,Θ] 29::.pt zb [Γ 0,Γ 0,Θ,Θ,Γ 0,Γ 0,Θ] 29::.ob (de rp r2)::.mem H::F) w:=aI hS;refine za (λk1=>?_) (λk1=>?_)
 ·have nR:fP k r2=eX (tH k) (cL (dO (bJ 2) (bW cJ)) λ_=>dO (bJ 16) (bW jv)) r2:=by unfold fP;rw[zzd k1]
  have kY:=vR (m:=2) (by decide) r2;have hS:SL W (hU Θ []::_) _:=aY.nil hS;refine Cc (zI rp r2 2) ?_;clear hS;rintro v1 post ⟨rfl,rfl⟩ w hS;try simp only[app]at hS
  refine⟨λus w=>us=[]/\∃sv,SL W (hU sv (bW cJ (bJ 2 r2).1.toNat (bJ 2 r2).2).1::.ob (de rp (bW cJ (bJ 2 r2).1.toNat (bJ 2 r2).2).2)::fG ob k 0 sv Θ Θ::fG zb 0 0 Θ Θ Θ::.mem H::F) w,?_,?_⟩
  ·clear fin nR;generalize (bJ 2 r2).1=n1 at *
   generalize (bJ 2 r2).2=r3 at *
   refine⟨λus w=>∃(i j:Nat) (gz:Ψ) (r:bf) (sv:Ε),us=[Γ i]/\n1=((i+j:Nat):Int)/\gO cJ n1.toNat r3 gz j r/\SL W (hU sv gz::.ob (de rp r)::fG ob k 0 sv Θ Θ::fG zb 0 0 Θ Θ Θ::.mem H::F) w,
    λus _=>match us with|[.int _ i]=>(n1-i).toNat|_=>0,⟨0,n1.toNat,[],r3,Θ,rfl,by omega,gO.start _ _ _,aI hS⟩,?_⟩
   clear hS;rintro v8 w ⟨i,j,gz,r,sv,bM,hn,hM,hS⟩;cases bM;have hle:=hM.le;repeat first|refine Gp ?_|refine Gw λw hS=>?_|refine Gb λb w hS=>?_
   refine za (λh=>?_) (λh=>?_)
   ·repeat first|refine Gp ?_|refine Gw λw hS=>?_|refine Gb λb w hS=>?_
    refine de.w5 (r:=r) (Has.front hS Xr) ?_;repeat first|refine Gp ?_|refine Gw λw hS=>?_|refine Gb λb w hS=>?_
    refine zr (λhb=>?_) (λhb=>?_)
    ·obtain⟨j,rfl⟩:∃x,j=x+1:=⟨j-1,by omega⟩;have hM:=hM.step hb;refine zQ hS λw hS=>?_;repeat first|refine Gp ?_|refine Gw λw hS=>?_|refine Gb λb w hS=>?_
     refine Cc (Zu rp r) ?_;clear hS;(rintro v post ⟨rfl,rfl⟩ w hS;(try simp only[app]at hS);(repeat (first|refine Gp ?_|refine Gw λw hS=>?_|refine Gb λb w hS=>?_)))
     refine ye (n:=gz.length) (xs:=gz) (y:=(cJ r).1) (enc:=λs=>[Value.string s]) hS Xr Xh (λ_=>rfl) (by simp[Value.oneCell']) rfl (by omega) (by omega) λu w hS=>?_;have h1:=aY.one hS;repeat first|refine Gp ?_|refine Gw λw hS=>?_|refine Gb λb w hS=>?_
     refine⟨⟨i+1,j,_,_,u,rfl,by omega,hM,?_⟩,by dsimp only;omega⟩;have hS:=hS.lS (x:=(cJ r).1);exact aI hS
    refine⟨rfl,sv,?_⟩;rw[hM.stop (.inr hb)];exact aI hS
   refine⟨rfl,sv,?_⟩;rw[hM.stop (.inl (by omega))];exact aI hS
  clear hS;rintro w ⟨_,sv,hS⟩;generalize hy:bW cJ (bJ 2 r2).1.toNat (bJ 2 r2).2=y2 at *
  obtain⟨gz,r4⟩:=y2;simp only at hS;have kZ:=vR (m:=16) (by decide) r4;have hS:SL W (iJ Θ []::_) _:=aY.nil hS;refine Cc (zI rp r4 16) ?_;clear hS;rintro v1 post ⟨rfl,rfl⟩ w hS;try simp only[app]at hS
  have e2:fP k r2=(tH k (((bJ 2 r2).1,gz),((bJ 16 r4).1,(bW jv (bJ 16 r4).1.toNat (bJ 16 r4).2).1)),(bW jv (bJ 16 r4).1.toNat (bJ 16 r4).2).2):=by
   rw[nR];unfold eX cL dO cL;simp only[hy]
  clear nR hy;generalize (bJ 2 r2).1=n1 at *
  generalize (bJ 16 r4).1=n2 at *
  generalize (bJ 16 r4).2=r5 at *
  refine⟨λus w=>∃(i j:Nat) (dY:List bY) (r:bf) (cv:Ε),us=[Γ i]/\n2=((i+j:Nat):Int)/\gO jv n2.toNat r5 dY j r/\SL W (iJ cv dY::.ob (de rp r)::hU sv gz::fG ob k 0 sv cv Θ::fG zb 0 0 Θ Θ Θ::.mem H::F) w,
   λus _=>match us with|[.int _ i]=>(n2-i).toNat|_=>0,⟨0,n2.toNat,[],r5,Θ,rfl,by omega,gO.start _ _ _,aI hS⟩,?_⟩
  clear hS;rintro v8 w ⟨i,j,dY,r',cv,bM,hn,hM,hS⟩;cases bM;have hle:=hM.le;have uW:(j=0\/r'.bad=true)->∀{w:Ζ},SL W (iJ cv dY::.ob (de rp r')::hU sv gz::fG ob k 0 sv cv Θ::fG zb 0 0 Θ Θ Θ::.mem H::F) w->zf 7 (Δ ob) w λra=>zn 7 (Δ zb) ra w λjR=>zf 7 (Δ zb) jR λv=>∃post,(∃(y:dJ) (H':aX),H.le H'/\v=agg (bT y)/\dG H' y (fP k r2).1/\post=[.ob (de rp (fP k r2).2),.mem H'])/\SL W (app post F) jR:=λh0 w hS=>by
   rw[hM.stop h0]at e2
   obtain⟨H1,dF,hN,hS⟩:=aY.freeze (SL.bA hS (t:=.mem H::hU sv gz::iJ cv dY::.ob (de rp r')::fG ob k 0 sv cv Θ::fG zb 0 0 Θ Θ Θ::F) Xi);obtain⟨H2,cT,hO,hS⟩:=aY.freeze hS;rw[AZ]at hN
   exact fin 0 sv cv 0 0 Θ H2 _ r' e2 (aX.le_trans dF cT) ⟨rfl,rfl,rfl,hN.mono cT,hO,nl _ _⟩ (aI hS)
  repeat first|refine Gp ?_|refine Gw λw hS=>?_|refine Gb λb w hS=>?_
  refine za (λh=>?_) (λh=>uW (.inl (by omega)) (aI hS));repeat first|refine Gp ?_|refine Gw λw hS=>?_|refine Gb λb w hS=>?_
  refine de.w5 (r:=r') (Has.front hS Xr) ?_;repeat first|refine Gp ?_|refine Gw λw hS=>?_|refine Gb λb w hS=>?_
  refine zr (λhb=>?_) (λhb=>uW (.inr hb) (aI hS));obtain⟨j,rfl⟩:∃x,j=x+1:=⟨j-1,by omega⟩;have hM:=hM.step hb;refine zQ hS λw hS=>?_;repeat first|refine Gp ?_|refine Gw λw hS=>?_|refine Gb λb w hS=>?_
  refine Cc (QO rp r') ?_;clear hS;(rintro v post ⟨rfl,rfl⟩ w hS;(try simp only[app]at hS);(repeat (first|refine Gp ?_|refine Gw λw hS=>?_|refine Gb λb w hS=>?_)))
  refine ye (n:=dY.length) (xs:=dY) (y:=(jv r').1) (enc:=dh) hS Xr Xh kM (λx=>xk x) rfl (by omega) (by omega) λu w hS=>?_;have h1:=aY.one hS;repeat first|refine Gp ?_|refine Gw λw hS=>?_|refine Gb λb w hS=>?_
  refine⟨⟨i+1,j,_,_,u,rfl,by omega,hM,?_⟩,by dsimp only;omega⟩;have hS:=hS.lS (x:=(jv r').1);exact aI hS
 repeat first|refine Gp ?_|refine Gw λw hS=>?_|refine Gb λb w hS=>?_
 refine za (λk3=>?_) (λk3=>?_)
 ·refine Cc (zI rp r2 3) ?_;clear hS;(rintro v post ⟨rfl,rfl⟩ w hS;(try simp only[app]at hS);(repeat (first|refine Gp ?_|refine Gw λw hS=>?_|refine Gb λb w hS=>?_)))
  repeat first|refine Gp ?_|refine Gw λw hS=>?_|refine Gb λb w hS=>?_
  refine Cc (zI rp _ 2147483647) ?_;clear hS;(rintro v post ⟨rfl,rfl⟩ w hS;(try simp only[app]at hS);(repeat (first|refine Gp ?_|refine Gw λw hS=>?_|refine Gb λb w hS=>?_)))
  repeat first|refine Gp ?_|refine Gw λw hS=>?_|refine Gb λb w hS=>?_
  rw[show fP k r2=(tI k ((bJ 3 r2).1,(bJ 2147483647 (bJ 3 r2).2).1),(bJ 2147483647 (bJ 3 r2).2).2) by unfold fP;rw[zzb k1,zzd k3];rfl];exact⟨_,⟨⟨k,0,Θ,Θ,⟨(bJ 3 r2).1,(bJ 2147483647 (bJ 3 r2).2).1⟩,Θ⟩,H,aX.le_refl H,rfl,⟨rfl,rfl,rfl,nl _ _,nl _ _,nl _ _⟩,rfl⟩,aI hS⟩
 repeat first|refine Gp ?_|refine Gw λw hS=>?_|refine Gb λb w hS=>?_
 refine za (λk8=>?_) (λk8=>?_)
 ·have k6:k≠6:=by omega
  have nR:fP k r2=eX (n3 k) (dO (bJ 64) (bW (bJ 2147483647))) r2:=by unfold fP;rw[zzb k1,zzb k3,zzb k6,zzd k8]
  have kY:=vR (m:=64) (by decide) r2;have hS:SL W (pc Θ []::_) _:=aY.nil hS;refine Cc (zI rp r2 64) ?_;clear hS;rintro v1 post ⟨rfl,rfl⟩ w hS;try simp only[app]at hS
  have e2:fP k r2=(n3 k ((bJ 64 r2).1,(bW (bJ 2147483647) (bJ 64 r2).1.toNat (bJ 64 r2).2).1),(bW (bJ 2147483647) (bJ 64 r2).1.toNat (bJ 64 r2).2).2):=nR;clear nR;generalize (bJ 64 r2).1=n2 at *
  generalize (bJ 64 r2).2=r5 at *
  refine⟨λus w=>∃(i j:Nat) (ks:Ω) (r:bf) (kv:Ε),us=[Γ i]/\n2=((i+j:Nat):Int)/\gO (bJ 2147483647) n2.toNat r5 ks j r/\SL W (pc kv ks::.ob (de rp r)::fG ob k 0 Θ Θ kv::fG zb 0 0 Θ Θ Θ::.mem H::F) w,
   λus _=>match us with|[.int _ i]=>(n2-i).toNat|_=>0,⟨0,n2.toNat,[],r5,Θ,rfl,by omega,gO.start _ _ _,aI hS⟩,?_⟩
  clear hS;rintro v8 w ⟨i,j,ks,r',kv,bM,hn,hM,hS⟩;cases bM;have hle:=hM.le;have uW:(j=0\/r'.bad=true)->∀{w:Ζ},SL W (pc kv ks::.ob (de rp r')::fG ob k 0 Θ Θ kv::fG zb 0 0 Θ Θ Θ::.mem H::F) w->zf 7 (Δ ob) w λra=>zn 7 (Δ zb) ra w λjR=>zf 7 (Δ zb) jR λv=>∃post,(∃(y:dJ) (H':aX),H.le H'/\v=agg (bT y)/\dG H' y (fP k r2).1/\post=[.ob (de rp (fP k r2).2),.mem H'])/\SL W (app post F) jR:=λh0 w hS=>by
   rw[hM.stop h0]at e2
   obtain⟨H2,ep,hN,hS⟩:=aY.freeze (SL.bA hS (t:=.mem H::pc kv ks::.ob (de rp r')::fG ob k 0 Θ Θ kv::fG zb 0 0 Θ Θ Θ::F) Xi);rw[LX]at hN
   exact fin 0 Θ Θ 0 0 kv H2 _ r' e2 ep ⟨rfl,rfl,rfl,nl _ _,nl _ _,hN⟩ (aI hS)
  repeat first|refine Gp ?_|refine Gw λw hS=>?_|refine Gb λb w hS=>?_
  refine za (λh=>?_) (λh=>uW (.inl (by omega)) (aI hS));repeat first|refine Gp ?_|refine Gw λw hS=>?_|refine Gb λb w hS=>?_
  refine de.w5 (r:=r') (Has.front hS Xr) ?_;repeat first|refine Gp ?_|refine Gw λw hS=>?_|refine Gb λb w hS=>?_
  refine zr (λhb=>?_) (λhb=>uW (.inr hb) (aI hS));obtain⟨j,rfl⟩:∃x,j=x+1:=⟨j-1,by omega⟩;have hM:=hM.step hb;refine zQ hS λw hS=>?_;repeat first|refine Gp ?_|refine Gw λw hS=>?_|refine Gb λb w hS=>?_
  refine Cc (zI rp r' 2147483647) ?_;clear hS;(rintro v post ⟨rfl,rfl⟩ w hS;(try simp only[app]at hS);(repeat (first|refine Gp ?_|refine Gw λw hS=>?_|refine Gb λb w hS=>?_)))
  refine ye (n:=ks.length) (xs:=ks) (y:=(bJ 2147483647 r').1) (enc:=λk=>[Γ k]) hS Xr Xh (λ_=>rfl) (by simp[Value.oneCell']) rfl (by omega) (by omega) λu w hS=>?_;have h1:=aY.one hS;repeat first|refine Gp ?_|refine Gw λw hS=>?_|refine Gb λb w hS=>?_
  refine⟨⟨i+1,j,_,_,u,rfl,by omega,hM,?_⟩,by dsimp only;omega⟩;have hS:=hS.lS (x:=(bJ 2147483647 r').1);exact aI hS
 repeat first|refine Gp ?_|refine Gw λw hS=>?_|refine Gb λb w hS=>?_
 refine za (λk6=>?_) (λk6=>?_)
 ·exact fin 0 Θ Θ 0 0 Θ H (gA k) r2 (by unfold fP;rw[zzb k1,zzb k3,zzd k6]) (aX.le_refl H) ⟨rfl,rfl,rfl,nl _ _,nl _ _,nl _ _⟩ (aI hS)
 refine Cc (zI rp r2 1125899906842624) ?_;clear hS;(rintro v post ⟨rfl,rfl⟩ w hS;(try simp only[app]at hS);(repeat (first|refine Gp ?_|refine Gw λw hS=>?_|refine Gb λb w hS=>?_)))
 repeat first|refine Gp ?_|refine Gw λw hS=>?_|refine Gb λb w hS=>?_
 rw[show fP k r2=(pU k (bJ 1125899906842624 r2).1,(bJ 1125899906842624 r2).2) by unfold fP;rw[zzb k1,zzb k3,zzb k6,zzb k8];rfl];exact⟨_,⟨⟨k,(bJ 1125899906842624 r2).1,Θ,Θ,⟨0,0⟩,Θ⟩,H,aX.le_refl H,rfl,⟨rfl,rfl,rfl,nl _ _,nl _ _,nl _ _⟩,rfl⟩,aI hS⟩
def nA(H:aX)(b:Φ)(u:Ε)(post:Β):Prop:=match h_ b with
 | .error e=>e≠0/\∃H',H.le H'/\u= .tuple #[Θ,Γ e]/\post=[.mem H']
 | .ok l=>∃v H',H.le H'/\u= .tuple #[v,Γ 0]/\eJ H' v l/\post=[.mem H']
set_option maxHeartbeats 1000000 in
def yZ(H:aX)(v:Ε)(bs:Φ)(hv:bK H 1 v bs.length (bs.map bo))(hN:bs.length<=140737488355328):SP 19 [v] [.mem H] (nA H bs):=by
 refine Enzz λW F w hS=>?_;apply aWn;delta aF bd bD By ai aZ;refine Cc (Yp (.mem H) v bs (bN.rd hv) hN) ?_;clear hS;rintro r post hq w hS;unfold lq at hq;cases hd:dK bs with
 | error e=>
  rw[hd]at hq
  obtain⟨rfl,rfl⟩:=hq;have he:=uN hd;try simp only[app]at hS
  repeat first|refine Gp ?_|refine Gw λw hS=>?_|refine Gb λb w hS=>?_
  refine za (λ_=>?_) (λh=>absurd he h);repeat first|refine Gp ?_|refine Gw λw hS=>?_|refine Gb λb w hS=>?_
  exact⟨[.mem H],by unfold nA;rw[JJ hd];exact⟨he,H,aX.le_refl H,rfl,rfl⟩,aI hS⟩
 | ok l=>
  rw[hd]at hq
  obtain⟨lv,rfl,rfl⟩:=hq;try simp only[app]at hS
  refine Gp ?_;refine Χ ?_;obtain⟨la,lc,rfl,_⟩:=aY.at hS (v:=lv) .hd;refine Gp ?_;refine zu hS λrp w hS=>?_;have hS:=(de.iff (r:=⟨l,false⟩)).2 ⟨_,l,0,⟨yye _,RR hd,rfl⟩,hS⟩;have kY:=vR (m:=1000) (by decide) ⟨l,false⟩;refine Cc (zI rp ⟨l,false⟩ 1000) ?_;clear hS;rintro v1 post ⟨rfl,rfl⟩ w hS;try simp only[app]at hS
  have oU:oe ⟨l,false⟩=(((bJ 1000 ⟨l,false⟩).1,(bW jE (bJ 1000 ⟨l,false⟩).1.toNat (bJ 1000 ⟨l,false⟩).2).1),(bW jE (bJ 1000 ⟨l,false⟩).1.toNat (bJ 1000 ⟨l,false⟩).2).2):=rfl;generalize (bJ 1000 ⟨l,false⟩).1=n1 at *
  generalize (bJ 1000 ⟨l,false⟩).2=r2 at *
  have hS:SL W (.ob (aY Θ 29 7 ([]:List dJ).length (([]:List dJ).map bT).flatten)::_) _:=aY.nil hS;refine⟨λus w=>∃(i k:Nat) (a:List bB) (ys:List dJ) (r:bf) (u:Ε) (H2:aX),us=[u,Γ i]/\n1=((i+k:Nat):Int)/\gO jE n1.toNat r2 a k r/\H.le H2/\ys.length=a.length/\(∀s∈a,s.sg.length<=140737488351232/\s.l.length<=140737488351232/\s.bh.length<=140737488351232)/\(∀i (h:i<a.length) (h':i<ys.length),dG H2 ys[i] a[i])/\SL W (.ob (aY u 29 7 ys.length (ys.map bT).flatten)::.ob (de rp r)::.mem H2::F) w,
   λus _=>match us with|[_,.int _ i]=>(n1-i).toNat|_=>0,⟨0,n1.toNat,[],[],r2,Θ,H,rfl,by omega,gO.start _ _ _,aX.le_refl H,rfl,(λ_ h=>by cases h),(λi h=>absurd h (www i)),aI hS⟩,?_⟩
  clear hS;rintro v8 v9 w ⟨i,k,a,ys,r,u,H2,bM,hni,hM,ep,j4,vv,pL,hS⟩;cases bM;have hle:=hM.le;have fM:(k=0\/r.bad=true)->∀{w:Ζ},SL W (.ob (aY v8 29 7 ys.length (ys.map bT).flatten)::.ob (de rp r)::.mem H2::F) w ->
    aw 43 [Δ rp] w λv35 wx=>yM v35 λv36=>bL v36 (∃post,nA H bs (.tuple #[Θ,Γ 3]) post/\SL W (app post F) wx)
     (aw 12 [v8] wx λv39 wv=>yM v39 λv40=>bL v40 (∃post,nA H bs (.tuple #[Θ,Γ 3]) post/\SL W (app post F) wv) (∃post,nA H bs (.tuple #[v8,Γ 0]) post/\SL W (app post F) wv)):=by
   intro gd w hS;have lJ:=hM.stop gd;rw[lJ]at oU
   refine Cc (QQ rp r) ?_;clear hS;(rintro v post ⟨rfl,rfl⟩ w hS;(try simp only[app]at hS);(repeat (first|refine Gp ?_|refine Gw λw hS=>?_|refine Gb λb w hS=>?_)))
   have cU:¬(r.bad=false/\r.l=[]/\iV a=true)->∀{w:Ζ} {H3:aX},H.le H3->SL W (.mem H3::F) w->∃post,nA H bs (.tuple #[Θ,Γ 3]) post/\SL W (app post F) w:=λh w H3 hh hS=>⟨[.mem H3],by unfold nA;rw[RZ hd (by rw[oU];exact λk=>h ⟨k.1.1,k.1.2,k.2⟩)];exact⟨by decide,H3,hh,rfl,rfl⟩,hS⟩;refine zr (λhb=>?_) (λhb=>?_)
   ·have hb:=yyj hb;exact cU (λh=>hb ⟨h.1,h.2.1⟩) ep (aI hS)
   have hb:=zzl hb;obtain⟨H3,da,hR,hS⟩:=aY.freeze (SL.bA hS (t:=.mem H2::.ob (aY v8 29 7 ys.length (ys.map bT).flatten)::F) Xi);have bU:eJ H3 v8 a:=⟨ys,j4,by rw[<- j4];exact hR,λi h h'=>(pL i h h').mono da⟩;have iQ:=aX.le_trans ep da;repeat first|refine Gp ?_|refine Gw λw hS=>?_|refine Gb λb w hS=>?_
   refine Cc (yo H3 v8 a bU vv) ?_;clear hS;(rintro v post ⟨rfl,rfl⟩ w hS;(try simp only[app]at hS);(repeat (first|refine Gp ?_|refine Gw λw hS=>?_|refine Gb λb w hS=>?_)))
   refine zr (λhm=>?_) (λhm=>?_)
   ·exact cU (λh=>by rw[h.2.2]at hm;cases hm) iQ (aI hS)
   exact⟨[.mem H3],by unfold nA;rw[RY hd (by rw[oU];exact⟨⟨hb.1,hb.2⟩,hm⟩),oU];exact⟨v8,H3,iQ,rfl,bU,rfl⟩,aI hS⟩
  repeat first|refine Gp ?_|refine Gw λw hS=>?_|refine Gb λb w hS=>?_
  refine za (λh=>?_) (λh=>fM (.inl (by omega)) hS);repeat first|refine Gp ?_|refine Gw λw hS=>?_|refine Gb λb w hS=>?_
  refine de.w5 (r:=r) (Has.front hS Xr) ?_;repeat first|refine Gp ?_|refine Gw λw hS=>?_|refine Gb λb w hS=>?_
  refine zr (λhb=>?_) (λhb=>fM (.inr hb) (aI hS));clear fM;obtain⟨k,rfl⟩:∃i,k=i+1:=⟨k-1,by omega⟩;have hM:=hM.step hb;have hle:=hM.le;rw[zza,yyg]at hle
  have K_:=aFg r;repeat first|refine Gp ?_|refine Gw λw hS=>?_|refine Gb λb w hS=>?_
  refine Cc (Y8 rp r H2) ?_;clear hS;rintro _ post ⟨y,H3,da,rfl,hy,rfl⟩ w hS;try simp only[app]at hS
  repeat first|refine Gp ?_|refine Gw λw hS=>?_|refine Gb λb w hS=>?_
  have hS:SL W (_::.ob (de rp (jE r).2)::.mem H3::.ob (aY v8 29 7 ys.length (ys.map bT).flatten)::F) w:=SL.bA hS (t:=.pt b (bT y) 29::.ob (de rp (jE r).2)::.mem H3::.ob (aY v8 29 7 ys.length (ys.map bT).flatten)::F) Xi;refine zx (n:=ys.length) (m:=1) hS Xr (fC (cs:=bT y) hS .hd rfl) rfl rfl (oo hy) (by omega) (by omega) ?_;clear hS;intro u' w hS;repeat first|refine Gp ?_|refine Gw λw hS=>?_|refine Gb λb w hS=>?_
  refine⟨⟨i+1,k,a++[(jE r).1],ys++[y],(jE r).2,u',H3,rfl,by omega,hM,aX.le_trans ep da,by simp[j4],λs hs=>?_,λi h h'=>?_,?_⟩,by dsimp only;omega⟩
  ·rcases yyb.1 hs with h|h
   ·exact vv s h
   rw[zz8.1 h];omega
  ·by_cases e:i<a.length
   ·rw[yy6 (by omega),yy6 (by omega)];exact (pL i (by omega) (by omega)).mono da
   have e:i=a.length:=by simp at h;omega
   subst e;have e1:(ys++[y])[a.length]=y:=by rw[yy0 (by omega)];simp[j4]
   have e2:(a++[(jE r).1])[a.length]=(jE r).1:=by rw[yy0 (by omega)];simp
   rw[e1,e2];exact hy
  rw[rD,zza,yyg];exact aI hS
set_option maxRecDepth 100000
open Go.ChangeShapes Go.WideShapes Go.ChangeAt Go.RowKit
def En:fh bz:=(jO (lT .i64) (jO (lT .i64) (jO tW tX))).via λo=>(o.kind,o.n,o.s,())
def aFw{w:Ζ}{M:MS}{o:bz}{cs:Ξ}(h:En.rd w M o cs):cs=cn o:=by
 obtain⟨c1,c2,rfl,h1,c3,c4,rfl,h3,c5,c6,rfl,h5,h6⟩:=h;have rG:c1=[Γ o.kind]:=h1;have oP:c3=[Γ o.n]:=h3;have vg:c5=[.string o.s]:=h5;have Ts:c6=[]:=h6;subst rG oP vg Ts;rfl
def bcc:jG prog 58 En (λ_=>True):=
 y8 (yV (λo:bz=>(o.kind,o.n,o.s,())) (λx=>⟨x.1,x.2.1,x.2.2.1⟩) (λ_=>rfl)
  (yn uux (by kernel_rfl) (ko (o4 zz9 (by kernel_rfl)) rfl (ko (o4 xxm (by kernel_rfl)) rfl
   (ko (Zj yyx (by kernel_rfl)) rfl (xu _ _))))))
  (λo h=>trivial)
def aFc{l:List bB}(h:iV l=true):∀t∈l,Bj t:=λt ht=>by
 have:=(xt (jM.1 h).1 (jM.1 h).2).2 t ht;exact⟨by omega,by omega,by omega⟩
def Si{f:List bz}{bs:Φ}(h:gl f= .ok bs)(hf:f.length<=300):bs.length<=140737488355328:=by
 have hl:∀L:List bz,(∀x∈L,fB x=true)->(L.map bO).flatten.length<=5000*L.length:=by
  intro L hL;induction L with
  | nil=>simp
  | cons x L ih=>
   have h1:=ih λy hy=>hL y (.tail _ hy);have h2:(bO x).length<=5000:=by
    have hx:=hL x (.head _);unfold fB at hx;unfold bO;split
    ·rw[zzg,eg];omega
    rename_i k;rw[zzg,zza,eg,show x.s.data.toList.length=x.s.size from rfl];rw[zzb k]at hx
    split at hx
    ·rw[zzk,zzo,zzo]at hx;omega
    cases hx
   rw[zzj,zzt,zza,zzg];omega
 unfold gl at h;rw[zzb (by omega)]at h
 split at h
 ·rename_i ha;cases h;have:=hl f (zzw.1 ha);rw[zza,eg];omega
 cases h
def aIm(l:Φ):∀v∈l.map bo,v.oneCell'=true:=λv hv=>by
 obtain⟨x,_,rfl⟩:=zz1.1 hv;rfl
def Sp:∃b,l4 []= .ok b:=by
 obtain⟨b,h,_⟩:=wj (l:=[]) (by decide) (by decide);exact⟨b,h⟩
def D5(H:aX):eJ H Θ []:=⟨[],rfl,bK.nil H 7,λi h=>absurd h (www i)⟩
set_option maxHeartbeats 4000000 in
def Zn(H:aX)(vb:Ε)(b_:Φ)(vf:Ε)(f:List bz)(vl:Ε)(l:List bB)(at_:Int)(y:Κ)(hb:bK H 1 vb b_.length (b_.map bo))(KK:b_.length<=140737488355328)(hf:bK H 3 vf f.length (f.map cn).flatten)(hv:eJ H vl l)(br:∀s∈l,oY s):
  SP 5 [vb,vf,vl,Γ at_,bo y] [.mem H] (λv post=>v= .bool true/\∃H' l,H.le H'/\post= .mem H'::l):=by
 refine Enzz λW F w hS=>?_;apply vc5;delta aF bD bc ai aZ;refine zh hf ?_;repeat first|refine Gp ?_|refine Gw λw hS=>?_|refine Gb λb w hS=>?_
 refine za (λcA=>?_) (λcA=>?_)
 ·refine Cc (zS) ?_;clear hS;(rintro v post ⟨rfl,rfl⟩ w hS;(try simp only[app]at hS);(repeat (first|refine Gp ?_|refine Gw λw hS=>?_|refine Gb λb w hS=>?_)))
  exact⟨_,⟨rfl,H,[],aX.le_refl H,rfl⟩,aI hS⟩
 refine Cc (Za (.mem H) vf f (jU.rd hf) (by omega)) ?_;clear hS;rintro r post hq w hS;have hc:∃(H1:aX) (vc:Ε) (c:Φ) (e:Int),H.le H1/\r= .tuple #[vc,Γ e]/\bK H1 1 vc c.length (c.map bo)/\c.length<=140737488355328/\SL W (.mem H1::F) w:=by
  unfold lr at hq;cases he:gl f with
  | error e=>
   rw[he]at hq
   obtain⟨rfl,rfl⟩:=hq;exact⟨H,_,[],e,aX.le_refl H,rfl,bK.nil H 1,by simp,aI hS⟩
  | ok bs=>
   rw[he]at hq
   obtain⟨vc,rfl,rfl⟩:=hq;obtain⟨H1,dF,hR,hS⟩:=aY.freeze (SL.bA hS (t:=.mem H::.ob (aY vc 5 1 bs.length (bs.map bo))::F) Xi);exact⟨H1,vc,bs,0,dF,rfl,hR,Si he (by omega),hS⟩
 clear hS;obtain⟨H1,vc,c,e,dF,rfl,KN,TH,hS⟩:=hc;repeat first|refine Gp ?_|refine Gw λw hS=>?_|refine Gb λb w hS=>?_
 refine Cc (yG H1 vl l 8 40 (hv.mono dF) (by decide) (by decide) (by decide) br) ?_;clear hS;rintro u post ⟨H2,a,cT,ha,m_,nU,rfl⟩ w hS;try simp only[app]at hS
 have xU:=xt nU (by omega);obtain⟨ds,ed,_,TO,hdN,_⟩:=wj (jM.2 ⟨nU,by omega⟩) (by omega);refine Cc (yz H2 u a ha xU.2) ?_;clear hS;rintro r post hq w hS;obtain⟨vd,rfl,rfl⟩:=sR ed hq;try simp only[app]at hS
 repeat first|refine Gp ?_|refine Gw λw hS=>?_|refine Gb λb w hS=>?_
 refine Χ ?_;refine zB hS (v:=vd) Xh ?_;refine Cc (yt at_ ds.length (by omega) (by omega)) ?_;clear hS;(rintro v post ⟨rfl,rfl⟩ w hS;(try simp only[app]at hS);(repeat (first|refine Gp ?_|refine Gw λw hS=>?_|refine Gb λb w hS=>?_)))
 have C6:=iX at_ ds.length (by omega);refine yp hS (v:=vd) Xh C6 (u:=bo ds[md at_ ds.length]) (by simp[C6]) ?_;repeat first|refine Gp ?_|refine Gw λw hS=>?_|refine Gb λb w hS=>?_
 have hS:SL W (.ob (aY vd 5 1 ds.length (ds.map bo))::.mem H2::F) w:=aI hS;have eu:Value.int .u8 (IntKind.u8.wrap ((ds[md at_ ds.length].toNat:Int)+y.toNat))=bo (ds[md at_ ds.length]+y):=by
  unfold bo;congr 1
 refine⟨_,rfl,?_⟩;rw[show (Value.int .u8 (IntKind.u8.wrap (((ds[md at_ ds.length]).toNat:Int)+(y.toNat:Int))))=bo (ds[md at_ ds.length]+y) from eu];refine Zz hS C6 rfl λw hS=>?_;generalize nc:ds.set (md at_ ds.length) (ds[md at_ ds.length]+y)=d at *
 have l6:d.length=ds.length:=by rw[<- nc,yyi]
 rw[show (ds.map bo).set (md at_ ds.length) (bo (ds[md at_ ds.length]+y))=d.map bo by rw[<- nc,vvo],<- l6]at hS
 obtain⟨H3,da,nT,hS⟩:=aY.freeze (SL.bA hS (t:=.mem H2::.ob (aY vd 5 1 d.length (d.map bo))::F) Xi);have iQ:=aX.le_trans dF (aX.le_trans cT da);have b5:∀i (h:i<3),bK H3 1 ([vb,vc,vd][i]'h) ([b_,c,d][i]'h).length (([b_,c,d][i]'h).map bo)/\([b_,c,d][i]'h).length<=140737488355328:=λi h=>by
  match i,h with
  | 0,_=>exact⟨hb.mono iQ,KK⟩
  | 1,_=>exact⟨KN.mono (aX.le_trans cT da),TH⟩
  | 2,_=>exact⟨nT,by show d.length<=_;omega⟩
 refine zA hS (cells:=[vb,vc,vd]) (by simp[eV,bq,jC hb.one,jC KN.one,jC nT.one]) λtb w hS=>?_;repeat first|refine Gp ?_|refine Gw λw hS=>?_|refine Gb λb w hS=>?_
 refine⟨λvs w=>∃(i:Nat) (H4:aX),vs=[Γ i]/\i<=3/\H3.le H4/\SL W (.pt tb [vb,vc,vd] 34::.mem H4::F) w,
  λvs _=>match vs with|[.int _ i]=>(3-i).toNat|_=>0,⟨0,H3,rfl,by omega,aX.le_refl _,aI hS⟩,?_⟩
 clear hS;rintro _ w ⟨i,H4,bM,hi,jZ,hS⟩;cases bM;repeat first|refine Gp ?_|refine Gw λw hS=>?_|refine Gb λb w hS=>?_
 refine za (λcA=>?_) (λcA=>?_)
 ·have bg:i<3:=by omega
  refine zM bg (zT hS .hd (v:=[vb,vc,vd][i]'bg) (by rw[zz2,wwl];exact zzc (l:=[vb,vc,vd]) bg) ?_);obtain⟨hr,hN⟩:=b5 i bg;generalize ([vb,vc,vd][i]'bg)=x at *
  generalize ([b_,c,d][i]'bg)=bs at *
  have vE:=hr.mono jZ;have fin:∀{w:Ζ} {H5:aX},H3.le H5->SL W (.pt tb [vb,vc,vd] 34::.mem H5::F) w->∃(vs:Nat) (H4:aX),[Γ ((i:Int)+1)]=[Γ vs]/\vs<=3/\H3.le H4/\SL W (.pt tb [vb,vc,vd] 34::.mem H4::F) w:=λhh hS=>⟨i+1,_,by simp,by omega,hh,hS⟩;repeat first|refine Gp ?_|refine Gw λw hS=>?_|refine Gb λb w hS=>?_
  have hS:=aY.full (n:=0) (sz:=1) rfl hS;refine zx (n:=0) (m:=bs.length) hS .hd (sh hS Xh vE) vE.1 rfl (aIm bs) (by omega) (by omega) λv6 w hS=>?_;rw[zz2,zzp]at hS
  refine Cc (zU (.ob (aY v6 5 1 bs.length (bs.map bo))) H4 v6 bs bN.own) ?_;clear hS;rintro r post hq w hS;unfold kD at hq;cases hd:h_ bs with
  | error e=>
   rw[hd]at hq
   obtain⟨he,H5,rI,rfl,rfl⟩:=hq;try simp only[app]at hS
   repeat first|refine Gp ?_|refine Gw λw hS=>?_|refine Gb λb w hS=>?_
   refine Cc (yZ H5 x bs (vE.mono rI) hN) ?_;clear hS;rintro r post hq w hS;unfold nA at hq;rw[hd]at hq
   obtain⟨_,H6,s6,rfl,rfl⟩:=hq;try simp only[app]at hS
   repeat first|refine Gp ?_|refine Gw λw hS=>?_|refine Gb λb w hS=>?_
   refine Χ ?_;refine Cc (yS H6 _ _ [] (D5 H6) (D5 H6) (by decide) (λt h=>by cases h)) ?_;clear hS;(rintro v post ⟨rfl,rfl⟩ w hS;(try simp only[app]at hS);(repeat (first|refine Gp ?_|refine Gw λw hS=>?_|refine Gb λb w hS=>?_)))
   refine zr (λh=>by cases h) (λ_=>?_);refine Cc (zV H6 _ [] (D5 H6) (λ_ h=>by cases h) (by decide)) ?_;clear hS;rintro r post hq w hS;obtain⟨b0,e0⟩:=Sp;obtain⟨v0,rfl,rfl⟩:=sR e0 hq;try simp only[app]at hS
   repeat first|refine Gp ?_|refine Gw λw hS=>?_|refine Gb λb w hS=>?_
   refine za (λh=>absurd h he) (λ_=>?_);repeat first|refine Gp ?_|refine Gw λw hS=>?_|refine Gb λb w hS=>?_
   exact⟨fin (aX.le_trans jZ (aX.le_trans rI s6)) (aI hS),by dsimp only;omega⟩
  | ok L=>
   rw[hd]at hq
   obtain⟨v7,H5,rI,rfl,nO,rfl⟩:=hq;try simp only[app]at hS
   repeat first|refine Gp ?_|refine Gw λw hS=>?_|refine Gb λb w hS=>?_
   refine Cc (yZ H5 x bs (vE.mono rI) hN) ?_;clear hS;rintro r post hq w hS;unfold nA at hq;rw[hd]at hq
   obtain⟨v8,H6,s6,rfl,nP,rfl⟩:=hq;try simp only[app]at hS
   repeat first|refine Gp ?_|refine Gw λw hS=>?_|refine Gb λb w hS=>?_
   refine Χ ?_;obtain⟨eb,hm⟩:=awq hd;have CO:=xt (jM.1 hm).1 (jM.1 hm).2;refine Cc (yS H6 _ _ L (nO.mono s6) nP (by have:=CO.1;omega) (aFc hm)) ?_;clear hS;(rintro v post ⟨rfl,rfl⟩ w hS;(try simp only[app]at hS);(repeat (first|refine Gp ?_|refine Gw λw hS=>?_|refine Gb λb w hS=>?_)))
   refine zr (λh=>by cases h) (λ_=>?_);refine Cc (zV H6 _ L (nO.mono s6) CO.bh CO.1) ?_;clear hS;rintro r post hq w hS;obtain⟨v9,rfl,rfl⟩:=sR eb hq;try simp only[app]at hS
   repeat first|refine Gp ?_|refine Gw λw hS=>?_|refine Gb λb w hS=>?_
   refine Υ ?_;repeat first|refine Gp ?_|refine Gw λw hS=>?_|refine Gb λb w hS=>?_
   refine Χ ?_;refine Cc (Zr (.ob (aY v9 5 1 bs.length (bs.map bo))) (.mem H6) v9 x bs bs bN.own (bN.rd (vE.mono (aX.le_trans rI s6)))) ?_;clear hS;(rintro v post ⟨rfl,rfl⟩ w hS;(try simp only[app]at hS);(repeat (first|refine Gp ?_|refine Gw λw hS=>?_|refine Gb λb w hS=>?_)))
   refine zr (λh=>absurd rfl (yyj h)) (λ_=>?_);repeat first|refine Gp ?_|refine Gw λw hS=>?_|refine Gb λb w hS=>?_
   exact⟨fin (aX.le_trans jZ (aX.le_trans rI s6)) (aI hS),by dsimp only;omega⟩
 refine Cc (zS) ?_;clear hS;(rintro v post ⟨rfl,rfl⟩ w hS;(try simp only[app]at hS);(repeat (first|refine Gp ?_|refine Gw λw hS=>?_|refine Gb λb w hS=>?_)))
 exact⟨_,⟨rfl,H4,[],aX.le_trans iQ jZ,rfl⟩,aI hS⟩
def bdz(bl:Ω)(f:List bz)(l:List bB)(at_ y:Int)(W8:∀x∈bl,mc .u8 x)(s9:bl.length<=140737488351232)(ok:∀s∈l,oY s)(hy:mc .u8 y)(v0 v1 v2:Ε)(w:Ζ)(hb:gE (lT .u8) w gj bl v0)(hf:gE En w gj f v1)(hl:gE sj w gj l v2):
  Calls prog 5 #[v0,v1,v2,Γ at_,.int .u8 y] w λe w'=>e= .returned (.bool true)/\Below w.heap.size w w':=by
 rw[<- Es hy];exact (yO (Zn (aX.of w) v0 (bl.map ou) v1 f v2 l at_ (ou y) (hb.ints.ou W8) (by rw[yyh];omega) (hf.flat aFw (λ_=>rfl)) (eJ.of hl) ok)).calls
