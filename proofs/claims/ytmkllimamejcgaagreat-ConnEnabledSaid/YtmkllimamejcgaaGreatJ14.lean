/- Part of the proof. -/
import Derived.Test.YtmkllimamejcgaaGreatJ13
import Derived.Test.YtmkllimamejcgaaGreatRows
namespace Go.Proofs.YtmkllimamejcgaaGreat
set_option linter.all false
def Tryz.own:ownKnob Tryz.prog.godebug=none:=by kernel_rfl
def Tryz.laidOut:laidOutB Tryz.prog=true:=by kernel_rfl
set_option maxRecDepth 100000
open Go.ChangeShapes Go.WideShapes Go.ChangeAt Go.RowKit
def pM.bw8{α:Type}{T:ml α}{w:Α}{xs:List α}{v:Ω}(h:pM T w o7 xs v)(hT:0<T.n):
  ∃AK:List (Γ),AK.length=xs.length/\iD (bw.of w) T.n v xs.length AK.flatten/\∀i (h:i<xs.length) (h':i<AK.length),T.rd w o7 xs[i] AK[i]:=by
 obtain⟨a,cap,rfl,hc,hx⟩:=h.out;have hex:∀i,∃cs:Γ,cs.length=T.n/\∀h:i<xs.length,T.rd w o7 xs[i] cs/\∃b off,a=some ⟨b,off,none⟩/\At w o7 b (off+i*T.n) cs:=λi=>by
  by_cases hi:i<xs.length
  ·obtain⟨b,off,cs,ha,hr,mh⟩:=hx i hi;exact⟨cs,T.len hr,λ_=>⟨hr,b,off,ha,mh⟩⟩
  exact⟨List.replicate T.n undef,by simp,λh=>absurd h hi⟩
 obtain⟨f,hf⟩:=Classical.axiomOfChoice hex;have hlen:∀x∈(List.range xs.length).map f,x.length=T.n:=λx hx=>by
  obtain⟨i,_,rfl⟩:=zzy.1 hx;exact (hf i).1
 have sq:((List.range xs.length).map f).flatten.length=xs.length*T.n:=by rw[Kq (n:=T.n) _ hlen];simp
 refine⟨(List.range xs.length).map f,by simp,⟨sq,a,cap,rfl,hc,?_⟩,λi hi Ci=>?_⟩
 ·rcases yy8 xs.length with h0|h0
  ·exact .inl h0
  right;obtain⟨_,b,off,rfl,_⟩:=(hf 0).2 h0;refine⟨b,off,rfl,λj u hu=>?_⟩;have hj:=(zzh.1 hu).1;rw[sq]at hj
  have hi:j / T.n<xs.length:=(uun hT).2 hj;obtain⟨_,b',fwq,uM,mh⟩:=(hf (j / T.n)).2 hi;simp at uM;obtain⟨rfl,rfl⟩:=uM;have Cp:j % T.n<(f (j / T.n)).length:=by rw[(hf _).1];exact vvh _ hT
  have hg:=Ho (n:=T.n) ((List.range xs.length).map f) hlen (j / T.n) (j % T.n) (by simpa using hi) ((f (j / T.n))[j % T.n]'Cp) (by simp[zzd Cp]);have KX:j / T.n*T.n+j % T.n=j:=by rw[Nat.mul_comm];exact vv8 j T.n
  rw[KX,hu]at hg
  have Ly:u=(f (j / T.n))[j % T.n]:=xx2 hg;have:=mh.2 (j % T.n) u (by rw[Ly];exact zzd Cp);rw[show off+j / T.n*T.n+j % T.n=off+j by omega]at this
  unfold World.cell? at this;unfold bw.cell bw.of;simp only at this ⊢;split at this
  ·rename_i c t f rj;rw[rj];simpa using this
  cases this
 simpa using ((hf i).2 hi).1
def Ja:ml jB:=(oH (p4 .i64) (oH (p4 .i64) (oH aFh (oH GB En)))).via λo=>(o.table,o.key,o.gone,o.val,())
def gix{w:Α}{M:MS}{o:jB}{cs:Γ}(h:Ja.rd w M o cs):cs=kQ o:=by
 obtain⟨c1,c2,rfl,h1,c3,c4,rfl,h3,c5,c6,rfl,h5,c7,c8,rfl,h7,h8⟩:=h;have B3:c1=[.int .i64 o.table]:=h1;have xY:c3=[.int .i64 o.key]:=h3;have Fl:c5=[.bool o.gone]:=h5;have Fm:c7=[.string o.val]:=h7;have h8':c8=[]:=h8;subst B3 xY Fl Fm h8';rfl
def fwu(c:jB):Prop:=Iq .i64 c.key
def bFf:rZ Tryz.prog 56 Ja fwu:=
 Zj (yY (λo:jB=>(o.table,o.key,o.gone,o.val,())) (λx=>⟨x.1,x.2.1,x.2.2.1,x.2.2.2.1⟩) (λ_=>rfl)
  (yp Tryz.underlying56 (by kernel_rfl) (pd (zA yye (by kernel_rfl)) rfl (pd (zA yyx (by kernel_rfl)) rfl (pd (QB vv1 (by kernel_rfl)) rfl (pd (YF yy1 (by kernel_rfl)) rfl (Hk _ _))))))) (λo h=>h.2.1)
def UL{α:Type}(f:α->Ω):∀l:List α,(l.map λx=>[f x]).flatten=l.map f
 | []=>rfl
 | x::l=>by simp only[zzn,zz4,UL f l];rfl
def pM.ints{k:IntKind}{w:Α}{l:Ξ}{v:Ω}(h:pM (p4 k) w o7 l v):iD (bw.of w) 1 v l.length (l.map (Value.int k)):=by
 have h2:=h.flat (enc:=λx=>[.int k x]) (λh=>h) (λ_=>rfl);rw[UL]at h2
 exact h2
def MY:ml kY:=(oH (p4 .i64) (oH (p4 .i64) En)).via λf=>(f.kind,f.keep,())
def giy{w:Α}{M:MS}{f:kY}{cs:Γ}(h:MY.rd w M f cs):cs=mK f:=by
 obtain⟨c1,c2,rfl,h1,c3,c4,rfl,h3,h4⟩:=h;have B3:c1=[.int .i64 f.kind]:=h1;have xY:c3=[.int .i64 f.keep]:=h3;have h4':c4=[]:=h4;subst B3 xY h4';rfl
def XT(f:kY):Prop:=pD f.kind/\pD f.keep
def cIz:rZ Tryz.prog 33 MY XT:=
 Zj (yY (λf:kY=>(f.kind,f.keep,())) (λx=>⟨x.1,x.2.1⟩) (λ_=>rfl)
  (yp Tryz.underlying33 (by kernel_rfl) (pd (zA yye (by kernel_rfl)) rfl (pd (zA yye (by kernel_rfl)) rfl (Hk _ _)))))
  (λf h=>⟨F6 h.1,F6 h.2.1⟩)
def MX:ml jI:=(oH (p4 .i64) (oH (p4 .i64) (oH (p4 .i64) (oH (p4 .i64) (oH (p4 .i64) (oH (p4 .i64) (oH (p4 .i64) (oH (p4 .i64) (oH (p4 .i64) (oH (p4 .i64) En)))))))))).via λc=>(c.tables,c.late,c.size,c.queue,c.chunk,c.batch,c.base,c.fW,c.wy,c.every,())
def giw{w:Α}{M:MS}{c:jI}{cs:Γ}(h:MX.rd w M c cs):cs=q_ c:=by
 obtain⟨c1,c2,rfl,h1,c3,c4,rfl,h3,c5,c6,rfl,h5,c7,c8,rfl,h7,c9,c10,rfl,h9,J1,EX,rfl,Dv,c13,c14,rfl,Hs,c15,c16,rfl,h15,c17,c18,rfl,h17,c19,c20,rfl,h19,h20⟩:=h;have B3:c1=[.int .i64 c.tables]:=h1;have xY:c3=[.int .i64 c.late]:=h3;have Fl:c5=[.int .i64 c.size]:=h5;have Fm:c7=[.int .i64 c.queue]:=h7;have KA:c9=[.int .i64 c.chunk]:=h9;have Kx:J1=[.int .i64 c.batch]:=Dv;have c_0:c13=[.int .i64 c.base]:=Hs;have c_2:c15=[.int .i64 c.fW]:=h15;have c_4:c17=[.int .i64 c.wy]:=h17;have c_6:c19=[.int .i64 c.every]:=h19;have c_8:c20=[]:=h20;subst B3 xY Fl Fm KA Kx c_0 c_2 c_4 c_6 c_8;rfl
def fwt(c:jI):Prop:=True
def ien:rZ Tryz.prog 23 MX fwt:=
 Zj (yY (λc:jI=>(c.tables,c.late,c.size,c.queue,c.chunk,c.batch,c.base,c.fW,c.wy,c.every,())) (λx=>⟨x.1,x.2.1,x.2.2.1,x.2.2.2.1,x.2.2.2.2.1,x.2.2.2.2.2.1,x.2.2.2.2.2.2.1,x.2.2.2.2.2.2.2.1,x.2.2.2.2.2.2.2.2.1,x.2.2.2.2.2.2.2.2.2.1⟩) (λ_=>rfl)
  (yp Tryz.underlying23 (by kernel_rfl) (pd (zA yye (by kernel_rfl)) rfl (pd (zA yye (by kernel_rfl)) rfl (pd (zA yye (by kernel_rfl)) rfl (pd (zA yye (by kernel_rfl)) rfl (pd (zA yye (by kernel_rfl)) rfl (pd (zA yye (by kernel_rfl)) rfl
   (pd (zA yyx (by kernel_rfl)) rfl (pd (zA yyx (by kernel_rfl)) rfl (pd (zA yyx (by kernel_rfl)) rfl (pd (zA yyx (by kernel_rfl)) rfl (Hk _ _)))))))))))))
  (λc h=>trivial)
def gio{w:Α}{l:Θ}{v:Ω}(h:pM GB w o7 l v):iD (bw.of w) 1 v l.length (l.map Value.string):=by
 have:=h.flat (enc:=λs=>[.string s]) (λh=>h) (λ_=>rfl);rw[XW]at this
 exact this
def Jc:ml lZ:=(oH (p4 .i64) (oH (p4 .i64) (oH (Jb GB) (oH (Jb Ja) (oH MY (oH (Jb (p4 .i64)) En)))))).via λo=>(o.kind,o.n,o.sg,o.l,o.ft,o.keep,())
def giz{w:Α}{o:lZ}{cs:Γ}(h:Jc.rd w o7 o cs):∃x:sN,cs=oy x/\pq (bw.of w) x o:=by
 obtain⟨c1,c2,rfl,h1,c3,c4,rfl,h3,c5,c6,rfl,h5,c7,c8,rfl,h7,c9,c10,rfl,h9,J1,EX,rfl,Dv,iW⟩:=h;have B3:c1=[.int .i64 o.kind]:=h1;have xY:c3=[.int .i64 o.n]:=h3;obtain⟨sv,Fl,DV⟩:∃v,c5=[v]/\pM GB w o7 o.sg v:=h5;obtain⟨cv,Fm,wk⟩:∃v,c7=[v]/\pM Ja w o7 o.l v:=h7;have KA:=giy h9;obtain⟨kv,Kx,K_⟩:∃v,J1=[v]/\pM (p4 .i64) w o7 o.keep v:=Dv;have c_z:EX=[]:=iW;subst B3 xY Fl Fm KA Kx c_z;exact⟨⟨o.kind,o.n,sv,cv,o.ft,kv⟩,rfl,rfl,rfl,rfl,gio DV,wk.flat gix (λ_=>rfl),K_.ints⟩
def GS.of{w:Α}{l:List lZ}{v:Ω}(h:pM Jc w o7 l v):GS (bw.of w) v l:=by
 obtain⟨AK,h1,h2,h3⟩:=pM.bw8 h (by decide);have hex:∀i,∃x:sN,∀(h:i<l.length) (h':i<AK.length),AK[i]=oy x/\pq (bw.of w) x l[i]:=λi=>by
  by_cases hi:i<l.length
  ·obtain⟨x,e,hx⟩:=giz (h3 i hi (by omega));exact⟨x,λ_ _=>⟨e,hx⟩⟩
  exact⟨⟨0,0,.slice none 0 0,.slice none 0 0,⟨0,0⟩,.slice none 0 0⟩,λh=>absurd h hi⟩
 obtain⟨f,hf⟩:=Classical.axiomOfChoice hex;refine⟨(List.range l.length).map f,by simp,?_,λi hi Ci=>by simpa using (hf i hi (by omega)).2⟩;have e:AK=((List.range l.length).map f).map oy:=xxp (by simp[h1]) λi g1 g2=>by simpa using (hf i (by omega) g1).1
 rw[e]at h2
 exact h2
structure Mj(s:lZ):Prop where
 kind:pD s.kind
 n:pD s.n
 sg:s.sg.length<=140737488351232
 l:s.l.length<=140737488351232
 ch:∀c∈s.l,pD c.key
 ft:XT s.ft
 keep:s.keep.length<=140737488351232
def ig4:rZ Tryz.prog 36 Jc Mj:=
 Zj (yY (λo:lZ=>(o.kind,o.n,o.sg,o.l,o.ft,o.keep,())) (λx=>⟨x.1,x.2.1,x.2.2.1,x.2.2.2.1,x.2.2.2.2.1,x.2.2.2.2.2.1⟩) (λ_=>rfl)
  (yp Tryz.underlying36 (by kernel_rfl) (pd (zA yye (by kernel_rfl)) rfl (pd (zA yyx (by kernel_rfl)) rfl
   (pd (Mq (b:=16) (YF yy1 (by kernel_rfl)) Tryz.underlying30 (by kernel_rfl) (by kernel_rfl) (by decide)) rfl
    (pd (Mq (b:=40) bFf Tryz.underlying31 (by kernel_rfl) (by kernel_rfl) (by decide)) rfl
     (pd cIz rfl (pd (Mq (b:=8) (zA yye (by kernel_rfl)) Tryz.underlying34 (by kernel_rfl) (by kernel_rfl) (by decide)) rfl (Hk _ _)))))))))
  (λo h=>by
   have h3:=h.2.2.1;have h4:=h.2.2.2.1;have h6:=h.2.2.2.2.2.1;exact⟨F6 h.1,F6 h.2.1,by have:=h3.1;simp only at this;omega,by have:=h4.1;simp only at this;omega,λc hc=>F6 (h4.2 c hc),h.2.2.2.2.1,by have:=h6.1;simp only at this;omega⟩)
def LS(c:jI):jD:=⟨1+md c.queue 5,1+md c.batch 4,1+(md c.base 4:Int),1+(md c.base 4:Int)+(md c.fW 12:Int),(md c.wy 4:Int)⟩
def bw3(c:jI):CC (EY c) (LS c) (1+md c.tables 4):=by
 have h1:=mj c.tables 4 (by decide);have h2:=mj c.size 4 (by decide);have h3:=mj c.chunk 4 (by decide);have h4:=mj c.queue 5 (by decide);have h5:=mj c.batch 4 (by decide);have h6:=mj c.base 4 (by decide);have h7:=mj c.fW 12 (by decide);have h8:=mj c.wy 4 (by decide);have h9:=mj c.every 8 (by decide);have hp:0<2 ^ (1+md c.tables 4):=Nat.pow_pos (by decide);have AW:=mj c.late (2 ^ (1+md c.tables 4)) hp;have hs:=bFb h2;refine⟨by omega,by omega,by show (1:Int)+(md c.tables 4:Int)=((1+md c.tables 4:Nat):Int);omega,by show (0:Int)<=(md c.late (2 ^ (1+md c.tables 4)):Int);omega,?_,hs.1,by show xQ (md c.size 4)<=_;omega,by show 1+(md c.queue 5:Int)=((1+md c.queue 5:Nat):Int);omega,by show 1<=1+md c.queue 5;omega,by show 1+md c.queue 5<=64;omega,by show (1:Int)<=1+(md c.chunk 4:Int);omega,by show 1+(md c.chunk 4:Int)<=64;omega,by show 1+(md c.batch 4:Int)=((1+md c.batch 4:Nat):Int);omega,by show 1<=1+md c.batch 4;omega,by show 1+md c.batch 4<=64;omega,rfl,rfl,rfl,?_,by show (1:Int)<=1+(md c.every 8:Int);omega,by show 1+(md c.every 8:Int)<=1073741824;omega⟩
 ·show (md c.late (2 ^ (1+md c.tables 4)):Int)<2 ^ (1+md c.tables 4);have:((2 ^ (1+md c.tables 4):Nat):Int)=(2:Int) ^ (1+md c.tables 4):=by simp
  omega
 unfold u_ LS;dsimp only;omega
abbrev BK(cf:jI):Γ:=[.int .i64 cf.tables,.int .i64 cf.late,.int .i64 cf.size,.int .i64 cf.queue,.int .i64 cf.chunk,.int .i64 cf.batch,.int .i64 cf.base,.int .i64 cf.fW,.int .i64 cf.wy,.int .i64 cf.every]
section
variable {cf:jI} {kc:jD} {n j:Nat} {AL:List fF} {c:dF}
def T3(h:CS cf kc n j AL c)(hj:j<=190)(p:nz)(H:bw):SP 10 [fw p.np] [.ob (fI p cf kc H c),.mem H] (GL p cf kc H c (agg (BS (c.look kc)))):=by
 obtain⟨xs,hb⟩:=h.tf;have hv:=CR j;exact qZ p cf kc H c hb.sg (by omega) hb.wt.room (by have:=hb.mx.dI.len;omega)
def bIb(h:CS cf kc n j AL c)(hj:j<=190)(p:nz)(H:bw)(comp:Int):SP 11 [fw p.np,.int .i64 comp] [.ob (fI p cf kc H c),.mem H] (GL p cf kc H c (.bool (c.en kc comp))):=by
 obtain⟨xs,hb⟩:=h.tf;have hv:=CR j;exact qa p cf kc H c comp hb.q (by have:=hb.mx.may.1;omega) hb.sg (by omega) hb.wt.room
end
def Qo(comp l6:Int)(h:AR comp l6):SP 13 [.int .i64 comp,.int .i64 l6] [] (e_ (.bool true) []):=by
 refine Enzz λW F w hS=>?_;apply gF3;delta NZ aI ai;unfold AR at h;rcases h with ⟨rfl,rfl⟩|⟨rfl,rfl⟩|⟨rfl,rfl|rfl|rfl⟩|⟨rfl,rfl|rfl⟩|⟨rfl,rfl|rfl⟩
 all_goals
  repeat (first
   | exact⟨_,⟨rfl,rfl⟩,hS⟩
   | (refine za (λh=>?_) (λh=>?_)<;>first|exact absurd h (by decide)|exact absurd rfl h|skip)
   | refine Gp ?_)
def aFb{H:bw}{y:sN}{t:lZ}(hy:pq H y t):∀u∈oy y,u.oneCell'=true:=by
 intro u hu;simp only[oy,zz7,xxj,vvv]at hu;rcases hu with rfl|rfl|rfl|rfl|rfl|rfl|rfl
 ·rfl
 ·rfl
 ·exact hy.sv.one
 ·exact hy.cv.one
 ·rfl
 ·rfl
 exact hy.kv.one
def Zr(H:bw)(c:jI)(v:Ω)(l:List lZ)(hv:GS H v l)(eW:∀s∈l,Mj s):
  SP 3 [agg (q_ c),v] [.mem H] (λv post=>v= .bool true/\∃H' l,H.le H'/\post= .mem H'::l):=by
 refine Enzz λW F w hS=>?_;apply vc3;delta Rs aI a_ gi cW ai h_ bI;obtain⟨xs,oC,Wn,LF⟩:=hv;refine zw hS λcb w hS=>?_;refine zC hS Xh rfl ?_;refine Cc (qe c) ?_;clear hS;rintro _ post ⟨rfl,rfl⟩ w hS;try simp only[app]at hS
 refine zr hS Xu rfl rfl (b_v _) λw hS=>?_;refine zC hS Xh rfl ?_;have hc:=bw3 c;generalize EY c=cf at *
 generalize LS c=kc at *
 have h4:=mj c.tables 4 (by decide);generalize hn:1+md c.tables 4=n at *
 refine Cc (Yr H hc) ?_;clear hS;rintro _ post ⟨p,H1,iA,rfl,rfl⟩ w hS;(try simp only[app]at hS);refine Gp ?_
 refine za (λh=>absurd rfl h) (λ_=>?_);refine Gp ?_;refine zp ?_;have KU:=hc.tables;have su:=hc.n1;have FJ:=hc.n8;have Vo:CS cf kc n 0 [] (Df cf n):=.inl (jU.first (kc:=kc) hc).2.2;generalize Df cf n=c0 at *
 have hS:SL W (.ob (fI p cf kc H1 c0)::.pt cb (BK cf) 23::.mem H1::F) w:=SL.cR hS (t:=.ob (fI p cf kc H1 c0)::.pt cb (q_ cf) 23::.mem H1::F) Xi;refine⟨λus w=>∃(i:Nat) (H2:bw) (q:nz) (cc:dF) (AL:List fF),us=[.int .i64 i]/\i<=90/\i<=l.length/\H.le H2/\q.np=p.np/\CS cf kc n i AL cc/\SL W (.ob (fI q cf kc H2 cc)::.pt cb (BK cf) 23::.mem H2::F) w,
  λus _=>match us with|[.int _ i]=>(l.length-i).toNat|_=>0,⟨0,H1,p,c0,[],rfl,by omega,by omega,iA,rfl,Vo,hS⟩,?_⟩
 clear hS Vo iA;rintro v6 w ⟨i,H2,q,cc,AL,gW,hi,d_,kG,hq,nP,hS⟩;cases gW;try simp only[app]at hS
 have lU:∀{w:Α},SL W (.mem H2::F) w->aF 14 [] w λv w=>∃post,(v= .bool true/\∃H' l,H.le H'/\post= .mem H'::l)/\SL W (app post F) w:=λhS=>by
  refine Cc (YP) ?_;clear hS;rintro _ post ⟨rfl,rfl⟩ w hS;try simp only[app]at hS
  exact⟨_,⟨rfl,H2,[],kG,rfl⟩,aW hS⟩
 refine zo Wn ?_;refine Gp ?_;refine za (λha=>?_) (λha=>lU (aW hS));refine Gp ?_;refine za (λhb=>?_) (λhb=>lU (aW hS));clear lU;have HY:i<l.length:=by omega
 have rl:i<xs.length:=by omega
 have hx:=(LF i HY rl).mono kG;have hs:=eW l[i] (zzg HY);have F4:xs[i]?=some xs[i]:=zzd rl;generalize hX:xs[i]=x at *
 generalize l[i]=s at *
 refine⟨λus w=>∃(sb:Nat) (H3:bw) (y:sN) (t:lZ),us=[.pointer (some ⟨sb,0,none⟩)]/\H2.le H3/\pq H3 y t/\Jt t/\SL W (.pt sb (oy y) 36::.ob (fI q cf kc H3 cc)::.pt cb (BK cf) 23::.mem H3::F) w,?_,?_⟩
 ·refine Gw λw hS=>?_;refine Yb (Wn.mono kG) HY λeb eo hbc=>?_;have sj:∀(i:Nat) (u:Ω),(oy x)[i]?=some u->H2.cell eb (eo+i)=some u:=λi u hu=>hbc i u (by have:=(zzh.1 hu).1;rw[Dm]at this;exact this) (uJ Dm xs _ i x u F4 hu);refine QN hS Xh (Dm x) sj ?_;refine Gp ?_;rw[KU];refine⟨?_,?_⟩
  ·refine Cc (Z4 H2 x s n hx su FJ hs.sg hs.l hs.keep) ?_;clear hS;rintro _ post ⟨H3,y,t,kT,rfl,hy,ht,rfl⟩ w hS;try simp only[app]at hS
   have Ll:=aFb hy;refine Gm λsb w hS=>?_;refine zr (vs:=oy y) hS Xu (Dm y) rfl Ll λw hS=>?_;have hS:=fI.nZ kT hS Xr;exact⟨sb,H3,y,t,rfl,kT,hy,ht,aW hS⟩
  refine Gm λsb w hS=>?_;refine QN hS Xh (Dm x) sj (YZ ?_);refine Gp ?_;refine⟨by rw[KU],?_⟩;refine Cc (Z4 H2 x s n hx su FJ hs.sg hs.l hs.keep) ?_;clear hS;rintro _ post ⟨H3,y,t,kT,rfl,hy,ht,rfl⟩ w hS;try simp only[app]at hS
  have Ll:=aFb hy;refine zr (vs:=oy y) hS Xu (Dm y) rfl Ll λw hS=>?_;have hS:=fI.nZ kT hS Xr;exact⟨sb,H3,y,t,rfl,kT,hy,ht,aW hS⟩
 clear hS hX hx hs F4 x s rl;rintro _ w ⟨sb,H3,y,t,gW,kT,hy,ht,hS⟩;cases gW;have tT:=bw.le_trans kG kT;rw[<- hq];refine Cc (T3 nP (by omega) q H3) ?_;clear hS;rintro _ post ⟨rfl,H4,w_,rfl⟩ w hS;try simp only[app]at hS
 refine Gm λlb w hS=>?_;unfold oy at hS;rw[hy.kind,hy.n,hy.ft]at hS
 refine⟨λus w=>∃(e:Bool) (H5:bw),us=[.bool e]/\(t.kind=2->e=cc.en kc t.n)/\H4.le H5/\SL W (.ob (fI q cf kc H5 cc)::.mem H5::.pt lb (BS (cc.look kc)) 39::.pt sb [.int .i64 t.kind,.int .i64 t.n,y.sv,y.cv,.int .i64 t.ft.kind,.int .i64 t.ft.keep,y.kv] 36::.pt cb (BK cf) 23::F) w,?_,?_⟩
 ·refine cF (λh2=>?_) (λh2=>?_)
  ·refine Gp ?_;refine Cc (bIb nP (by omega) q H4 t.n) ?_;clear hS;rintro _ post ⟨rfl,H5,Hv,rfl⟩ w hS;try simp only[app]at hS
   exact⟨_,H5,rfl,λ_=>rfl,Hv,aW hS⟩
  exact⟨false,H4,rfl,λh=>absurd h h2,bw.le_refl H4,aW hS⟩
 clear hS;rintro _ w ⟨e,H5,gW,he,Hv,hS⟩;cases gW;have Ht:=bw.le_trans w_ Hv;have hy5:pq H5 ⟨t.kind,t.n,y.sv,y.cv,t.ft,y.kv⟩ t:=⟨rfl,rfl,rfl,hy.sv.mono Ht,hy.cv.mono Ht,hy.kv.mono Ht⟩;refine Gp ?_;refine Cc (yt q cf kc H5 cc nP hc (by omega) ⟨t.kind,t.n,y.sv,y.cv,t.ft,y.kv⟩ t hy5 (by have:=ht.l;omega) (by have:=ht.keep;omega)) ?_;clear hS;rintro _ post ⟨rfl,q2,H6,U0,oB,rfl⟩ w hS;try simp only[app]at hS
 obtain⟨Nl,KT,_⟩:=nP.lT hc (by omega) t;have f1:=bRy (cf:=cf) (kc:=kc) (c:=cc) t;have f2:=bRz (cf:=cf) (kc:=kc) (c:=cc) t;have f3:cc.s.k.d.off=false->t.kind=2->(cc.en kc t.n=false/\cc.lT cf kc t=(cc,⟨0,0,0⟩))\/(cc.en kc t.n=true/\((∃l6,(cc.lT cf kc t).2=⟨0,0,l6⟩/\AR t.n l6)\/(cc.lT cf kc t).2=⟨8,0,0⟩)):=λho hk=>by
  rw[bR0 t ho hk];exact (nP.on ho).fFo hc (by omega) ht.n.1 (ht.pick hk)
 have h06:=bw.le_trans tT (bw.le_trans Ht U0);generalize cc.lT cf kc t=r at *
 obtain⟨c2,⟨te,tl,td⟩⟩:=r;dsimp only at hS KT f1 f2 f3 ⊢;have sV:∀(w:Α) (H7:bw),H6.le H7->SL W (.ob (fI q2 cf kc H7 c2)::.pt cb (BK cf) 23::.mem H7::F) w->∃(i':Nat) (H2:bw) (q':nz) (cc:dF) (AL:List fF),[Value.int .i64 ((i:Int)+1)]=[.int .i64 i']/\i'<=90/\i'<=l.length/\H.le H2/\q'.np=q.np/\CS cf kc n i' AL cc/\SL W (.ob (fI q' cf kc H2 cc)::.pt cb (BK cf) 23::.mem H2::F) w:=λw H7 B5 hS=>⟨i+1,H7,q2,c2,Nl,rfl,by omega,by omega,bw.le_trans h06 B5,oB,KT,hS⟩;refine Gm λtb w hS=>?_;refine za (λk2=>?_) (λk2=>?_)
 ·have g1:=f1 k2;subst g1;refine Gp ?_;refine za (λh=>absurd rfl h) (λ_=>?_);refine Gp ?_;refine yF (λho=>?_) (λho=>?_)
  ·refine cF (λk8=>?_) (λk8=>?_)
   ·have g2:=f2 ho k8;cases g2;refine Gp ?_;refine za (λh=>absurd rfl h) (λ_=>?_);refine Gp ?_;exact⟨sV w H6 (bw.le_refl _) (aW hS),by dsimp only;omega⟩
   refine Gp ?_;exact⟨sV w H6 (bw.le_refl _) (aW hS),by dsimp only;omega⟩
  refine Gp ?_;exact⟨sV w H6 (bw.le_refl _) (aW hS),by dsimp only;omega⟩
 have k2:t.kind=2:=by omega
 have he:=he k2;subst he;refine Gp ?_;refine yF (λho=>?_) (λho=>?_)
 ·have g2:=f2 ho (by omega);cases g2;refine Gp ?_;refine za (λh=>absurd rfl h) (λ_=>?_);refine Gp ?_;refine yF (λ_=>?_) (λh=>absurd (show cc.s.k.d.off=false from h) (by rw[show cc.s.k.d.off=true from ho];decide));refine Gp ?_;refine za (λ_=>?_) (λh=>absurd (by omega) h);refine Gp ?_;refine za (λh=>absurd rfl h) (λ_=>?_);refine Gp ?_;exact⟨sV w H6 (bw.le_refl _) (aW hS),by dsimp only;omega⟩
 have g3:=f3 ho k2;have KW:∀{l6:Int},AR t.n l6->l6≠0:=λh=>by unfold AR at h;omega
 refine⟨λus w=>∃H7,us=[.bool false]/\H6.le H7/\SL W (.ob (fI q2 cf kc H7 c2)::.mem H7::.pt tb (AO ⟨te,tl,td⟩) 43::.pt lb (BS (cc.look kc)) 39::.pt sb [.int .i64 t.kind,.int .i64 t.n,y.sv,y.cv,.int .i64 t.ft.kind,.int .i64 t.ft.keep,y.kv] 36::.pt cb (BK cf) 23::F) w,?_,?_⟩
 ·rcases g3 with ⟨g4,g5⟩|⟨g4,⟨l6,g5,g6⟩|g5⟩
  ·cases g5;rw[g4];refine Gn λw hS=>?_;refine za (λh=>absurd rfl h) (λ_=>?_);refine Gp ?_;refine za (λh=>absurd (by decide) h) (λ_=>?_);refine Gp ?_;refine za (λh=>absurd rfl h) (λ_=>?_);refine Gp ?_;refine zq ?_;refine Gp ?_;rw[<- oB];refine Cc (T3 KT (by omega) q2 H6) ?_;clear hS;rintro _ post ⟨rfl,H7,B5,rfl⟩ w hS;(try simp only[app]at hS);refine Gp ?_
   refine fWc (cwb _ _ w) ?_;rw[zzm rfl];exact⟨H7,rfl,B5,aW hS⟩
  ·cases g5;rw[g4];have g7:=KW g6;refine Gn λw hS=>?_;refine za (λ_=>?_) (λh=>absurd g7 h);refine Gp ?_;refine za (λh=>absurd rfl h) (λ_=>?_);refine Gp ?_;refine za (λh=>absurd rfl h) (λ_=>?_);refine Gp ?_;refine zp ?_;exact⟨H6,rfl,bw.le_refl _,aW hS⟩
  cases g5;rw[g4];refine Gn λw hS=>?_;refine za (λh=>absurd rfl h) (λ_=>?_);refine Gp ?_;refine za (λh=>absurd (by decide) h) (λ_=>?_);refine Gp ?_;refine za (λ_=>?_) (λh=>absurd (by decide) h);refine Gp ?_;refine za (λh=>absurd rfl h) (λ_=>?_);refine Gp ?_;refine zp ?_;exact⟨H6,rfl,bw.le_refl _,aW hS⟩
 clear hS;rintro _ w ⟨H7,gW,B5,hS⟩;cases gW;refine cF (λh=>?_) (λh=>?_)
 ·have g6:AR t.n td:=by
   rcases g3 with ⟨_,g5⟩|⟨_,⟨l6,g5,g6⟩|g5⟩
   ·cases g5;exact absurd rfl h
   ·cases g5;exact g6
   cases g5;exact absurd rfl h
  refine Gp ?_;refine Cg (Qo t.n td g6) λw hS=>?_;refine zp ?_;refine Gp ?_;exact⟨sV w H7 B5 (aW hS),by dsimp only;omega⟩
 refine Gp ?_;exact⟨sV w H7 B5 (aW hS),by dsimp only;omega⟩
def ieo(c:jI)(l:List lZ)(ok:∀s∈l,Mj s)(cs:Array Ω)(v:Ω)(w:Α)(hc:MX.rd w o7 c cs.toList)(hl:pM Jc w o7 l v):
  Calls Tryz.prog 3 #[.agg cs,v] w λe w'=>e= .returned (.bool true)/\Below w.heap.size w w':=by
 obtain rfl:cs=(q_ c).toArray:=by rw[<- giw hc]
 exact (qv (Zr (bw.of w) c v l (GS.of hl) ok)).calls
