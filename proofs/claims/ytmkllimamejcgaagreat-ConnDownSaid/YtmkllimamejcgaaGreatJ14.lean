/- Part. -/
import Derived.Test.YtmkllimamejcgaaGreatJ13
import Derived.Test.YtmkllimamejcgaaGreatRows
namespace Go.Proofs.YtmkllimamejcgaaGreat
set_option linter.all false
def Tryz.own:ownKnob Tryz.prog.godebug=none:=by kernel_rfl
def Tryz.laidOut:laidOutB Tryz.prog=true:=by kernel_rfl
set_option maxRecDepth 100000
open Go.ChangeShapes Go.WideShapes Go.ChangeAt Go.RowKit
def kX.aWd{α:Type}{T:iw α}{w:Ζ}{xs:List α}{v:Ε}(h:kX T w km xs v)(hT:0<T.n):
  ∃vl:List Ξ,vl.length=xs.length/\dq (bw.of w) T.n v xs.length vl.flatten/\∀i (h:i<xs.length) (h':i<vl.length),T.rd w km xs[i] vl[i]:=by
 obtain⟨a,cap,rfl,hc,hx⟩:=h.out;have hex:∀i,∃cs:Ξ,cs.length=T.n/\∀h:i<xs.length,T.rd w km xs[i] cs/\∃b off,a=some ⟨b,off,none⟩/\At w km b (off+i*T.n) cs:=λi=>by
  by_cases hi:i<xs.length
  ·obtain⟨b,off,cs,ha,hr,il⟩:=hx i hi;exact⟨cs,T.len hr,λ_=>⟨hr,b,off,ha,il⟩⟩
  exact⟨List.replicate T.n undef,by simp,λh=>absurd h hi⟩
 obtain⟨f,hf⟩:=Classical.axiomOfChoice hex;have hlen:∀x∈(List.range xs.length).map f,x.length=T.n:=λx hx=>by
  obtain⟨i,_,rfl⟩:=zzx.1 hx;exact (hf i).1
 have na:((List.range xs.length).map f).flatten.length=xs.length*T.n:=by rw[Ij (n:=T.n) _ hlen];simp
 refine⟨(List.range xs.length).map f,by simp,⟨na,a,cap,rfl,hc,?_⟩,λi hi xy=>?_⟩
 ·rcases yyu xs.length with h0|h0
  ·exact .inl h0
  right;obtain⟨_,b,off,rfl,_⟩:=(hf 0).2 h0;refine⟨b,off,rfl,λj u hu=>?_⟩;have hj:=(zzf.1 hu).1;rw[na]at hj
  have hi:j / T.n<xs.length:=(uup hT).2 hj;obtain⟨_,b',cne,pS,il⟩:=(hf (j / T.n)).2 hi;simp at pS;obtain⟨rfl,rfl⟩:=pS;have xE:j % T.n<(f (j / T.n)).length:=by rw[(hf _).1];exact vvg _ hT
  have hg:=EV (n:=T.n) ((List.range xs.length).map f) hlen (j / T.n) (j % T.n) (by simpa using hi) ((f (j / T.n))[j % T.n]'xE) (by simp[zzc xE]);have IL:j / T.n*T.n+j % T.n=j:=by rw[Nat.mul_comm];exact uub j T.n
  rw[IL,hu]at hg
  have Jo:u=(f (j / T.n))[j % T.n]:=wwc hg;have:=il.2 (j % T.n) u (by rw[Jo];exact zzc xE);rw[show off+j / T.n*T.n+j % T.n=off+j by omega]at this
  unfold World.cell? at this;unfold bw.cell bw.of;simp only at this ⊢;split at this
  ·rename_i c t f mc;rw[mc];simpa using this
  cases this
 simpa using ((hf i).2 hi).1
def GG:iw ep:=(kh (lB .i64) (kh (lB .i64) (kh Xv (kh DX BQ)))).via λo=>(o.table,o.key,o.gone,o.val,())
def cCp{w:Ζ}{M:MS}{o:ep}{cs:Ξ}(h:GG.rd w M o cs):cs=fR o:=by
 obtain⟨c1,c2,rfl,h1,c3,c4,rfl,h3,c5,c6,rfl,h5,c7,c8,rfl,h7,h8⟩:=h;have xd:c1=[Γ o.table]:=h1;have uu:c3=[Γ o.key]:=h3;have CO:c5=[.bool o.gone]:=h5;have CP:c7=[.string o.val]:=h7;have h8':c8=[]:=h8;subst xd uu CO CP h8';rfl
def cnk(c:ep):Prop:=FV .i64 c.key
def aWk:mS Tryz.prog 56 GG cnk:=
 Zk (y0 (λo:ep=>(o.table,o.key,o.gone,o.val,())) (λx=>⟨x.1,x.2.1,x.2.2.1,x.2.2.2.1⟩) (λ_=>rfl)
  (yq Tryz.underlying56 (by kernel_rfl) (kP (ni yyc (by kernel_rfl)) rfl (kP (ni yy4 (by kernel_rfl)) rfl (kP (QI vv4 (by kernel_rfl)) rfl (kP (YJ yy5 (by kernel_rfl)) rfl (ER _ _))))))) (λo h=>h.2.1)
def SU{α:Type}(f:α->Ε):∀l:List α,(l.map λx=>[f x]).flatten=l.map f
 | []=>rfl
 | x::l=>by simp only[zzo,zz8,SU f l];rfl
def kX.ints{k:IntKind}{w:Ζ}{l:Ω}{v:Ε}(h:kX (lB k) w km l v):dq (bw.of w) 1 v l.length (l.map (Value.int k)):=by
 have h2:=h.flat (enc:=λx=>[.int k x]) (λh=>h) (λ_=>rfl);rw[SU]at h2
 exact h2
def KQ:iw fT:=(kh (lB .i64) (kh (lB .i64) BQ)).via λf=>(f.kind,f.keep,())
def cCq{w:Ζ}{M:MS}{f:fT}{cs:Ξ}(h:KQ.rd w M f cs):cs=iO f:=by
 obtain⟨c1,c2,rfl,h1,c3,c4,rfl,h3,h4⟩:=h;have xd:c1=[Γ f.kind]:=h1;have uu:c3=[Γ f.keep]:=h3;have h4':c4=[]:=h4;subst xd uu h4';rfl
def V0(f:fT):Prop:=lr f.kind/\lr f.keep
def bIv:mS Tryz.prog 33 KQ V0:=
 Zk (y0 (λf:fT=>(f.kind,f.keep,())) (λx=>⟨x.1,x.2.1⟩) (λ_=>rfl)
  (yq Tryz.underlying33 (by kernel_rfl) (kP (ni yyc (by kernel_rfl)) rfl (kP (ni yyc (by kernel_rfl)) rfl (ER _ _)))))
  (λf h=>⟨Dw h.1,Dw h.2.1⟩)
def KP:iw dF:=(kh (lB .i64) (kh (lB .i64) (kh (lB .i64) (kh (lB .i64) (kh (lB .i64) (kh (lB .i64) (kh (lB .i64) (kh (lB .i64) (kh (lB .i64) (kh (lB .i64) BQ)))))))))).via λc=>(c.tables,c.late,c.size,c.queue,c.chunk,c.batch,c.base,c.cJ,c.sI,c.every,())
def cCo{w:Ζ}{M:MS}{c:dF}{cs:Ξ}(h:KP.rd w M c cs):cs=l8 c:=by
 obtain⟨c1,c2,rfl,h1,c3,c4,rfl,h3,c5,c6,rfl,h5,c7,c8,rfl,h7,c9,c10,rfl,h9,HG,Co,rfl,AS,c13,c14,rfl,E4,c15,c16,rfl,h15,c17,c18,rfl,h17,c19,c20,rfl,h19,h20⟩:=h;have xd:c1=[Γ c.tables]:=h1;have uu:c3=[Γ c.late]:=h3;have CO:c5=[Γ c.size]:=h5;have CP:c7=[Γ c.queue]:=h7;have It:c9=[Γ c.chunk]:=h9;have Ir:HG=[Γ c.batch]:=AS;have bRm:c13=[Γ c.base]:=E4;have bRo:c15=[Γ c.cJ]:=h15;have bRq:c17=[Γ c.sI]:=h17;have bRs:c19=[Γ c.every]:=h19;have bRu:c20=[]:=h20;subst xd uu CO CP It Ir bRm bRo bRq bRs bRu;rfl
def cnj(c:dF):Prop:=True
def cNt:mS Tryz.prog 23 KP cnj:=
 Zk (y0 (λc:dF=>(c.tables,c.late,c.size,c.queue,c.chunk,c.batch,c.base,c.cJ,c.sI,c.every,())) (λx=>⟨x.1,x.2.1,x.2.2.1,x.2.2.2.1,x.2.2.2.2.1,x.2.2.2.2.2.1,x.2.2.2.2.2.2.1,x.2.2.2.2.2.2.2.1,x.2.2.2.2.2.2.2.2.1,x.2.2.2.2.2.2.2.2.2.1⟩) (λ_=>rfl)
  (yq Tryz.underlying23 (by kernel_rfl) (kP (ni yyc (by kernel_rfl)) rfl (kP (ni yyc (by kernel_rfl)) rfl (kP (ni yyc (by kernel_rfl)) rfl (kP (ni yyc (by kernel_rfl)) rfl (kP (ni yyc (by kernel_rfl)) rfl (kP (ni yyc (by kernel_rfl)) rfl
   (kP (ni yy4 (by kernel_rfl)) rfl (kP (ni yy4 (by kernel_rfl)) rfl (kP (ni yy4 (by kernel_rfl)) rfl (kP (ni yy4 (by kernel_rfl)) rfl (ER _ _)))))))))))))
  (λc h=>trivial)
def cCg{w:Ζ}{l:Ψ}{v:Ε}(h:kX DX w km l v):dq (bw.of w) 1 v l.length (l.map Value.string):=by
 have:=h.flat (enc:=λs=>[.string s]) (λh=>h) (λ_=>rfl);rw[V3]at this
 exact this
def GI:iw gB:=(kh (lB .i64) (kh (lB .i64) (kh (GH DX) (kh (GH GG) (kh KQ (kh (GH (lB .i64)) BQ)))))).via λo=>(o.kind,o.n,o.sg,o.l,o.ft,o.keep,())
def cCr{w:Ζ}{o:gB}{cs:Ξ}(h:GI.rd w km o cs):∃x:oa,cs=jX x/\kL (bw.of w) x o:=by
 obtain⟨c1,c2,rfl,h1,c3,c4,rfl,h3,c5,c6,rfl,h5,c7,c8,rfl,h7,c9,c10,rfl,h9,HG,Co,rfl,AS,dU⟩:=h;have xd:c1=[Γ o.kind]:=h1;have uu:c3=[Γ o.n]:=h3;obtain⟨sv,CO,Bh⟩:∃v,c5=[v]/\kX DX w km o.sg v:=h5;obtain⟨cv,CP,sA⟩:∃v,c7=[v]/\kX GG w km o.l v:=h7;have It:=cCq h9;obtain⟨kv,Ir,C7⟩:∃v,HG=[v]/\kX (lB .i64) w km o.keep v:=AS;have bRl:Co=[]:=dU;subst xd uu CO CP It Ir bRl;exact⟨⟨o.kind,o.n,sv,cv,o.ft,kv⟩,rfl,rfl,rfl,rfl,cCg Bh,sA.flat cCp (λ_=>rfl),C7.ints⟩
def Ea.of{w:Ζ}{l:List gB}{v:Ε}(h:kX GI w km l v):Ea (bw.of w) v l:=by
 obtain⟨vl,h1,h2,h3⟩:=kX.aWd h (by decide);have hex:∀i,∃x:oa,∀(h:i<l.length) (h':i<vl.length),vl[i]=jX x/\kL (bw.of w) x l[i]:=λi=>by
  by_cases hi:i<l.length
  ·obtain⟨x,e,hx⟩:=cCr (h3 i hi (by omega));exact⟨x,λ_ _=>⟨e,hx⟩⟩
  exact⟨⟨0,0,Θ,Θ,⟨0,0⟩,Θ⟩,λh=>absurd h hi⟩
 obtain⟨f,hf⟩:=Classical.axiomOfChoice hex;refine⟨(List.range l.length).map f,by simp,?_,λi hi xy=>by simpa using (hf i hi (by omega)).2⟩;have e:vl=((List.range l.length).map f).map jX:=xxw (by simp[h1]) λi g1 g2=>by simpa using (hf i (by omega) g1).1
 rw[e]at h2
 exact h2
structure J5(s:gB):Prop where
 kind:lr s.kind
 n:lr s.n
 sg:s.sg.length<=140737488351232
 l:s.l.length<=140737488351232
 ch:∀c∈s.l,lr c.key
 ft:V0 s.ft
 keep:s.keep.length<=140737488351232
def cPh:mS Tryz.prog 36 GI J5:=
 Zk (y0 (λo:gB=>(o.kind,o.n,o.sg,o.l,o.ft,o.keep,())) (λx=>⟨x.1,x.2.1,x.2.2.1,x.2.2.2.1,x.2.2.2.2.1,x.2.2.2.2.2.1⟩) (λ_=>rfl)
  (yq Tryz.underlying36 (by kernel_rfl) (kP (ni yyc (by kernel_rfl)) rfl (kP (ni yy4 (by kernel_rfl)) rfl
   (kP (Kb (b:=16) (YJ yy5 (by kernel_rfl)) Tryz.underlying30 (by kernel_rfl) (by kernel_rfl) (by decide)) rfl
    (kP (Kb (b:=40) aWk Tryz.underlying31 (by kernel_rfl) (by kernel_rfl) (by decide)) rfl
     (kP bIv rfl (kP (Kb (b:=8) (ni yyc (by kernel_rfl)) Tryz.underlying34 (by kernel_rfl) (by kernel_rfl) (by decide)) rfl (ER _ _)))))))))
  (λo h=>by
   have h3:=h.2.2.1;have h4:=h.2.2.2.1;have h6:=h.2.2.2.2.2.1;exact⟨Dw h.1,Dw h.2.1,by have:=h3.1;simp only at this;omega,by have:=h4.1;simp only at this;omega,λc hc=>Dw (h4.2 c hc),h.2.2.2.2.1,by have:=h6.1;simp only at this;omega⟩)
def JI(c:dF):dM:=⟨1+md c.queue 5,1+md c.batch 4,1+(md c.base 4:Int),1+(md c.base 4:Int)+(md c.cJ 12:Int),(md c.sI 4:Int)⟩
def aR8(c:dF):CC (Cp c) (JI c) (1+md c.tables 4):=by
 have h1:=h_ c.tables 4 (by decide);have h2:=h_ c.size 4 (by decide);have h3:=h_ c.chunk 4 (by decide);have h4:=h_ c.queue 5 (by decide);have h5:=h_ c.batch 4 (by decide);have h6:=h_ c.base 4 (by decide);have h7:=h_ c.cJ 12 (by decide);have h8:=h_ c.sI 4 (by decide);have h9:=h_ c.every 8 (by decide);have hp:0<2 ^ (1+md c.tables 4):=Nat.pow_pos (by decide);have vw:=h_ c.late (2 ^ (1+md c.tables 4)) hp;have hs:=aWg h2;refine⟨by omega,by omega,by show (1:Int)+(md c.tables 4:Int)=((1+md c.tables 4:Nat):Int);omega,by show (0:Int)<=(md c.late (2 ^ (1+md c.tables 4)):Int);omega,?_,hs.1,by show uh (md c.size 4)<=_;omega,by show 1+(md c.queue 5:Int)=((1+md c.queue 5:Nat):Int);omega,by show 1<=1+md c.queue 5;omega,by show 1+md c.queue 5<=64;omega,by show (1:Int)<=1+(md c.chunk 4:Int);omega,by show 1+(md c.chunk 4:Int)<=64;omega,by show 1+(md c.batch 4:Int)=((1+md c.batch 4:Nat):Int);omega,by show 1<=1+md c.batch 4;omega,by show 1+md c.batch 4<=64;omega,rfl,rfl,rfl,?_,by show (1:Int)<=1+(md c.every 8:Int);omega,by show 1+(md c.every 8:Int)<=1073741824;omega⟩
 ·show (md c.late (2 ^ (1+md c.tables 4)):Int)<2 ^ (1+md c.tables 4);have:((2 ^ (1+md c.tables 4):Nat):Int)=(2:Int) ^ (1+md c.tables 4):=by simp
  omega
 unfold p' JI;dsimp only;omega
abbrev vj(cf:dF):Ξ:=[Γ cf.tables,Γ cf.late,Γ cf.size,Γ cf.queue,Γ cf.chunk,Γ cf.batch,Γ cf.base,Γ cf.cJ,Γ cf.sI,Γ cf.every]
section
variable {cf:dF} {kc:dM} {n j:Nat} {AL:List cF} {c:bW}
def HN(h:CS cf kc n j AL c)(hj:j<=190)(p:ic)(H:bw):SP 10 [cG p.np] [.ob (cx p cf kc H c),.mem H] (Ai p cf kc H c (agg (wT (c.look kc)))):=by
 obtain⟨xs,hb⟩:=h.l5;have hv:=vX j;exact Qj p cf kc H c hb.sg (by omega) hb.wt.room (by have:=hb.mx.cB.len;omega)
def a_g(h:CS cf kc n j AL c)(hj:j<=190)(p:ic)(H:bw)(comp:Int):SP 11 [cG p.np,Γ comp] [.ob (cx p cf kc H c),.mem H] (Ai p cf kc H c (.bool (c.en kc comp))):=by
 obtain⟨xs,hb⟩:=h.l5;have hv:=vX j;exact qh p cf kc H c comp hb.q (by have:=hb.mx.may.1;omega) hb.sg (by omega) hb.wt.room
end
def Xl{H:bw}{y:oa}{t:gB}(hy:kL H y t):∀u∈jX y,u.oneCell'=true:=by
 intro u hu;simp only[jX,zz0,xxq,vvz]at hu;rcases hu with rfl|rfl|rfl|rfl|rfl|rfl|rfl
 ·rfl
 ·rfl
 ·exact hy.sv.one
 ·exact hy.cv.one
 ·rfl
 ·rfl
 exact hy.kv.one
open Go.RowKit
structure dz(d:DS):Prop where
 off:d.off=false
 arm:d.arm=0
def dz.cA{d:DS}(h:dz d):dz d.cA:=by
 obtain⟨h1,h2⟩:=h;exact⟨by unfold DS.cA;simp[h2],by unfold DS.cA;simp[h2]⟩
def dz.append{d:DS}(h:dz d)(f:Int)(b:Φ):dz (d.append f b).1:=by
 unfold DS.append;split
 ·exact h
 exact⟨h.cA.off,h.cA.arm⟩
def dz.sync{d:DS}(h:dz d)(f:Int):dz (d.sync f).1:=by
 unfold DS.sync;split
 ·exact h
 split
 ·exact h.cA
 exact⟨h.cA.off,h.cA.arm⟩
def dz.cut{d:DS}(h:dz d)(f n:Int):dz (d.cut f n).1:=by
 unfold DS.cut;split
 ·exact h
 split
 ·exact h
 split
 ·exact h.cA
 exact⟨h.cA.off,h.cA.arm⟩
def dz.remove{d:DS}(h:dz d)(f:Int):dz (d.remove f).1:=by
 unfold DS.remove;split
 ·exact h
 split
 ·exact h.cA
 exact⟨h.cA.off,h.cA.arm⟩
def dz.Vz{d:DS}(h:dz d)(g:cU):dz (dc g d).1.2:=by
 unfold dc;split
 ·exact h
 show dz (if _ then _ else _:DS × Int).1;split
 ·exact h.remove _
 exact h.cut _ _
def dz.eO{d:DS}(h:dz d)(g:cU)(p:Φ):dz (eO g d p).1.2:=by
 have hm:=h.Vz g;unfold Go.Proofs.YtmkllimamejcgaaGreat.eO;split
 ·exact h
 rename_i x _;dsimp only;split
 ·exact hm
 split
 ·exact hm.append _ _
 split
 ·exact (hm.append _ _).sync _
 exact (hm.append _ _).sync _
def dz.f_{d:DS}(h:dz d)(g:cU)(p:Φ)(k:Int):dz (f_ g d p k).1.2:=by
 have hm:=h.Vz g;unfold Go.Proofs.YtmkllimamejcgaaGreat.f_;split
 ·exact h
 split
 ·exact h
 dsimp only;split
 ·exact hm
 split
 ·exact hm.append _ _
 exact hm.append _ _
def dz.gJ:∀(L:List c_) {d:DS} (h:dz d) (n:Int),dz (gJ L d n).1.2
 | [],d,h,n=>h
 | [s],d,h,n=>h
 | s::t::r,d,h,n=>by
  unfold Go.Proofs.YtmkllimamejcgaaGreat.gJ;split
  ·split
   ·exact h.remove _
   exact dz.gJ (t::r) (h.remove _) n
  exact h
def dz.gQ{d:DS}(h:dz d)(g:cU)(n:Int):dz (gQ g d n).1.2:=by
 unfold Go.Proofs.YtmkllimamejcgaaGreat.gQ;split
 ·exact h
 exact dz.gJ _ h n
def dz.ju{d:DS}(h:dz d)(f:Int)(b:Φ):dz (ju d f b).1:=by
 unfold Go.Proofs.YtmkllimamejcgaaGreat.ju;have hc:dz (if 0<=gn d.R f then d.cut f 0 else (d,0)).1:=by
  split
  ·exact h.cut _ _
  exact h
 generalize (if 0<=gn d.R f then d.cut f 0 else (d,0))=c at *
 dsimp only;split
 ·exact hc
 split
 ·exact hc.append _ _
 exact (hc.append _ _).sync _
def dz.iG{d:DS}(h:dz d)(L:List c_)(ids:Ω)(whole:Bool):dz (iG L d ids whole).1:=by
 unfold Go.Proofs.YtmkllimamejcgaaGreat.iG;split
 ·exact h
 split
 ·exact h.remove _
 split
 ·exact h.cut _ _
 exact h
def dz.eN{d:DS}(h:dz d)(base size:Int):dz (eN d base size).1:=by
 unfold Go.Proofs.YtmkllimamejcgaaGreat.eN;split
 ·exact h
 split
 ·exact h
 split
 ·exact h
 split
 ·exact h.iG _ _ _
 exact h.iG _ _ _
def dz.fU{k:cN}(h:dz k.d)(t:cF):dz (k.fU t).1.d:=by
 unfold cN.fU;split
 ·exact h
 split
 ·exact h
 dsimp only;split
 ·exact h.eO _ _
 exact h.eO _ _
def dz.kx{k:cN}(h:dz k.d)(sg:Ψ)(l:List ep):dz (k.kx sg l).1.d:=by
 unfold cN.kx;split
 ·exact h.fU _
 exact h
def dz.j9{k:cN}(h:dz k.d)(a b:Int):dz (k.j9 a b).1.d:=by
 unfold cN.j9;split
 ·exact h.fU _
 exact h
def dz.gR{k:cN}(h:dz k.d):dz k.gR.1.d:=by
 unfold cN.gR;dsimp only;split
 ·exact h.ju _ _
 exact h.ju _ _
def dz.gZ{k:cN}(h:dz k.d)(n:Int):dz (k.gZ n).1.d:=by
 unfold cN.gZ;split
 ·exact h
 split
 ·exact h
 have hr:dz (if k.image<n then k.gR else (k,0)).1.d:=by
  split
  ·exact h.gR
  exact h
 generalize (if k.image<n then k.gR else (k,0))=r at *
 dsimp only;split
 ·exact hr
 exact hr.gQ _ _
def dz.ga{k:cM}(h:dz k.d)(x:cD)(L:List Rq):dz (k.ga x L).1.d:=by
 unfold cM.ga;dsimp only;split
 ·exact h.eO _ _
 exact h.eO _ _
def dz.jw{k:cM}(h:dz k.d)(x:cD)(n:Int):dz (k.jw x n).1.d:=h.f_ _ _ _
def dz.fx{k:cM}(h:dz k.d)(x:cD):dz (k.fx x).1.d:=by
 unfold cM.fx;split
 ·exact h
 split
 ·exact h
 dsimp only;split
 ·split
  ·exact h.ga _ _
  exact h
 rename_i f r _;have h':dz ({k with plan:=r}:cM).d:=h;split
 ·split
  ·exact h'.ga _ _
  exact h
 split
 ·exact h'.jw _ _
 exact h
def dz.uQ{p:eW}(h:dz p.k.d):dz p.uQ.1.k.d:=by
 unfold eW.uQ eW.uR;split
 ·exact h
 unfold eW.Bv;dsimp only;split
 ·exact h.j9 _ _
 exact h.j9 _ _
def dz.step{p:eW}(h:dz p.k.d):dz p.step.1.k.d:=by
 unfold eW.step;split
 ·exact h
 split
 ·exact h.uQ
 split
 ·exact h
 unfold eW.A4;dsimp only;split
 ·exact h.j9 _ _
 exact h.j9 _ _
def bV7(s:eX)(cJ:Nat):(s.hold cJ).k=s.k:=by unfold eX.hold;split<;>rfl
def dz.cMs{s:eX}(h:dz s.k.d)(c:dM)(now draw:Int):dz (s.step c now draw).1.k.d:=by
 unfold eX.step;split
 ·have h':dz (s.hold c.cJ).k.d:=by rw[bV7];exact h
  unfold eX.hand;split
  ·exact h'.fx _
  split
  ·exact h'.fx _
  exact h'.fx _
 exact h
def cnz{d d1:DS}{n size:Int}{r:Except Int cN}(h:kH d n size=(d1,r)):(d1=d\/d1=(eN d 16 size).1)/\∀k,r= .ok k->k.d=d1:=by
 unfold kH at h;split at h
 ·cases h;exact⟨.inl rfl,λk hk=>by cases hk⟩
 split at h
 ·rename_i e;cases h;rw[e];exact⟨.inr rfl,λk hk=>by cases hk⟩
 rename_i e;dsimp only at h;split at h
 ·cases h;rw[e];exact⟨.inr rfl,λk hk=>by cases hk⟩
 split at h
 ·cases h;rw[e];exact⟨.inr rfl,λk hk=>by cases hk;rfl⟩
 cases h;rw[e];exact⟨.inr rfl,λk hk=>by cases hk⟩
section
variable {cf:dF} {kc:dM} {n j:Nat} {AL:List cF} {c:bW}
def dz.pick(h:dz c.s.k.d)(comp:Int):dz (c.pick cf kc comp).1.s.k.d:=by
 unfold bW.pick;split
 ·exact h
 split
 ·exact h
 split
 ·unfold bW.read;split<;>exact h
 split
 ·unfold bW.take;split
  ·exact h
  dsimp only;unfold bW.Ad;split<;>exact h
 split
 ·have h':dz (c.lA cf).k.d:=h;exact h'.step
 split
 ·exact h.cMs _ _ _
 unfold bW.tell;split<;>exact h
def dz.ed{keep:Ω}{k1:cN}{k2:cM}{eT:List cF}(h:Le cf kc n j AL c keep k1 k2 eT):dz (c.ed cf keep).s.k.d:=by
 have h0:dz (c.s.k.d.ed keep):=⟨rfl,rfl⟩;rw[h.is];show dz k2.d;obtain⟨hg,hd,_⟩:=J' h.e2;obtain⟨h1,_⟩:=cnz h.e1;have nN:dz k1.d:=by
  rcases h1 with h1|h1
  ·rw[h1];exact h0
  rw[h1];exact h0.eN _ _
 have:=nN.eN 8192 cf.size;rw[hg]at this
 exact this
def dz.gv(h:dz c.s.k.d)(hs:CS cf kc n j AL c)(hc:CC cf kc n)(hj:j<=190)(s:gB)(h7:s.kind≠7):dz (c.gv cf kc s).1.s.k.d:=by
 have gU:dz c.src.d:=h;unfold bW.gv;split
 ·exact h
 split
 ·exact gU.kx _ _
 split
 ·exact h.pick _
 unfold bW.other;dsimp only;split
 ·unfold bW.fault;split
  ·exact h
  split
  ·exact h
  exact h
 split
 ·unfold bW.tick;split
  ·exact h
  split<;>exact h
 split
 ·unfold bW.drawn;split
  ·exact h
  split<;>exact h
 split
 ·exact gU.gZ _
 split
 ·obtain⟨k1,k2,eT,hk⟩:=hs.ed hc hj s.keep;exact dz.ed hk
 exact h
end
set_option maxRecDepth 100000
def kW(l:Ω):Int:=l.foldl (· + ·) 0
def KO(l:Ω)(x:Int):kW (l++[x])=kW l+x:=by simp[kW,ww3]
def GF{B:Int}(hB:0<=B):∀(l:Ω),(∀x∈l,0<=x/\x<=B)->0<=kW l/\kW l<=B*l.length:=by
 intro l
 suffices h:∀(l:Ω) (a:Int),(∀x∈l,0<=x/\x<=B)->a<=l.foldl (· + ·) a/\l.foldl (· + ·) a<=a+B*l.length by
  intro hl;have:=h l 0 hl;unfold kW;omega
 intro l;induction l with
 | nil=>intro a _;simp
 | cons x l ih=>
  intro a hl;have h1:=ih (a+x) λy hy=>hl y (.tail _ hy);have h2:=hl x (.head _);rw[xxo,zzi];have e:B*((l.length+1:Nat):Int)=B*(l.length:Int)+B:=by rw[Int.natCast_add,Int.mul_add];simp
  rw[e];omega
def bW.chunks(cf:dF)(c:bW)(t:Int):Int:=((ib c.k.ts t).length:Int) / cf.chunk+2
def bW.oO(cf:dF)(c:bW)(s:Η):Int:=match z_ s with
 | none=>0
 | some g=>if g.1<cf.tables then c.chunks cf g.1 else 0
def bW.asked(cf:dF)(c:bW)(sg:Ψ):Int:=kW (sg.map (c.oO cf))
def bW.mu(c:bW)(aw:Int):Ψ:=match c.k.gX aw with
 | .ok t=>t.signals
 | .error _=>[]
structure Lo where
 GK:Int
 read:Int
 Aa:Int
 tail:Bool
 chunks:Int
 EP:Int
 wait:Int
deriving DecidableEq
def Sz(l:Lo):Ξ:=[Γ l.GK,Γ l.read,Γ l.Aa,.bool l.tail,Γ l.chunks,Γ l.EP,Γ l.wait]
def bW.xU(cf:dF)(c:bW):Ω:=(iW c.m.reqs).map λr=>c.chunks cf r.table
def bW.bYq(cf:dF)(c:bW):Ω:=(List.range (c.head-c.m.at_).toNat).map λi:Nat=>c.asked cf (c.mu (c.m.at_+1+(i:Int)))
def bW.load(cf:dF)(c:bW):Lo:=
 ⟨c.head-c.pos,c.q.length,(c.s.L.length:Int)+c.s.out,decide (c.last<c.m.at_),kW (c.xU cf)+kW (c.bYq cf),c.s.k.plan.length,max (c.s.eI-c.now) 0⟩
def EB{cf:dF}{kc:dM}{n:Nat}(hc:CC cf kc n){c:bW}(hl:∀C∈c.k.ts,C.length<=1000)(t:Int):2<=c.chunks cf t/\c.chunks cf t<=1002:=by
 have h1:(ib c.k.ts t).length<=1000:=by
  unfold ib;split
  ·exact zz9 _
  cases h:c.k.ts[t.toNat]? with
  | none=>exact zz9 _
  | some C=>exact hl C (yy9 h)
 have h2:=hc.c1;unfold bW.chunks;have h3:((ib c.k.ts t).length:Int) / cf.chunk<=(ib c.k.ts t).length:=Int.ediv_le_self _ (by omega);have h4:0<=((ib c.k.ts t).length:Int) / cf.chunk:=Int.ediv_nonneg (by omega) (by omega);omega
def Rm{cf:dF}{kc:dM}{n:Nat}(hc:CC cf kc n){c:bW}(hl:∀C∈c.k.ts,C.length<=1000)(s:Η):0<=c.oO cf s/\c.oO cf s<=1002:=by
 unfold bW.oO;split
 ·omega
 split
 ·have:=EB hc hl (t:=‹Int × Int›.1);omega
 omega
section
variable (sp:Nat) (ts:List (List Row))
def cDj(t:Int):SP 123 [cG sp,Γ t] [.ob (dN sp ts)] (cE (Γ ((ib ts t).length:Nat)) [.ob (dN sp ts)]):=by
 refine Enzz λW F w hS=>?_;apply cEy;delta LR bU a_ cL ai;refine Cg (yt sp ts t) λw hS=>?_;refine zt (λh=>?_) (λh=>?_)
 ·rw[DZ (yy0 h)];exact⟨_,⟨rfl,rfl⟩,hS⟩
 obtain⟨h0,h1⟩:=zzp h;obtain⟨t,rfl⟩:∃n:Nat,t=n:=⟨t.toNat,by omega⟩;have ht:t<ts.length:=by omega
 rw[nY ts t ht];obtain⟨v,L,hL,hS⟩:=dN.iff.1 hS;obtain⟨b,hb⟩:=Ab hL ht;have hl:=tU hL;refine Gp ?_;refine yi hS Xh vn hb (by omega) (i:=0) rfl ?_;have hS:=ze.take (SL.b_ hS (t:=.ob (ze ez L)::.pt sp [v] 241::jx v L::F) Xi) hb;refine Cc (Yz b ts[t]) ?_;clear hS;rintro _ post ⟨rfl,rfl⟩ w hS;try simp only[app]at hS
 have hS:=ze.back (SL.b_ hS (t:=.ob (ez (b,ts[t]))::.ob (ze ez (L.eraseIdx t))::.pt sp [v] 241::jx v L::F) Xi) hb;exact⟨_,⟨rfl,rfl⟩,SL.b_ (dN.put hL hS Xp) Xi⟩
end
section
variable (p:ic) (cf:dF) (kc:dM) (H:bw) (c:bW)
def Zi{n:Nat}(hc:CC cf kc n)(hl:∀C∈c.k.ts,C.length<=1000)(t:Int):SP 76 [cG p.np,Γ t] [.ob (cx p cf kc H c)] (cE (Γ (c.chunks cf t)) [.ob (cx p cf kc H c)]):=by
 refine Enzz λW F w hS=>?_;apply cLq;delta PS bU a_ aR bV ai;obtain⟨dv,hS⟩:=cx.open hS Xr;have hS:=df.iff.1 (SL.b_ hS (t:=.ob (df p.sp p.tp p.w.dp p.sl c.k)::.pt p.np (sN p cf c.pos dv) 84::sY dv c.dy::.ob (du p.w kc H c.s)::.ob (cW p.mp p.wi H c.m)::.pt p.sn (jq p.sp p.mp p.wi p.dg cf.chunk) 208::.ob (fw p.dg c.dr)::.ob (Ring p.rb kc.cap (c.q.map jT))::.ob (iy p.ck [] c.now)::jh p.bp cf.every c.due c.last::F) Xi);refine Gn λw hS=>?_;refine Cg (cDj p.tp c.k.ts t) λw hS=>?_;have h1:=EB hc hl t;unfold bW.chunks at h1;have gF:=hc.c1;refine Kz (by omega) (by rw[xx2 (by omega)];omega) ?_;rw[xx2 (by omega)];refine Gp ?_;have hS:=df.put c.k hS Xp;have hS:=cx.put c hS Xp;exact cC hS
def Qx(g b out:Nat):SP 53 [Δ g] [.pt g [Δ b,Γ out] 125] (cE (Γ out) [.pt g [Δ b,Γ out] 125]):=by
 refine Enzz λW F w hS=>?_;apply XX;delta Hb bU;refine Gp ?_;(exact cC hS)
def qB(kp gp dp lp pp:Nat)(aw:Int)(rv:Ε):SP 72 [iL kp] [.pt kp (nT gp dp lp pp aw rv) 90] (cE (iL pp) [.pt kp (nT gp dp lp pp aw rv) 90]):=by
 refine Enzz λW F w hS=>?_;apply X0;delta He bU;refine Gp ?_;(exact cC hS)
def a_i{N:Nat}(hg:iu c.k.g N)(hN:N<=1000000000)(aw:Int)(hl : -9000000000000000000<=aw/\aw<=9000000000000000000):SP 34 [cG p.np,Γ aw] [.ob (cx p cf kc H c),.mem H]
  (λv post=>∃(x:mU) (t:cF) (e:Int) (H':bw),H.le H'/\v= .tuple #[agg (fr x),Γ e]/\lF H' x t/\t.signals=c.mu aw/\t.changes.length<=16/\t.signals.length<=2/\(∀s∈t.signals,s.size<=40)/\post=[.ob (cx p cf kc H' c),.mem H']):=by
 refine Enzz λW F w hS=>?_;apply cJ2;delta OX a_ bV ai bI;refine Gb λzb w hS=>?_;obtain⟨dv,hS⟩:=cx.open hS Xr;refine Gp ?_;refine Cc (yR p.sp p.tp p.w.dp p.sl c.k hg hN H aw hl) ?_;clear hS;rintro r post hq w hS;unfold u_ at hq;cases hr:c.k.gX aw with
 | error e=>
  rw[hr]at hq
  obtain⟨dQ,H',hh,rfl,rfl⟩:=hq;try simp only[app]at hS
  have hS:=cx.put c hS Xp;have hS:=cx.je hh hS Xr;unfold fr Ag;refine Gn λw hS=>?_;exact⟨[.ob (cx p cf kc H' c),.mem H'],⟨Ag,⟨0,0,[],[],0⟩,e,H',hh,rfl,⟨rfl,rfl,rfl,dq.nil _ _,dq.nil _ _⟩,by unfold bW.mu;rw[hr],by decide,by decide,(λs hs=>by cases hs),rfl⟩,aW hS⟩
 | ok t=>
  rw[hr]at hq
  obtain⟨x,H',hh,rfl,hx,rfl⟩:=hq;have sF:eg t=true:=by
   unfold cN.gX at hr;split at hr
   ·cases hr
   exact HS hr
  have hm:=mj sF;try simp only[app]at hS
  have hS:SL W (.ob (df p.sp p.tp p.w.dp p.sl c.k)::_) w:=hS;have hS:=du.je hh hS Xr;have hS:=cW.je hh hS Xr;have hS:=cx.put c hS Xp;refine Gp ?_;refine zr (vs:=fr x) hS Xu rfl rfl hx.Bz λw hS=>?_;refine zA hS Xh rfl ?_;exact⟨[.ob (cx p cf kc H' c),.mem H'],⟨x,t,0,H',hh,rfl,hx,by unfold bW.mu;rw[hr],hm.2.2.2.1,hm.2.2.2.2.1,hm.2.2.2.2.2.2,rfl⟩,aW hS⟩
def qf{n:Nat}(hc:CC cf kc n)(hl:∀C∈c.k.ts,C.length<=1000)(x:mU)(t:cF)(hx:lF H x t)(h2:t.signals.length<=2)(xf:∀s∈t.signals,s.size<=40):SP 77 [cG p.np,agg (fr x)] [.ob (cx p cf kc H c),.mem H] (cE (Γ (c.asked cf t.signals)) [.ob (cx p cf kc H c),.mem H]):=by
 refine Enzz λW F w hS=>?_;apply cLr;delta PT aI a_ bV ai;refine zw hS λxb w hS=>?_;unfold fr at hS;refine Gp ?_;refine zo hx.sv ?_;refine⟨λus w=>∃i:Nat,us=[Γ (kW ((t.signals.take i).map (c.oO cf))),Γ i]/\i<=t.signals.length/\SL W (.ob (cx p cf kc H c)::.mem H::F) w,
  λus _=>match us with|[_,.int _ i]=>(t.signals.length-i).toNat|_=>0,⟨0,rfl,by omega,aW hS⟩,?_⟩
 clear hS;rintro _ _ w ⟨i,cP,hi,hS⟩;cases cP;have jZ:=GF (B:=1002) (by decide) ((t.signals.take i).map (c.oO cf)) λy hy=>by
  obtain⟨s,_,rfl⟩:=zzx.1 hy;exact Rm hc hl s
 rw[zzn,zzg]at jZ
 refine bZ (λh=>?_) (λh=>?_)
 ·have cz:i<t.signals.length:=by omega
  have e:(t.signals.take (i+1)).map (c.oO cf)=(t.signals.take i).map (c.oO cf)++[c.oO cf t.signals[i]]:=by rw[zze cz,zzt];rfl
  have mI:=KO ((t.signals.take i).map (c.oO cf)) (c.oO cf t.signals[i]);rw[<- e]at mI
  have hs:=xf _ (zzh cz);refine yP hS Xh hx.sv cz (u:=.string t.signals[i]) (by simp[cz]) ?_;generalize t.signals[i]=s at *
  generalize kW ((t.signals.take i).map (c.oO cf))=a at *
  have uz:∀g:Int,2<=c.chunks cf g/\c.chunks cf g<=1002:=EB hc hl;refine Cc (Z3 s (by omega)) ?_;clear hS;rintro _ post ⟨rfl,rfl⟩ w hS;try simp only[app]at hS
  have hq:c.oO cf s=match z_ s with
   | none=>0
   | some g=>if g.1<cf.tables then c.chunks cf g.1 else 0:=rfl
  cases hp:z_ s with
  | none=>
   rw[hp]at hq
   rw[hq]at mI
   rw[show GC (none:Option (Int × Int))= .tuple #[agg [Γ 0,Γ 0],.bool false] from rfl];refine Gm λb w hS=>?_;exact⟨⟨i+1,by rw[mI];simp,by omega,aW hS⟩,by dsimp only;omega⟩
  | some g=>
   obtain⟨g1,g2⟩:=g;rw[hp]at hq
   rw[hq]at mI
   dsimp only at mI;rw[show GC (some (g1,g2))= .tuple #[agg [Γ g1,Γ g2],.bool true] from rfl];refine Gm λb w hS=>?_;obtain⟨dv,hS⟩:=cx.open hS Xr;refine Gp ?_;have hS:=cx.put c hS Xp;refine za (λhg=>?_) (λhg=>?_)
   ·rw[zzd hg]at mI
    have:=uz g1;refine Gp ?_;refine Cg (Zi p cf kc H c hc hl g1) λw hS=>?_;exact⟨⟨i+1,by rw[mI],by omega,aW hS⟩,by dsimp only;omega⟩
   rw[zzb hg]at mI
   refine Gp ?_;exact⟨⟨i+1,by rw[mI];simp,by omega,aW hS⟩,by dsimp only;omega⟩
 have:i=t.signals.length:=by omega
 subst this;rw[zz4];exact cC hS
end
abbrev Bp(cf:dF)(c:bW)(k:Int):Ξ:=[Γ (cI c.k.g.bF-c.pos),Γ c.q.length,Γ ((c.s.L.length:Int)+c.s.out),.bool (decide (c.last<c.m.at_)),Γ k,Γ c.s.k.plan.length,Γ (max (c.s.eI-c.now) 0)]
structure LdB(cf:dF)(kc:dM)(n:Nat)(c:bW)(N:Nat):Prop where
 g:iu c.k.g N
 N:N<=1000000000
 rows:∀C∈c.k.ts,C.length<=1000
 pos:0<=c.pos/\c.pos<=1099511627776
 at_:0<=c.m.at_/\c.m.at_<=1099511627776
 eI:0<=c.s.eI/\c.s.eI<=4503599627370496
 now:0<=c.now/\c.now<=1125899906842624
 rq:c.m.reqs.length<=64
def cBg(c:bW)(aw:Int):(c.mu aw).length<=2:=by
 unfold bW.mu;split
 ·rename_i t hr;unfold cN.gX at hr;split at hr
  ·cases hr
  exact (mj (HS hr)).2.2.2.2.1
 exact zz9 _
section
variable (p:ic) (cf:dF) (kc:dM) (H:bw) (c:bW)
set_option maxHeartbeats 16000000 in
def Qi{n N:Nat}(hc:CC cf kc n)(hb:LdB cf kc n c N):SP 17 [cG p.np] [.ob (cx p cf kc H c),.mem H] (Ai p cf kc H c (agg (Sz (c.load cf)))):=by
 refine Enzz λW F w hS=>?_;apply cF1;delta Mz aI a_ aR bV Ce Ek Cf ai bI;have hg:=hb.g;have hN:=hb.N;have hh:=sB hg.ok.bF;have Ff:=hb.pos;have o8:=hb.at_;have Fg:=hb.eI;have hb4:=hb.now;have lK:=hb.rq;refine Gb λzb w hS=>?_;obtain⟨dv,hS⟩:=cx.open hS Xr;obtain⟨ov,nv,hi,hS⟩:=du.open hS Xr;obtain⟨rv,hr,hS⟩:=db.open hS Xr;obtain⟨hG,hS⟩:=Gate.DK hS Xr;have gH:∀(lb:Nat) (w:Ζ),SL W (.pt lb [Γ (cI c.k.g.bF-c.pos),Γ c.q.length,Γ ((c.s.L.length:Int)+c.s.out),.bool (decide (c.last<c.m.at_)),Γ 0,Γ c.s.k.plan.length,Γ (max (c.s.eI-c.now) 0)] 51::.pt zb [Γ 0,Γ 0,Γ 0,.bool false,Γ 0,Γ 0,Γ 0] 51::.pt p.w.qp [Δ p.w.qb,Γ c.s.out] 125::.ob (Ring p.w.qb kc.cap (c.s.L.map iB))::.pt p.w.kp (nT p.w.gp p.w.dp p.w.lp p.w.pp c.s.k.aw rv) 90::.ob (gu p.w.gp c.s.k.ts)::.ob (dd p.w.lp p.w.dp c.s.k.g)::.ob (gD p.w.pp c.s.k.plan)::.ob (bX p.w.dp c.s.k.d)::.pt p.w.wp (oK p.w.kp p.w.qp p.w.rp kc.cJ c.s.held.aw ov nv c.s.n) 216::kq p.w.rp kc.b kc.m kc.j c.s.fL c.s.eI::.pt p.np (sN p cf c.pos dv) 84::sY dv c.dy::.ob (df p.sp p.tp p.w.dp p.sl c.k)::.ob (cW p.mp p.wi H c.m)::.pt p.sn (jq p.sp p.mp p.wi p.dg cf.chunk) 208::.ob (fw p.dg c.dr)::.ob (Ring p.rb kc.cap (c.q.map jT))::.ob (iy p.ck [] c.now)::jh p.bp cf.every c.due c.last::.mem H::F) w ->
   ∃Vc:Nat,[Δ lb]=[Δ Vc]/\SL W (.pt Vc (Bp cf c 0) 51::.pt zb [Γ 0,Γ 0,Γ 0,.bool false,Γ 0,Γ 0,Γ 0] 51::.ob (cx p cf kc H c)::.mem H::F) w:=λlb w hS=>by
  have hS:=Gate.put hG hS Xp;have hS:=db.eS (g:=c.s.k.g) (d:=c.s.k.d) (ts:=c.s.k.ts) (plan:=c.s.k.plan) (aw:=c.s.k.aw) (reqs:=c.s.k.reqs) hS hr Xp;have hS:SL W (.ob (db p.w.kp p.w.gp p.w.dp p.w.lp p.w.pp H c.s.k)::_) w:=hS;have hS:=du.put c.s hS hi Xp;have hS:=cx.put c hS Xp;exact⟨lb,rfl,aW hS⟩
 have hL:(c.s.L.length:Int)<=64/\(c.s.out:Int)<=64:=by have:=hG.1;rw[zzn]at this;have:=hG.2;omega
 refine⟨λus w=>∃lb:Nat,us=[Δ lb]/\SL W (.pt lb (Bp cf c 0) 51::.pt zb [Γ 0,Γ 0,Γ 0,.bool false,Γ 0,Γ 0,Γ 0] 51::.ob (cx p cf kc H c)::.mem H::F) w,?_,?_⟩
 ·repeat' (first
   | refine Gp ?_
   | refine Gw λw hS=>?_
   | refine Gb λb w hS=>?_
   | refine Cg (zE p.sp p.tp p.w.dp p.sl c.k hg hN) λw hS=>?_
   | refine Cg (yu p.rb kc.cap (c.q.map jT)) λw hS=>?_
   | refine Cg (yu p.w.qb kc.cap (c.s.L.map iB)) λw hS=>?_
   | refine Cg (Qx p.w.qp p.w.qb c.s.out) λw hS=>?_
   | refine Cg (yv p.mp p.wi H c.m) λw hS=>?_
   | refine Cg (qd p.bp cf.every c.due c.last) λw hS=>?_
   | refine Cg (qB p.w.kp p.w.gp p.w.dp p.w.lp p.w.pp c.s.k.aw rv) λw hS=>?_
   | refine Cg (bIo p.w.pp c.s.k.plan) λw hS=>?_
   | refine Cg (ZM p.w.rp kc.b kc.m kc.j c.s.fL c.s.eI) λw hS=>?_
   | refine Cg (zY p.ck [] c.now) λw hS=>?_
   | with_reducible refine And.intro ?_ ?_
   | exact gH _ _ (aW hS))
  all_goals done
 clear hS gH;rintro _ w ⟨lb,cP,hS⟩;cases cP;obtain⟨dv,hS⟩:=cx.open hS Xr;refine Gp ?_;refine Cc (yw p.mp p.wi H c.m (by omega)) ?_;clear hS;rintro u post rfl w hS;try simp only[app]at hS
 refine Cc (yV u c.m.reqs (by omega)) ?_;clear hS;rintro u2 post rfl w hS;try simp only[app]at hS
 have hRl:(iW c.m.reqs).length<=64:=by
  have:=yyp (λr:Rq=>!r.done) c.m.reqs;unfold iW;omega
 have lk:c.xU cf=(iW c.m.reqs).map λr=>c.chunks cf r.table:=rfl;generalize iW c.m.reqs=R at *
 refine zu hS (v:=u2) Xh ?_;have hS:=cx.put c hS Xp;have hS:SL W (.pt lb (Bp cf c 0) 51::oL u2 R::.pt zb [Γ 0,Γ 0,Γ 0,.bool false,Γ 0,Γ 0,Γ 0] 51::.ob (cx p cf kc H c)::.mem H::F) w:=aW hS;have uz:∀t,2<=c.chunks cf t/\c.chunks cf t<=1002:=EB hc hb.rows;refine⟨λus w=>∃i:Nat,us=[Γ i]/\i<=R.length/\SL W (.pt lb (Bp cf c (kW ((R.take i).map λr=>c.chunks cf r.table))) 51::oL u2 R::.pt zb [Γ 0,Γ 0,Γ 0,.bool false,Γ 0,Γ 0,Γ 0] 51::.ob (cx p cf kc H c)::.mem H::F) w,
  λus _=>match us with|[.int _ i]=>(R.length-i).toNat|_=>0,⟨0,rfl,by omega,hS⟩,?_⟩
 clear hS;rintro _ w ⟨i,cP,hi,hS⟩;cases cP;have jZ:=GF (B:=1002) (by decide) ((R.take i).map λr=>c.chunks cf r.table) λy hy=>by
  obtain⟨r,_,rfl⟩:=zzx.1 hy;have:=uz r.table;omega
 rw[zzn,zzg]at jZ
 refine bZ (λh=>?_) (λh=>?_)
 ·have cz:i<R.length:=by omega
  have e:((R.take (i+1)).map λr=>c.chunks cf r.table)=((R.take i).map λr=>c.chunks cf r.table)++[c.chunks cf R[i].table]:=by rw[zze cz,zzt];rfl
  have mI:=KO ((R.take i).map λr=>c.chunks cf r.table) (c.chunks cf R[i].table);rw[<- e]at mI
  refine zT hS (v:=u2) (t:=98) Xh nK (x:=R[i]) (by simp[cz]) cz ?_;generalize R[i]=r at *
  generalize kW ((R.take i).map λr=>c.chunks cf r.table)=a at *
  have ma:=uz r.table;refine Gb λrb w hS=>?_;unfold iI at hS;refine Cg (Zi p cf kc H c hc hb.rows r.table) λw hS=>?_;refine⟨⟨i+1,rfl,by omega,?_⟩,by dsimp only;omega⟩;rw[mI];exact aW hS
 have:i=R.length:=by omega
 subst this;rw[zz4,<- lk]at hS
 have vQ:0<=kW (c.xU cf)/\kW (c.xU cf)<=64128:=by
  rw[zz4,<- lk]at jZ;omega
 obtain⟨dv,hS⟩:=cx.open hS Xr;refine Gp ?_;refine Cg (yv p.mp p.wi H c.m) λw hS=>?_;have hS:=cx.put c hS Xp;have hS:SL W (.pt lb (Bp cf c (kW (c.xU cf))) 51::.pt zb [Γ 0,Γ 0,Γ 0,.bool false,Γ 0,Γ 0,Γ 0] 51::.ob (cx p cf kc H c)::.mem H::F) w:=aW hS;have nM:c.head=cI c.k.g.bF:=rfl;have Tp:∀aw,0<=c.asked cf (c.mu aw)/\c.asked cf (c.mu aw)<=2004:=λaw=>by
  have h1:=GF (B:=1002) (by decide) ((c.mu aw).map (c.oO cf)) λy hy=>by
   obtain⟨s,_,rfl⟩:=zzx.1 hy;exact Rm hc hb.rows s
  have h2:=cBg c aw;rw[zzn]at h1
  unfold bW.asked;omega
 refine⟨λus w=>∃(k:Nat) (H2:bw),us=[Γ (c.m.at_+1+k)]/\k<=(c.head-c.m.at_).toNat/\H.le H2/\SL W (.pt lb (Bp cf c (kW (c.xU cf)+kW ((List.range k).map λi:Nat=>c.asked cf (c.mu (c.m.at_+1+(i:Int)))))) 51::.pt zb [Γ 0,Γ 0,Γ 0,.bool false,Γ 0,Γ 0,Γ 0] 51::.ob (cx p cf kc H2 c)::.mem H2::F) w,
  λus _=>match us with|[.int _ v]=>(c.head+1-v).toNat|_=>0,⟨0,H,by simp,by omega,bw.le_refl H,by rw[show kW ((List.range 0).map λi:Nat=>c.asked cf (c.mu (c.m.at_+1+(i:Int))))=0 from rfl,Int.add_zero];exact hS⟩,?_⟩
 clear hS;rintro _ w ⟨k,H2,cP,hk,e_,hS⟩;cases cP;have bVi:=GF (B:=2004) (by decide) ((List.range k).map λi:Nat=>c.asked cf (c.mu (c.m.at_+1+(i:Int)))) λy hy=>by
  obtain⟨i,_,rfl⟩:=zzx.1 hy;exact Tp _
 rw[zzn,List.length_range]at bVi
 obtain⟨dv,hS⟩:=cx.open hS Xr;refine Gp ?_;refine Cg (zE p.sp p.tp p.w.dp p.sl c.k hg hN) λw hS=>?_;have hS:=cx.put c hS Xp;refine za (λh=>?_) (λh=>?_)
 ·have de:k<(c.head-c.m.at_).toNat:=by omega
  refine Cc (a_i p cf kc H2 c hg hN (c.m.at_+1+k) (by omega)) ?_;clear hS;rintro _ post ⟨x,t,e,H3,fE,rfl,hx,Bf,_,h2,xf,rfl⟩ w hS;try simp only[app]at hS
  have mI:=KO ((List.range k).map λi:Nat=>c.asked cf (c.mu (c.m.at_+1+(i:Int)))) (c.asked cf (c.mu (c.m.at_+1+(k:Int))));have er:((List.range (k+1)).map λi:Nat=>c.asked cf (c.mu (c.m.at_+1+(i:Int))))=((List.range k).map λi:Nat=>c.asked cf (c.mu (c.m.at_+1+(i:Int))))++[c.asked cf (c.mu (c.m.at_+1+(k:Int)))]:=by rw[List.range_succ,zzt];rfl
  rw[<- er,<- Bf]at mI
  have hak:=Tp (c.m.at_+1+k);rw[<- Bf]at hak
  generalize kW ((List.range k).map λi:Nat=>c.asked cf (c.mu (c.m.at_+1+(i:Int))))=a at *
  refine Gm λb w hS=>?_;refine zr (vs:=fr x) hS Xu rfl rfl hx.Bz λw hS=>?_;refine Gn λw hS=>?_;refine Cg (qf p cf kc H3 c hc hb.rows x t hx h2 xf) λw hS=>?_;refine⟨⟨k+1,H3,?_,by omega,bw.le_trans e_ fE,?_⟩,by dsimp only;omega⟩
  ·rw[show c.m.at_+1+((k+1:Nat):Int)=c.m.at_+1+k+1 by omega]
  rw[mI,<- Int.add_assoc];exact aW hS
 have TS:k=(c.head-c.m.at_).toNat:=by omega
 refine Gn λw hS=>?_;have hv:kW (c.xU cf)+kW ((List.range k).map λi:Nat=>c.asked cf (c.mu (c.m.at_+1+(i:Int))))=(c.load cf).chunks:=by
  rw[TS];rfl
 rw[hv]at hS ⊢
 exact⟨[.ob (cx p cf kc H2 c),.mem H2],⟨rfl,H2,e_,rfl⟩,aW hS⟩
end
set_option maxRecDepth 100000
open Go.ChangeShapes Go.WideShapes Go.ChangeAt Go.RowKit
section
variable {cf:dF} {kc:dM} {n j:Nat} {AL:List cF} {c:bW}
def a_h(h:CS cf kc n j AL c)(hc:CC cf kc n)(hj:j<=190)(p:ic)(H:bw):SP 17 [cG p.np] [.ob (cx p cf kc H c),.mem H] (Ai p cf kc H c (agg (Sz (c.load cf)))):=by
 obtain⟨xs,hb⟩:=h.l5;have hv:=vX j;exact Qi p cf kc H c hc ⟨hb.sg,by omega,hb.st2,hb.pos,⟨hb.mx.l4,hb.mx.oP⟩,hb.eI,hb.now,hb.mx.may.1⟩
end
open Go.RowKit
def iM.die{n:Nat}{k:cN}{all:List cF}{tr:Nat}{I:List PF}{d0:DS}{f:Int}{lo m:Nat}(h:iM n k all tr I d0 f lo m)(ho:k.d.off=false)(ha:k.d.arm=1\/k.d.arm=2)(hlen:all.length<=1000){t:cF}
  (hm:eg (mB t all.length)=true) (hf:k_ (fB n all) t.changes=true):∃k',k.fU t=(k',(0,8))/\k'.d.off=true/\k'.g=k.g:=by
 have lh:=h.head ho;have hd:=h.pI;have gT:d0.off=false:=by rw[hd]at ho;exact ho
 have o7:d0.arm=1\/d0.arm=2:=by rw[hd]at ha;exact ha
 have hl:=h.log.inv gT;have vJ:=h.tN;have mg:=h.kD.le;have A1:=h.file;have hb:=h.base;have gM:=h.ts;have o9:=SB hm;have rm:=Hx hl (p:=gi (mB t all.length)) (by omega) (by rw[zzn,zzq];omega) (by rw[zzn,zzq,hb];omega) (by omega);obtain⟨ew,hw,_⟩:=Ep (A:=I) (B:=[]) (d:=d0) (h.log.EY hb) h.cB (gi (mB t all.length));have kQ:k.fU t=(let r:=eO k.g k.d (gi (mB t all.length));if r.2.2=0 then ({k with g:=r.1.1,d:=r.1.2,ts:=fV k.ts t.changes},((all.length:Int)+1,0)) else ({k with g:=r.1.1,d:=r.1.2},(0,r.2.2))):=by
  unfold cN.fU;rw[zzb (by simp[ho]),zzb (by rw[gM,hf,lh];simp;omega),lh]
 rw[kQ,hd,ew];rcases rm with ⟨g',d',e,_,_,_,_,_,_,_,a1,a2⟩|⟨d',e,_,Db,_,_,_⟩
 ·exfalso;omega
 rw[e];simp only;rw[zzb (by decide)];exact⟨_,rfl,Db,rfl⟩
section
variable {cf:dF} {kc:dM} {n j:Nat} {AL:List cF} {c:bW}
def eG.head(h:eG cf kc n j AL c):c.head=AL.length:=by
 obtain⟨tr,xs,hd,RS,RK,hb,ha⟩:=h;exact ha.head
def eG.die(h:eG cf kc n j AL c)(hc:CC cf kc n)(hj:j<=190)(ha:c.s.k.d.arm=1\/c.s.k.d.arm=2):
  mw cf kc n (j+1) AL (c.lG (po 1)).1/\(c.lG (po 1)).1.head=AL.length/\(c.lG (po 1)).1.s.k.aw=c.s.k.aw/\(c.lG (po 1)).1.now=c.now:=by
 have CV:=h.lG hc hj (po 1);have nM:=h.head;obtain⟨tr,xs,hd,RS,RK,hb,hA⟩:=h;have vA:=hb.al;obtain⟨I,d0,f,lo,m,hL⟩:=hA.kv.live;have oA:k_ (fB n AL) []=true:=by
  unfold k_;rw[zzu,zz3,zz3];exact⟨λx hx=>(by cases hx),λC hC=>zzm (hA.kv.lI.mP.2 C hC)⟩
 have vL:eg ⟨1,1,[],[],0⟩=true:=by decide
 obtain⟨k',e,ho,hg⟩:=hL.die (t:=⟨1,1,[],[],0⟩) hA.off ha (by omega) (Vr vL (by omega)) oA;have hw:=(Q_ (hA.kv.BP hA.hB) ⟨1,1,[],[],0⟩).1;rw[<- hA.KC,e]at hw
 have gz:c.src.kx [] []=(k'.fe RK,(0,8)):=by
  unfold cN.kx;rw[zzd ⟨vL,λx hx=>by cases hx⟩,hw]
 have EL:c.lG (po 1)=(c.jI (k'.fe RK),⟨8,0,0⟩):=by
  unfold bW.lG;rw[show (po 1).sg=[] from rfl,show (po 1).l=[] from rfl,gz]
 refine⟨?_,?_,by rw[EL];rfl,by rw[EL];rfl⟩
 ·rcases CV with ⟨x,_,e2⟩|⟨h2,_⟩|e2|e2
  ·rw[EL]at e2
   have:=yyt oM.err e2;simp only at this;omega
  ·exact h2
  ·have e2:c.src.kx [] []=(c.src,(0,1)):=e2;rw[gz]at e2
   have:=yyt (·.2.2) e2;simp only at this;omega
  have e2:c.src.kx [] []=(c.src,(0,7)):=e2;rw[gz]at e2
  have:=yyt (·.2.2) e2;simp only at this;omega
 rw[EL,<- nM];show cI k'.g.bF=cI c.k.g.bF;rw[hg];rfl
def CS.oh(h:CS cf kc n j AL c)(hq:c.s.k.d.off=false){a:Int}(h1:0<=a)(h2:a<=1073741824):eG cf kc n (j+1) AL (c.re a).1/\(c.re a).1.s.k.d.arm=a:=by
 have h3:=h.arm a;have e:(c.re a).1={c with s:={c.s with k:={c.s.k with d:=c.s.k.d.oh a}}}:=by
  unfold bW.re;rw[zzb (by omega)]
 rw[e]at h3 ⊢
 refine⟨h3.on hq,?_⟩;show max a 0=a;omega
end
set_option maxRecDepth 100000
open Go.ChangeShapes Go.WideShapes Go.ChangeAt Go.RowKit
def KF(a:Int):gB:=⟨7,a,[],[],iQ,[]⟩
def Xk(k:Int):gB:=⟨k,1,[],[],⟨3,0⟩,[]⟩
def KG(l:Ω):gB:=⟨8,0,[],[],iQ,l⟩
def KH(H:bw)(k n:Int)(f:fT):kL H ⟨k,n,Θ,Θ,f,Θ⟩ ⟨k,n,[],[],f,[]⟩:=⟨rfl,rfl,rfl,dq.nil _ _,dq.nil _ _,dq.nil _ _⟩
section
variable {cf:dF} {kc:dM} {n j:Nat} {AL:List cF} {c:bW}
def bwj(ho:c.s.k.d.off=false)(a:Int):(c.gv cf kc (KF a)).1=(c.re a).1:=by
 have k7:(KF a).kind=7:=rfl;unfold bW.gv;rw[zzb (by rw[ho];rintro ⟨h,_⟩;cases h),zzb (by rw[k7];decide),zzb (by rw[k7];decide)];unfold bW.other;rw[zzb (by rw[k7];decide),zzb (by rw[k7];decide),zzb (by rw[k7];decide),zzb (by rw[k7];decide),zzd k7];rfl
def eG.cng(h:eG cf kc n j AL c):c.s.k.d.off=false:=by
 obtain⟨_,_,_,_,_,_,ha⟩:=h;exact ha.off
def bwk(ho:c.s.k.d.off=false):(c.gv cf kc (po 1)).1=(c.lG (po 1)).1:=by
 unfold bW.gv;rw[zzb (by rw[ho];rintro ⟨h,_⟩;cases h),zzd (show (po 1).kind=1 from rfl)]
def bw7(ho:c.s.k.d.off=true)(comp:Int):c.en kc comp=false:=by
 unfold bW.en;rw[zzd ho]
structure Y'(cf:dF)(kc:dM)(c x:bW):Prop where
 down:(x.look kc).down=false
 pos:(x.look kc).pos=(x.look kc).aw
 at_:(x.look kc).at_=(x.look kc).aw
 read:(x.look kc).read=0
 Aa:(x.look kc).Aa=0
 held:(x.look kc).held=0
 jV:(x.look kc).jV=cf.queue
 cB:(x.look kc).cB=0
 fL:(x.look kc).fL=0
 eI:(x.look kc).eI=0
 clock:(x.look kc).clock=c.now
 due:(x.look kc).due=c.now+cf.every
 aw:c.s.k.aw<=(x.look kc).aw
 head:c.head<=(x.look kc).head
 EP:(x.load cf).EP=0
 bZg:(x.load cf).read=0
 bZf:(x.load cf).Aa=0
 tail:(x.load cf).tail=false
 GK:(x.load cf).GK=(x.look kc).head-(x.look kc).aw
def mw.left(h:mw cf kc n j AL c)(hc:CC cf kc n)(hj:j<=190)(hd:c.head=AL.length)(keep:Ω):Y' cf kc c (c.ed cf keep):=by
 have gz:CS cf kc n j AL c:=.inr h;obtain⟨k1,k2,eT,hk⟩:=gz.ed hc hj keep;obtain⟨xs,hb⟩:=gz.l5;have xG:=hb.now;have fS:=hk.st;have nM:=fS.head;obtain⟨tr,cZ,mG,RS,RK,mF,sx⟩:=fS;have dW:=(J' hk.e2).2.2;have hle:AL.length<=eT.length:=by
  rcases hk.al with rfl|⟨x,rfl⟩
  ·exact zzj _
  rw[zza];omega
 rw[hk.is];refine⟨sx.off,rfl,rfl,rfl,rfl,rfl,?_,rfl,rfl,rfl,rfl,?_,hk.aw,?_,?_,rfl,rfl,?_,rfl⟩
 ·show ((kc.cap-0-0:Nat):Int)=cf.queue;rw[hc.queue];rfl
 ·show jf cf.every c.now=c.now+cf.every;unfold jf;omega
 ·show c.head<=(bW.start cf k1 k2 c.now).head;rw[nM,hd];omega
 ·show ((k2.plan.length:Nat):Int)=0;rw[dW];rfl
 show decide (k2.aw<k2.aw)=false;exact zz2 (by omega)
end
set_option maxHeartbeats 8000000 in
def Yo(H:bw)(c:dF)(v:Ε)(l:List gB)(a:Int)(kv:Ε)(keep:Ω)(hv:Ea H v l)(cH:∀s∈l,J5 s)(C7:dq H 1 kv keep.length (keep.map (Value.int .i64)))(mf:keep.length<=140737488351232):
  SP 4 [agg (l8 c),v,Γ a,kv] [.mem H] (λv post=>v= .bool true/\∃H' l,H.le H'/\post= .mem H'::l):=by
 refine Enzz λW F w hS=>?_;apply vc4;delta Pg aI a_ cL bY ve ai cT bI;obtain⟨xs,j7,UA,Ju⟩:=hv;refine zw hS λcb w hS=>?_;refine zA hS Xh rfl ?_;refine Cc (qk c) ?_;clear hS;rintro _ post ⟨rfl,rfl⟩ w hS;try simp only[app]at hS
 refine zr hS Xu rfl rfl (bFb _) λw hS=>?_;refine zA hS Xh rfl ?_;have hc:=aR8 c;generalize Cp c=cf at *
 generalize JI c=kc at *
 have h4:=h_ c.tables 4 (by decide);generalize hn:1+md c.tables 4=n at *
 refine Cc (Yt H hc) ?_;clear hS;rintro _ post ⟨p,H1,dj,rfl,rfl⟩ w hS;(try simp only[app]at hS);refine Gp ?_
 refine za (λh=>absurd rfl h) (λ_=>?_);refine Gp ?_;refine zp ?_;have IK:=hc.tables;have nf:=hc.n1;have C_:=hc.n8;have II:CS cf kc n 0 [] (wN cf n):=.inl (eG.first (kc:=kc) hc).2.2;have rB:dz (wN cf n).s.k.d:=⟨rfl,rfl⟩;generalize wN cf n=c0 at *
 have hS:SL W (.ob (cx p cf kc H1 c0)::.pt cb (vj cf) 23::.mem H1::F) w:=SL.b_ hS (t:=.ob (cx p cf kc H1 c0)::.pt cb (l8 cf) 23::.mem H1::F) Xi;refine⟨λus w=>∃(H2:bw) (q:ic) (cc:bW) (AL:List cF),us=[]/\H.le H2/\q.np=p.np/\CS cf kc n 60 AL cc/\dz cc.s.k.d/\SL W (.ob (cx q cf kc H2 cc)::.pt cb (vj cf) 23::.mem H2::F) w,?_,?_⟩
 ·refine⟨λus w=>∃(i:Nat) (H2:bw) (q:ic) (cc:bW) (AL:List cF),us=[Γ i]/\i<=60/\i<=l.length/\H.le H2/\q.np=p.np/\CS cf kc n i AL cc/\dz cc.s.k.d/\SL W (.ob (cx q cf kc H2 cc)::.pt cb (vj cf) 23::.mem H2::F) w,
   λus _=>match us with|[.int _ i]=>(l.length-i).toNat|_=>0,⟨0,H1,p,c0,[],rfl,by omega,by omega,dj,rfl,II,rB,hS⟩,?_⟩
  clear hS II rB dj;rintro v6 w ⟨i,H2,q,cc,AL,cP,hi,cz,e_,hq,gz,uH,hS⟩;cases cP;try simp only[app]at hS
  have gG:∃AL,CS cf kc n 60 AL cc:=by
   have:∀d j:Nat,j+d=60->CS cf kc n j AL cc->CS cf kc n 60 AL cc:=by
    intro d;induction d with
    | zero=>intro j e h;rw[show j=60 by omega]at h;exact h
    | succ d ih=>intro j e h;exact ih (j+1) (by omega) h.mono
   exact⟨AL,this (60-i) i (by omega) gz⟩
  obtain⟨Lc,gG⟩:=gG;refine zo UA ?_;refine Gp ?_;refine za (λha=>?_) (λha=>⟨H2,q,cc,Lc,rfl,e_,hq,gG,uH,aW hS⟩);refine Gp ?_;refine za (λhb=>?_) (λhb=>⟨H2,q,cc,Lc,rfl,e_,hq,gG,uH,aW hS⟩);clear gG;have FB:i<l.length:=by omega
  have mH:i<xs.length:=by omega
  have hx:=(Ju i FB mH).mono e_;have hs:=cH l[i] (zzh FB);have FP:xs[i]?=some xs[i]:=zzc mH;generalize hX:xs[i]=x at *
  generalize l[i]=s at *
  rw[<- hq];have rz:∀(w:Ζ) (H3:bw) (t:gB) (q2:ic) (H6:bw),H2.le H3->H3.le H6->t.kind≠7->q2.np=q.np->SL W (.ob (cx q2 cf kc H6 (cc.gv cf kc t).1)::.pt cb (vj cf) 23::.mem H6::F) w->∃(i':Nat) (H2:bw) (q':ic) (c':bW) (AL:List cF),[Γ ((i:Int)+1)]=[Γ i']/\i'<=60/\i'<=l.length/\H.le H2/\q'.np=q.np/\CS cf kc n i' AL c'/\dz c'.s.k.d/\SL W (.ob (cx q' cf kc H2 c')::.pt cb (vj cf) 23::.mem H2::F) w:=λw H3 t q2 H6 fE CM hk7 ja hS=>by
   obtain⟨sX,IJ,_⟩:=gz.gv hc (by omega) t;exact⟨i+1,H6,q2,_,sX,rfl,by omega,by omega,bw.le_trans e_ (bw.le_trans fE CM),ja,IJ,uH.gv gz hc (by omega) t hk7,hS⟩
  refine Gw λw hS=>?_;refine Yc (UA.mono e_) FB λeb eo hbc=>?_;have mZ:∀(i:Nat) (u:Ε),(jX x)[i]?=some u->H2.cell eb (eo+i)=some u:=λi u hu=>hbc i u (by have:=(zzf.1 hu).1;rw[AI]at this;exact this) (pP AI xs _ i x u FP hu);refine QU hS Xh (AI x) mZ ?_;refine Gp ?_;rw[IK];refine⟨?_,?_⟩
  ·refine Cc (Z5 H2 x s n hx nf C_ hs.sg hs.l hs.keep) ?_;clear hS;rintro _ post ⟨H3,y,t,fE,rfl,hy,ht,rfl⟩ w hS;try simp only[app]at hS
   refine Gm λsb w hS=>?_;refine zr (vs:=jX y) hS Xu (AI y) rfl (Xl hy) λw hS=>?_;have hS:=cx.je fE hS Xr;unfold jX at hS;rw[hy.kind,hy.n,hy.ft]at hS
   refine bZ (λk7=>?_) (λk7=>?_)
   ·have Jv:kL H3 ⟨t.kind,t.n,y.sv,y.cv,t.ft,y.kv⟩ t:=⟨rfl,rfl,rfl,hy.sv,hy.cv,hy.kv⟩;refine Gp ?_;refine Cc (zL q cf kc H3 cc gz hc (by omega) ⟨t.kind,t.n,y.sv,y.cv,t.ft,y.kv⟩ t Jv (by have:=ht.l;omega)) ?_;clear hS;rintro _ post ⟨rfl,q2,H6,CM,ja,rfl⟩ w hS;(try simp only[app]at hS);refine Gp ?_
    exact⟨rz w H3 t q2 H6 fE CM k7 ja (aW hS),by dsimp only;omega⟩
   refine Gp ?_;exact⟨⟨i+1,H3,q,cc,AL,rfl,by omega,by omega,bw.le_trans e_ fE,rfl,gz.mono,uH,aW hS⟩,by dsimp only;omega⟩
  refine Gm λsb w hS=>?_;refine QU hS Xh (AI x) mZ (Y3 ?_);refine Gp ?_;refine⟨by rw[IK],?_⟩;refine Cc (Z5 H2 x s n hx nf C_ hs.sg hs.l hs.keep) ?_;clear hS;rintro _ post ⟨H3,y,t,fE,rfl,hy,ht,rfl⟩ w hS;try simp only[app]at hS
  refine zr (vs:=jX y) hS Xu (AI y) rfl (Xl hy) λw hS=>?_;have hS:=cx.je fE hS Xr;unfold jX at hS;rw[hy.kind,hy.n,hy.ft]at hS
  refine bZ (λk7=>?_) (λk7=>?_)
  ·have Jv:kL H3 ⟨t.kind,t.n,y.sv,y.cv,t.ft,y.kv⟩ t:=⟨rfl,rfl,rfl,hy.sv,hy.cv,hy.kv⟩;refine Gp ?_;refine Cc (zL q cf kc H3 cc gz hc (by omega) ⟨t.kind,t.n,y.sv,y.cv,t.ft,y.kv⟩ t Jv (by have:=ht.l;omega)) ?_;clear hS;rintro _ post ⟨rfl,q2,H6,CM,ja,rfl⟩ w hS;(try simp only[app]at hS);refine Gp ?_
   exact⟨rz w H3 t q2 H6 fE CM k7 ja (aW hS),by dsimp only;omega⟩
  refine Gp ?_;exact⟨⟨i+1,H3,q,cc,AL,rfl,by omega,by omega,bw.le_trans e_ fE,rfl,gz.mono,uH,aW hS⟩,by dsimp only;omega⟩
 clear hS II rB dj;rintro w ⟨H2,q,cc,AL,-,e_,hq,gz,uH,hS⟩;rw[<- hq];have h2m:=h_ a 2 (by decide);refine Cg (ya a 2 (by decide) (by decide)) λw hS=>?_;refine Cc (zL q cf kc H2 cc gz hc (by decide) ⟨7,1+(md a 2:Int),Θ,Θ,iQ,Θ⟩ (KF (1+(md a 2:Int))) (KH H2 7 _ iQ) (by show 0<=_;omega)) ?_;clear hS;rintro _ post ⟨rfl,q2,H3,fE,ja,rfl⟩ w hS;try simp only[app]at hS
 obtain⟨hA,o7⟩:=gz.oh uH.off (a:=1+(md a 2:Int)) (by omega) (by omega);rw[bwj uH.off]at hS
 generalize (cc.re (1+(md a 2:Int))).1=c1 at *
 have oX:=bw.le_trans e_ fE;have vB:c1.s.k.d.arm=1\/c1.s.k.d.arm=2:=by omega
 rw[<- ja];refine⟨λus w=>∃(i:Nat) (H4:bw) (q':ic) (c2:bW) (sX:List cF),us=[Γ i]/\i<=5/\H.le H4/\q'.np=q2.np/\(i=0->eG cf kc n 61 sX c2/\(c2.s.k.d.arm=1\/c2.s.k.d.arm=2))/\(0<i->mw cf kc n (61+i) sX c2/\c2.head=sX.length)/\SL W (.ob (cx q' cf kc H4 c2)::.mem H4::.pt cb (vj cf) 23::F) w,
  λus _=>match us with|[.int _ i]=>(5-i).toNat|_=>0,⟨0,H3,q2,c1,AL,rfl,by omega,oX,rfl,λ_=>⟨hA,vB⟩,λh=>absurd h (by decide),hS⟩,?_⟩
 clear hS hA o7 vB gz uH;rintro _ w ⟨i,H4,q',c2,sX,cP,hi,xc,hq',ha,hb,hS⟩;cases cP;(try simp only[app]at hS);refine Gp ?_
 rw[<- hq'];refine za (λh5=>?_) (λh5=>?_)
 ·have IJ:CS cf kc n (61+i) sX c2:=by
   rcases yyu i with h0|h0
   ·subst h0;exact .inl (ha rfl).1
   exact .inr (hb h0).1
  refine Gp ?_;refine Cc (zL q' cf kc H4 c2 IJ hc (by omega) ⟨1,0,Θ,Θ,iQ,Θ⟩ (po 1) (KH H4 1 0 iQ) (by decide)) ?_;clear hS;rintro _ post ⟨rfl,q3,H5,CN,Df,rfl⟩ w hS;(try simp only[app]at hS);refine Gp ?_
  refine⟨⟨i+1,H5,q3,(c2.gv cf kc (po 1)).1,sX,rfl,by omega,bw.le_trans xc CN,Df,λh=>absurd h (by omega),λ_=>?_,aW hS⟩,by dsimp only;omega⟩;rcases yyu i with h0|h0
  ·subst h0;obtain⟨h1,h2⟩:=ha rfl;obtain⟨d1,d2,_⟩:=h1.die hc (by decide) h2;rw[bwk h1.cng];exact⟨d1,d2⟩
  obtain⟨d1,d2⟩:=hb h0;rw[Sl (po 1) d1.1 (by decide)];exact⟨d1.mono,d2⟩
 have hi5:i=5:=by omega
 subst hi5;obtain⟨hD,nM⟩:=hb (by decide);clear ha hb;have gT:=hD.1;have xt:CS cf kc n 66 sX c2:=.inr hD;refine Cc (HN xt (by decide) q' H4) ?_;clear hS;rintro _ post ⟨rfl,H5,CN,rfl⟩ w hS;try simp only[app]at hS
 refine Gm λlb w hS=>?_;refine zt (λh=>absurd (show c2.s.k.d.off=false from h) (by rw[gT];decide)) (λ_=>?_);have S8:=bw.le_trans xc CN;refine⟨λus w=>∃(k:Nat) (H6:bw) (q3:ic),us=[Γ k]/\k<=8/\H.le H6/\q3.np=q'.np/\SL W (.ob (cx q3 cf kc H6 c2)::.mem H6::.pt lb (wT (c2.look kc)) 39::.pt cb (vj cf) 23::F) w,
  λus _=>match us with|[.int _ k]=>(8-k).toNat|_=>0,⟨0,H5,q',rfl,by omega,S8,rfl,aW hS⟩,?_⟩
 clear hS xc CN S8;rintro _ w ⟨k,H6,q3,cP,hk,Ip,Df,hS⟩;cases cP;(try simp only[app]at hS);refine Gp ?_
 rw[<- Df];refine za (λh7=>?_) (λh7=>?_)
 ·refine Gn λw hS=>?_;refine Cc (zL q3 cf kc H6 c2 xt hc (by decide) ⟨k,1,Θ,Θ,⟨3,0⟩,Θ⟩ (Xk k) (KH H6 k 1 ⟨3,0⟩) (by show 0<=_;omega)) ?_;clear hS;rintro _ post ⟨rfl,q4,H7,S',Dg,rfl⟩ w hS;try simp only[app]at hS
  rw[Sl (Xk k) gT (by show (k:Int)≠8;omega)]at hS ⊢
  dsimp only at hS ⊢;refine QS (AN ⟨8,0,0⟩ ⟨8,0,0⟩ w) ?_;rw[zzm rfl];refine zp ?_;refine Gp ?_;rw[<- Dg];refine Cc (HN xt (by decide) q4 H7) ?_;clear hS;rintro _ post ⟨rfl,H8,vy,rfl⟩ w hS;(try simp only[app]at hS);refine Gp ?_
  refine QS (bFp _ _ w) ?_;rw[zzm rfl];refine zp ?_;refine Gp ?_;exact⟨⟨k+1,H8,q4,rfl,by omega,bw.le_trans Ip (bw.le_trans S' vy),rfl,aW hS⟩,by dsimp only;omega⟩
 clear h7 hk;refine⟨λus w=>∃(k:Nat) (H7:bw),us=[Γ k]/\k<=5/\H.le H7/\SL W (.ob (cx q3 cf kc H7 c2)::.mem H7::.pt lb (wT (c2.look kc)) 39::.pt cb (vj cf) 23::F) w,
  λus _=>match us with|[.int _ k]=>(5-k).toNat|_=>0,⟨0,H6,rfl,by omega,Ip,aW hS⟩,?_⟩
 clear hS Ip;rintro _ w ⟨k,H7,cP,hk,Iq,hS⟩;cases cP;(try simp only[app]at hS);refine bZ (λh8=>?_) (λh8=>?_)
 ·skip
  refine Cc (a_g xt (by decide) q3 H7 k) ?_;clear hS;rintro _ post ⟨rfl,H8,vy,rfl⟩ w hS;try simp only[app]at hS
  rw[bw7 gT];refine Gp ?_;exact⟨⟨k+1,H8,rfl,by omega,bw.le_trans Iq vy,aW hS⟩,by dsimp only;omega⟩
 clear h8 hk;refine Cc (YC H7 kv keep 30 (C7.mono Iq) (by decide) mf) ?_;clear hS;rintro u post ⟨H8,rs,vy,uJ,hR,rfl⟩ w hS;try simp only[app]at hS
 obtain⟨a1,n1,c1',rfl⟩:=hR.FZ;have hS:=cx.je vy hS Xr;have h08:=bw.le_trans Iq vy;refine Gp ?_;refine Cc (zL q3 cf kc H8 c2 xt hc (by decide) ⟨8,0,Θ,Θ,iQ,.slice a1 n1 c1'⟩ (KG rs) ⟨rfl,rfl,rfl,dq.nil _ _,dq.nil _ _,hR⟩ (by show 0<=_;omega)) ?_;clear hS;rintro _ post ⟨rfl,q4,H9,h89,Dg,rfl⟩ w hS;try simp only[app]at hS
 obtain⟨AL3,CW,_⟩:=xt.gv hc (by decide) (KG rs);have hL:=hD.left hc (by decide) nM rs;have hdc:c2.gv cf kc (KG rs)=(c2.ed cf rs,⟨0,0,0⟩):=Sk rfl;rw[hdc]at hS CW ⊢
 dsimp only at hS CW ⊢;generalize c2.ed cf rs=c3 at *
 refine Gp ?_;refine QS (AN ⟨0,0,0⟩ ⟨0,0,0⟩ w) ?_;rw[zzm rfl];refine zp ?_;rw[<- Dg];refine Cc (HN CW (by decide) q4 H9) ?_;clear hS;rintro _ post ⟨rfl,Z_,bRy,rfl⟩ w hS;try simp only[app]at hS
 refine Cc (a_h CW hc (by decide) q4 Z_) ?_;clear hS;rintro _ post ⟨rfl,H11,bRk,rfl⟩ w hS;try simp only[app]at hS
 have bRi:=bw.le_trans h08 (bw.le_trans h89 (bw.le_trans bRy bRk));obtain⟨x2,o8⟩:=xt.l5;obtain⟨x3,Fg⟩:=CW.l5;have xG:=o8.now;have he1:=hc.e1;have C1:=hc.e2;have vP:0<=(c3.look kc).aw/\(c3.look kc).aw<=1099511627776:=by rw[<- hL.pos];exact Fg.pos
 have hhe:0<=(c3.look kc).head/\(c3.look kc).head<=1099511627776:=⟨(sB Fg.sg.ok.bF).1,Fg.sg.hd⟩;refine Gb λxb w hS=>?_;refine Gb λyb w hS=>?_;refine Cg (YT) λw hS=>?_;refine zt (λ_=>?_) (λh=>absurd (h.symm.trans hL.down) (by decide));refine Gp ?_;refine za (λ_=>?_) (λh=>absurd hL.pos h);refine Gp ?_;refine za (λ_=>?_) (λh=>absurd hL.at_ h);refine Gp ?_;refine za (λ_=>?_) (λh=>absurd hL.read h);refine Gp ?_;refine za (λ_=>?_) (λh=>absurd hL.Aa h);refine Gp ?_;refine za (λ_=>?_) (λh=>absurd hL.held h);refine Gp ?_;refine za (λ_=>?_) (λh=>absurd hL.jV h);refine Gp ?_;refine za (λ_=>?_) (λh=>absurd hL.cB h);refine Gp ?_;refine za (λ_=>?_) (λh=>absurd hL.fL h);refine Gp ?_;refine za (λ_=>?_) (λh=>absurd hL.eI h);refine Gp ?_;refine za (λ_=>?_) (λh=>absurd hL.clock h);have hwc:(c2.look kc).clock=c2.now:=rfl;refine Gp ?_;refine za (λ_=>?_) (λh=>absurd (hL.due.trans (by rw[<- hwc])) h);refine Gp ?_;refine za (λ_=>?_) (λh=>absurd (show (c2.look kc).aw<=(c3.look kc).aw from hL.aw) h);refine Gp ?_;refine za (λ_=>?_) (λh=>absurd (show (c2.look kc).head<=(c3.look kc).head from hL.head) h);refine Gp ?_;refine za (λ_=>?_) (λh=>absurd hL.EP h);refine Gp ?_;refine za (λ_=>?_) (λh=>absurd hL.bZg h);refine Gp ?_;refine za (λ_=>?_) (λh=>absurd hL.bZf h);refine Gp ?_;refine zt (λ_=>?_) (λh=>absurd (h.symm.trans hL.tail) (by decide));refine Gp ?_;rw[zzm hL.GK];exact⟨_,⟨rfl,H11,[],bRi,rfl⟩,aW hS⟩
def cNu(c:dF)(l:List gB)(a:Int)(keep:Ω)(ok:∀s∈l,J5 s)(mf:keep.length<=140737488351232)(cs:Array Ε)(v kv:Ε)(w:Ζ)(hc:KP.rd w km c cs.toList)(hl:kX GI w km l v)(hk:kX (lB .i64) w km keep kv):
  Calls Tryz.prog 4 #[.agg cs,v,Γ a,kv] w λe w'=>e= .returned (.bool true)/\Below w.heap.size w w':=by
 obtain rfl:cs=(l8 c).toArray:=by rw[<- cCo hc]
 exact (qC (Yo (bw.of w) c v l a kv keep (Ea.of hl) ok hk.ints mf)).calls
