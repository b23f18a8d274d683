/- Part of the proof. -/
import Derived.Test.YtmkllimamejcgaaGreatJ13
import Derived.Test.YtmkllimamejcgaaGreatRows
namespace Go.Proofs.YtmkllimamejcgaaGreat
set_option linter.all false
def Tryz.own:ownKnob Tryz.prog.godebug=none:=by kernel_rfl
def Tryz.laidOut:laidOutB Tryz.prog=true:=by kernel_rfl
set_option maxRecDepth 100000
open Go.ChangeShapes Go.WideShapes Go.ChangeAt Go.RowKit
def ly.aIz{α:Type}{T:ik α}{w:Ζ}{xs:List α}{v:Ε}(h:ly T w kF xs v)(hT:0<T.n):
  ∃u9:List (Ξ),u9.length=xs.length/\dx (bw.of w) T.n v xs.length u9.flatten/\∀i (h:i<xs.length) (h':i<u9.length),T.rd w kF xs[i] u9[i]:=by
 obtain⟨a,cap,rfl,hc,hx⟩:=h.out;have hex:∀i,∃cs:Ξ,cs.length=T.n/\∀h:i<xs.length,T.rd w kF xs[i] cs/\∃b off,a=some ⟨b,off,none⟩/\At w kF b (off+i*T.n) cs:=λi=>by
  by_cases hi:i<xs.length
  ·obtain⟨b,off,cs,ha,hr,ib⟩:=hx i hi;exact⟨cs,T.len hr,λ_=>⟨hr,b,off,ha,ib⟩⟩
  exact⟨List.replicate T.n undef,by simp,λh=>absurd h hi⟩
 obtain⟨f,hf⟩:=Classical.axiomOfChoice hex;have hlen:∀x∈(List.range xs.length).map f,x.length=T.n:=λx hx=>by
  obtain⟨i,_,rfl⟩:=zzv.1 hx;exact (hf i).1
 have mT:((List.range xs.length).map f).flatten.length=xs.length*T.n:=by rw[HS (n:=T.n) _ hlen];simp
 refine⟨(List.range xs.length).map f,by simp,⟨mT,a,cap,rfl,hc,?_⟩,λi hi xe=>?_⟩
 ·rcases yy8 xs.length with h0|h0
  ·exact .inl h0
  right;obtain⟨_,b,off,rfl,_⟩:=(hf 0).2 h0;refine⟨b,off,rfl,λj u hu=>?_⟩;have hj:=(zzj.1 hu).1;rw[mT]at hj
  have hi:j / T.n<xs.length:=(uuo hT).2 hj;obtain⟨_,b',bZx,pJ,ib⟩:=(hf (j / T.n)).2 hi;simp at pJ;obtain⟨rfl,rfl⟩:=pJ;have xp:j % T.n<(f (j / T.n)).length:=by rw[(hf _).1];exact vvi _ hT
  have hg:=EG (n:=T.n) ((List.range xs.length).map f) hlen (j / T.n) (j % T.n) (by simpa using hi) ((f (j / T.n))[j % T.n]'xp) (by simp[zzd xp]);have It:j / T.n*T.n+j % T.n=j:=by rw[Nat.mul_comm];exact vv8 j T.n
  rw[It,hu]at hg
  have Ja:u=(f (j / T.n))[j % T.n]:=xx5 hg;have:=ib.2 (j % T.n) u (by rw[Ja];exact zzd xp);rw[show off+j / T.n*T.n+j % T.n=off+j by omega]at this
  unfold World.cell? at this;unfold bw.cell bw.of;simp only at this ⊢;split at this
  ·rename_i c t f l7;rw[l7];simpa using this
  cases this
 simpa using ((hf i).2 hi).1
def Gj:ik eh:=(j9 (lP .i64) (j9 (lP .i64) (j9 Xf (j9 DJ Bx)))).via λo=>(o.table,o.key,o.gone,o.val,())
def cBc{w:Ζ}{M:MS}{o:eh}{cs:Ξ}(h:Gj.rd w M o cs):cs=fN o:=by
 obtain⟨c1,c2,rfl,h1,c3,c4,rfl,h3,c5,c6,rfl,h5,c7,c8,rfl,h7,h8⟩:=h;have wR:c1=[Γ o.table]:=h1;have uj:c3=[Γ o.key]:=h3;have Cu:c5=[.bool o.gone]:=h5;have Cv:c7=[.string o.val]:=h7;have h8':c8=[]:=h8;subst wR uj Cu Cv h8';rfl
def bZ1(c:eh):Prop:=FE .i64 c.key
def aI7:mI Tryz.prog 56 Gj bZ1:=
 Zk (y1 (λo:eh=>(o.table,o.key,o.gone,o.val,())) (λx=>⟨x.1,x.2.1,x.2.2.1,x.2.2.2.1⟩) (λ_=>rfl)
  (yq Tryz.underlying56 (by kernel_rfl) (kJ (zB yyc (by kernel_rfl)) rfl (kJ (zB yyv (by kernel_rfl)) rfl (kJ (QG vve (by kernel_rfl)) rfl (kJ (YH yy1 (by kernel_rfl)) rfl (EB _ _))))))) (λo h=>h.2.1)
def SA{α:Type}(f:α->Ε):∀l:List α,(l.map λx=>[f x]).flatten=l.map f
 | []=>rfl
 | x::l=>by simp only[zzo,zz5,SA f l];rfl
def ly.ints{k:IntKind}{w:Ζ}{l:Ω}{v:Ε}(h:ly (lP k) w kF l v):dx (bw.of w) 1 v l.length (l.map (Value.int k)):=by
 have h2:=h.flat (enc:=λx=>[.int k x]) (λh=>h) (λ_=>rfl);rw[SA]at h2
 exact h2
def Kw:ik fQ:=(j9 (lP .i64) (j9 (lP .i64) Bx)).via λf=>(f.kind,f.keep,())
def cBd{w:Ζ}{M:MS}{f:fQ}{cs:Ξ}(h:Kw.rd w M f cs):cs=iJ f:=by
 obtain⟨c1,c2,rfl,h1,c3,c4,rfl,h3,h4⟩:=h;have wR:c1=[Γ f.kind]:=h1;have uj:c3=[Γ f.keep]:=h3;have h4':c4=[]:=h4;subst wR uj h4';rfl
def VR(f:fQ):Prop:=lg f.kind/\lg f.keep
def bFn:mI Tryz.prog 33 Kw VR:=
 Zk (y1 (λf:fQ=>(f.kind,f.keep,())) (λx=>⟨x.1,x.2.1⟩) (λ_=>rfl)
  (yq Tryz.underlying33 (by kernel_rfl) (kJ (zB yyc (by kernel_rfl)) rfl (kJ (zB yyc (by kernel_rfl)) rfl (EB _ _)))))
  (λf h=>⟨De h.1,De h.2.1⟩)
def Kv:ik dI:=(j9 (lP .i64) (j9 (lP .i64) (j9 (lP .i64) (j9 (lP .i64) (j9 (lP .i64) (j9 (lP .i64) (j9 (lP .i64) (j9 (lP .i64) (j9 (lP .i64) (j9 (lP .i64) Bx)))))))))).via λc=>(c.tables,c.late,c.size,c.queue,c.chunk,c.batch,c.base,c.cJ,c.sy,c.every,())
def cBb{w:Ζ}{M:MS}{c:dI}{cs:Ξ}(h:Kv.rd w M c cs):cs=lY c:=by
 obtain⟨c1,c2,rfl,h1,c3,c4,rfl,h3,c5,c6,rfl,h5,c7,c8,rfl,h7,c9,c10,rfl,h9,Hp,B7,rfl,AB,c13,c14,rfl,EK,c15,c16,rfl,h15,c17,c18,rfl,h17,c19,c20,rfl,h19,h20⟩:=h;have wR:c1=[Γ c.tables]:=h1;have uj:c3=[Γ c.late]:=h3;have Cu:c5=[Γ c.size]:=h5;have Cv:c7=[Γ c.queue]:=h7;have Ia:c9=[Γ c.chunk]:=h9;have HY:Hp=[Γ c.batch]:=AB;have bIb:c13=[Γ c.base]:=EK;have bId:c15=[Γ c.cJ]:=h15;have bIf:c17=[Γ c.sy]:=h17;have bIh:c19=[Γ c.every]:=h19;have bIj:c20=[]:=h20;subst wR uj Cu Cv Ia HY bIb bId bIf bIh bIj;rfl
def bZ0(c:dI):Prop:=True
def cMd:mI Tryz.prog 23 Kv bZ0:=
 Zk (y1 (λc:dI=>(c.tables,c.late,c.size,c.queue,c.chunk,c.batch,c.base,c.cJ,c.sy,c.every,())) (λx=>⟨x.1,x.2.1,x.2.2.1,x.2.2.2.1,x.2.2.2.2.1,x.2.2.2.2.2.1,x.2.2.2.2.2.2.1,x.2.2.2.2.2.2.2.1,x.2.2.2.2.2.2.2.2.1,x.2.2.2.2.2.2.2.2.2.1⟩) (λ_=>rfl)
  (yq Tryz.underlying23 (by kernel_rfl) (kJ (zB yyc (by kernel_rfl)) rfl (kJ (zB yyc (by kernel_rfl)) rfl (kJ (zB yyc (by kernel_rfl)) rfl (kJ (zB yyc (by kernel_rfl)) rfl (kJ (zB yyc (by kernel_rfl)) rfl (kJ (zB yyc (by kernel_rfl)) rfl
   (kJ (zB yyv (by kernel_rfl)) rfl (kJ (zB yyv (by kernel_rfl)) rfl (kJ (zB yyv (by kernel_rfl)) rfl (kJ (zB yyv (by kernel_rfl)) rfl (EB _ _)))))))))))))
  (λc h=>trivial)
def cAy{w:Ζ}{l:Ψ}{v:Ε}(h:ly DJ w kF l v):dx (bw.of w) 1 v l.length (l.map Value.string):=by
 have:=h.flat (enc:=λs=>[.string s]) (λh=>h) (λ_=>rfl);rw[VU]at this
 exact this
def Gl:ik g_:=(j9 (lP .i64) (j9 (lP .i64) (j9 (Gk DJ) (j9 (Gk Gj) (j9 Kw (j9 (Gk (lP .i64)) Bx)))))).via λo=>(o.kind,o.n,o.sg,o.l,o.ft,o.keep,())
def cBe{w:Ζ}{o:g_}{cs:Ξ}(h:Gl.rd w kF o cs):∃x:nu,cs=jU x/\kT (bw.of w) x o:=by
 obtain⟨c1,c2,rfl,h1,c3,c4,rfl,h3,c5,c6,rfl,h5,c7,c8,rfl,h7,c9,c10,rfl,h9,Hp,B7,rfl,AB,dQ⟩:=h;have wR:c1=[Γ o.kind]:=h1;have uj:c3=[Γ o.n]:=h3;obtain⟨sv,Cu,A3⟩:∃v,c5=[v]/\ly DJ w kF o.sg v:=h5;obtain⟨cv,Cv,sm⟩:∃v,c7=[v]/\ly Gj w kF o.l v:=h7;have Ia:=cBd h9;obtain⟨kv,HY,IH⟩:∃v,Hp=[v]/\ly (lP .i64) w kF o.keep v:=AB;have bIa:B7=[]:=dQ;subst wR uj Cu Cv Ia HY bIa;exact⟨⟨o.kind,o.n,sv,cv,o.ft,kv⟩,rfl,rfl,rfl,rfl,cAy A3,sm.flat cBc (λ_=>rfl),IH.ints⟩
def D0.of{w:Ζ}{l:List g_}{v:Ε}(h:ly Gl w kF l v):D0 (bw.of w) v l:=by
 obtain⟨u9,h1,h2,h3⟩:=ly.aIz h (by decide);have hex:∀i,∃x:nu,∀(h:i<l.length) (h':i<u9.length),u9[i]=jU x/\kT (bw.of w) x l[i]:=λi=>by
  by_cases hi:i<l.length
  ·obtain⟨x,e,hx⟩:=cBe (h3 i hi (by omega));exact⟨x,λ_ _=>⟨e,hx⟩⟩
  exact⟨⟨0,0,Θ,Θ,⟨0,0⟩,Θ⟩,λh=>absurd h hi⟩
 obtain⟨f,hf⟩:=Classical.axiomOfChoice hex;refine⟨(List.range l.length).map f,by simp,?_,λi hi xe=>by simpa using (hf i hi (by omega)).2⟩;have e:u9=((List.range l.length).map f).map jU:=xxp (by simp[h1]) λi g1 g2=>by simpa using (hf i (by omega) g1).1
 rw[e]at h2
 exact h2
structure JQ(s:g_):Prop where
 kind:lg s.kind
 n:lg s.n
 sg:s.sg.length<=140737488351232
 l:s.l.length<=140737488351232
 ch:∀c∈s.l,lg c.key
 ft:VR s.ft
 keep:s.keep.length<=140737488351232
def cNz:mI Tryz.prog 36 Gl JQ:=
 Zk (y1 (λo:g_=>(o.kind,o.n,o.sg,o.l,o.ft,o.keep,())) (λx=>⟨x.1,x.2.1,x.2.2.1,x.2.2.2.1,x.2.2.2.2.1,x.2.2.2.2.2.1⟩) (λ_=>rfl)
  (yq Tryz.underlying36 (by kernel_rfl) (kJ (zB yyc (by kernel_rfl)) rfl (kJ (zB yyv (by kernel_rfl)) rfl
   (kJ (JY (b:=16) (YH yy1 (by kernel_rfl)) Tryz.underlying30 (by kernel_rfl) (by kernel_rfl) (by decide)) rfl
    (kJ (JY (b:=40) aI7 Tryz.underlying31 (by kernel_rfl) (by kernel_rfl) (by decide)) rfl
     (kJ bFn rfl (kJ (JY (b:=8) (zB yyc (by kernel_rfl)) Tryz.underlying34 (by kernel_rfl) (by kernel_rfl) (by decide)) rfl (EB _ _)))))))))
  (λo h=>by
   have h3:=h.2.2.1;have h4:=h.2.2.2.1;have h6:=h.2.2.2.2.2.1;exact⟨De h.1,De h.2.1,by have:=h3.1;simp only at this;omega,by have:=h4.1;simp only at this;omega,λc hc=>De (h4.2 c hc),h.2.2.2.2.1,by have:=h6.1;simp only at this;omega⟩)
def Js(c:dI):dU:=⟨1+md c.queue 5,1+md c.batch 4,1+(md c.base 4:Int),1+(md c.base 4:Int)+(md c.cJ 12:Int),(md c.sy 4:Int)⟩
def aIu(c:dI):CC (B8 c) (Js c) (1+md c.tables 4):=by
 have h1:=ie c.tables 4 (by decide);have h2:=ie c.size 4 (by decide);have h3:=ie c.chunk 4 (by decide);have h4:=ie c.queue 5 (by decide);have h5:=ie c.batch 4 (by decide);have h6:=ie c.base 4 (by decide);have h7:=ie c.cJ 12 (by decide);have h8:=ie c.sy 4 (by decide);have h9:=ie c.every 8 (by decide);have hp:0<2 ^ (1+md c.tables 4):=Nat.pow_pos (by decide);have vm:=ie c.late (2 ^ (1+md c.tables 4)) hp;have hs:=aI3 h2;refine⟨by omega,by omega,by show (1:Int)+(md c.tables 4:Int)=((1+md c.tables 4:Nat):Int);omega,by show (0:Int)<=(md c.late (2 ^ (1+md c.tables 4)):Int);omega,?_,hs.1,by show t_ (md c.size 4)<=_;omega,by show 1+(md c.queue 5:Int)=((1+md c.queue 5:Nat):Int);omega,by show 1<=1+md c.queue 5;omega,by show 1+md c.queue 5<=64;omega,by show (1:Int)<=1+(md c.chunk 4:Int);omega,by show 1+(md c.chunk 4:Int)<=64;omega,by show 1+(md c.batch 4:Int)=((1+md c.batch 4:Nat):Int);omega,by show 1<=1+md c.batch 4;omega,by show 1+md c.batch 4<=64;omega,rfl,rfl,rfl,?_,by show (1:Int)<=1+(md c.every 8:Int);omega,by show 1+(md c.every 8:Int)<=1073741824;omega⟩
 ·show (md c.late (2 ^ (1+md c.tables 4)):Int)<2 ^ (1+md c.tables 4);have:((2 ^ (1+md c.tables 4):Nat):Int)=(2:Int) ^ (1+md c.tables 4):=by simp
  omega
 unfold p2 Js;dsimp only;omega
abbrev wz(cf:dI):Ξ:=[Γ cf.tables,Γ cf.late,Γ cf.size,Γ cf.queue,Γ cf.chunk,Γ cf.batch,Γ cf.base,Γ cf.cJ,Γ cf.sy,Γ cf.every]
section
variable {cf:dI} {kc:dU} {n j:Nat} {AL:List cH} {c:bW}
def RE(h:CS cf kc n j AL c)(hj:j<=190)(p:iO)(H:bw):SP 10 [cF p.np] [.ob (cz p cf kc H c),.mem H] (BF p cf kc H c (agg (Aq (c.look kc)))):=by
 obtain⟨xs,hb⟩:=h.mL;have hv:=xP j;exact q9 p cf kc H c hb.sg (by omega) hb.wt.room (by have:=hb.mx.cB.len;omega)
end
def W_{H:bw}{y:nu}{t:g_}(hy:kT H y t):∀u∈jU y,u.oneCell'=true:=by
 intro u hu;simp only[jU,zz8,xxj,vvw]at hu;rcases hu with rfl|rfl|rfl|rfl|rfl|rfl|rfl
 ·rfl
 ·rfl
 ·exact hy.sv.one
 ·exact hy.cv.one
 ·rfl
 ·rfl
 exact hy.kv.one
open Go.RowKit
section
variable {cf:dI} {kc:dU} {n j:Nat} {AL:List cH} {c:bW}
def VN{d:DS}{f:Int}(h:d.off=true):may d f=8:=by unfold may;rw[zzc h]
def FV{d:DS}{f:Int}(h:d.off=true):d.find f=8:=by unfold DS.find;rw[VN h,zzc (by decide)]
def a_k{d:DS}{f:Int}{b:Φ}(h:(d.append f b).1.off=true):(d.append f b).2=8:=by
 unfold DS.append at *
 split
 ·rename_i hm;rw[zzc hm]at h
  exact VN h
 rename_i hm;rw[zzb hm]at h
 have h:d.cE.off=true:=h;unfold DS.err;rw[zzc h]
def a_m{d:DS}{f:Int}(h:(d.sync f).1.off=true):(d.sync f).2=8:=by
 unfold DS.sync at *
 split
 ·rename_i hm;rw[zzc hm]at h
  exact FV h
 split
 ·rfl
 rename_i h1 h2;rw[zzb h1,zzb h2]at h
 exact absurd h h2
def a_l{d:DS}{f n:Int}(h:(d.cut f n).1.off=true):(d.cut f n).2=8:=by
 unfold DS.cut at *
 split
 ·rename_i hm;rw[zzc hm]at h
  exact FV h
 split
 ·rename_i h1 h2;rw[zzb h1,zzc h2]at h
  exact absurd (FV (f:=f) h) (λe=>h1 (by rw[e];decide))
 split
 ·rfl
 rename_i h1 h2 h3;rw[zzb h1,zzb h2,zzb h3]at h
 exact absurd h h3
def R_{d:DS}{f:Int}(h:(d.remove f).1.off=true):(d.remove f).2=8:=by
 unfold DS.remove at *
 split
 ·rename_i hm;rw[zzc hm]at h
  exact FV h
 split
 ·rfl
 rename_i h1 h2;rw[zzb h1,zzb h2]at h
 exact absurd h h2
def Sa:∀(L:List da) {d:DS} (n:Int),d.off=false->(gE L d n).1.2.off=true->(gE L d n).2=8
 | [],d,n,h0,h=>by rw[show (gE [] d n).1.2=d from rfl,h0]at h;cases h
 | [s],d,n,h0,h=>by rw[show (gE [s] d n).1.2=d from rfl,h0]at h;cases h
 | s::t::r,d,n,h0,h=>by
  unfold gE at *
  split
  ·rename_i h1;rw[zzc h1]at h
   split
   ·rename_i h2;rw[zzc h2]at h
    exact R_ h
   rename_i h2;rw[zzb h2]at h
   refine Sa (t::r) n ?_ h;cases ho:(d.remove s.file).1.off with
   | false=>rfl
   | true=>exact absurd (R_ ho) (by omega)
  rename_i h1;rw[zzb h1,h0]at h
  cases h
def a_n{g:cU}{d:DS}{n:Int}(h:(gR g d n).1.2.off=true):(gR g d n).2=8:=by
 unfold gR at *
 split
 ·rfl
 rename_i h0;rw[zzb h0]at h
 exact Sa _ _ (by simpa using h0) h
def R9{d:DS}{f:Int}{b:Φ}(h0:d.off=false)(h:(jK d f b).1.off=true):(jK d f b).2=8:=by
 unfold jK at *
 have hc:(if 0<=gf d.R f then d.cut f 0 else (d,0)).1.off=true->(if 0<=gf d.R f then d.cut f 0 else (d,0)).2=8:=by
  split
  ·exact a_l
  intro h1;rw[h0]at h1;cases h1
 generalize (if 0<=gf d.R f then d.cut f 0 else (d,0))=c at *
 dsimp only at h ⊢;split
 ·rename_i h1;rw[zzc h1]at h
  exact hc h
 split
 ·rename_i h1 h2;rw[zzb h1,zzc h2]at h
  exact a_k h
 rename_i h1 h2;rw[zzb h1,zzb h2]at h
 exact a_m h
def a_o{k:cQ}{n:Int}(h0:k.d.off=false)(h:(k.gY n).1.d.off=true):(k.gY n).2=8:=by
 unfold cQ.gY at *
 split
 ·rename_i h1;rw[zzc h1,h0]at h;cases h
 split
 ·rfl
 rename_i h1 h2;rw[zzb h1,zzb h2]at h
 have hr:(if k.image<n then k.h_ else (k,0)).1.d.off=true->(if k.image<n then k.h_ else (k,0)).2=8:=by
  split
  ·unfold cQ.h_;dsimp only;split
   ·rename_i h3;intro h4;exact absurd (R9 h0 h4) (by omega)
   intro h4;exact R9 h0 h4
  intro h4;rw[h0]at h4;cases h4
 generalize (if k.image<n then k.h_ else (k,0))=r at *
 dsimp only at h ⊢;split
 ·rename_i h3;rw[zzc h3]at h
  exact hr h
 rename_i h3;rw[zzb h3]at h
 exact a_n h
def CS.refused(hs:CS cf kc n j AL c)(hc:CC cf kc n)(hj:j<=190)(s:g_)(he:(c.gH cf kc s).2.err=1\/(c.gH cf kc s).2.err=7):
  (c.gH cf kc s).2.aw=0/\(c.gH cf kc s).2.jJ=0/\((c.gH cf kc s).1=c\/(c.gH cf kc s).1=c.jr c.src):=by
 unfold bW.gH at *
 split
 ·exact⟨rfl,rfl,.inl rfl⟩
 rename_i iu;rw[zzb iu]at he
 by_cases k8:s.kind=8
 ·rw[zzb (by omega),zzb (by omega)]at he
  unfold bW.other at he;rw[zzb (by omega),zzb (by omega),zzb (by omega),zzb (by omega),zzb (by omega),zzc k8]at he
  simp only at he;omega
 have ho:c.s.k.d.off=false:=by
  cases hq:c.s.k.d.off with
  | false=>rfl
  | true=>exact absurd ⟨hq,k8⟩ iu
 have hA:=hs.on ho;split
 ·rename_i h1;rw[zzc h1]at he
  rcases hA.nX hc hj s with ⟨x,_,e⟩|⟨_,e⟩|e|e
  ·rw[e]at he;simp only at he;omega
  ·rw[e]at he;simp only at he;omega
  ·unfold bW.nX;rw[e];exact⟨rfl,rfl,.inr rfl⟩
  unfold bW.nX;rw[e];exact⟨rfl,rfl,.inr rfl⟩
 rename_i h1;rw[zzb h1]at he
 split
 ·rename_i h2;rw[zzc h2]at he
  by_cases hr:s.n<0\/5<=s.n
  ·unfold bW.pick;rw[zzc hr];exact⟨rfl,rfl,.inl rfl⟩
  rcases hA.b_w hc hj (comp:=s.n) (by omega) (by omega) with ⟨_,e⟩|⟨_,⟨jJ,e,_⟩|e⟩
  ·rw[e]at he;simp only at he;omega
  ·rw[e]at he;simp only at he;omega
  rw[e]at he;simp only at he;omega
 rename_i h2;rw[zzb h2]at he
 refine⟨rfl,rfl,?_⟩;have he:(c.other cf s).2=1\/(c.other cf s).2=7:=he;show (c.other cf s).1=c\/(c.other cf s).1=c.jr c.src;unfold bW.other at *
 split
 ·rename_i h3;rw[zzc h3]at he
  unfold bW.fault at *
  split
  ·exact .inl rfl
  split
  ·exact .inl rfl
  rename_i a b;rw[zzb a,zzb b]at he;simp only at he;omega
 rename_i h3;rw[zzb h3]at he
 split
 ·rename_i h4;rw[zzc h4]at he
  unfold bW.tick at *
  split
  ·exact .inl rfl
  split
  ·exact .inl rfl
  rename_i a b;rw[zzb a,zzb b]at he;simp only at he;omega
 rename_i h4;rw[zzb h4]at he
 split
 ·rename_i h5;rw[zzc h5]at he
  unfold bW.drawn at *
  split
  ·exact .inl rfl
  split
  ·exact .inl rfl
  rename_i a b;rw[zzb a,zzb b]at he;simp only at he;omega
 rename_i h5;rw[zzb h5]at he
 split
 ·rename_i h6;rw[zzc h6]at he
  rcases hA.trim hc hj with ⟨e,_⟩|⟨_,hD⟩
  ·omega
  have:c.trim.2=8:=a_o (k:=c.src) ho hD.1;omega
 rename_i h6;rw[zzb h6]at he
 split
 ·rename_i h7;rw[zzc h7]at he
  unfold bW.tW at *
  split
  ·exact .inl rfl
  rename_i a;rw[zzb a]at he;simp only at he;omega
 exact .inl rfl
end
set_option maxRecDepth 100000
def kQ(l:Ω):Int:=l.foldl (· + ·) 0
def Ku(l:Ω)(x:Int):kQ (l++[x])=kQ l+x:=by simp[kQ,wws]
def Gi{B:Int}(hB:0<=B):∀(l:Ω),(∀x∈l,0<=x/\x<=B)->0<=kQ l/\kQ l<=B*l.length:=by
 intro l
 suffices h:∀(l:Ω) (a:Int),(∀x∈l,0<=x/\x<=B)->a<=l.foldl (· + ·) a/\l.foldl (· + ·) a<=a+B*l.length by
  intro hl;have:=h l 0 hl;unfold kQ;omega
 intro l;induction l with
 | nil=>intro a _;simp
 | cons x l ih=>
  intro a hl;have h1:=ih (a+x) λy hy=>hl y (.tail _ hy);have h2:=hl x (.head _);rw[xx4,zzh];have e:B*((l.length+1:Nat):Int)=B*(l.length:Int)+B:=by rw[Int.natCast_add,Int.mul_add];simp
  rw[e];omega
def bW.chunks(cf:dI)(c:bW)(t:Int):Int:=((gX c.k.ts t).length:Int) / cf.chunk+2
def bW.oH(cf:dI)(c:bW)(s:Η):Int:=match xU s with
 | none=>0
 | some g=>if g.1<cf.tables then c.chunks cf g.1 else 0
def bW.asked(cf:dI)(c:bW)(sg:Ψ):Int:=kQ (sg.map (c.oH cf))
def bW.mi(c:bW)(aw:Int):Ψ:=match c.k.gP aw with
 | .ok t=>t.signals
 | .error _=>[]
structure DY where
 cCo:Int
 read:Int
 Kb:Int
 tail:Bool
 chunks:Int
 bwr:Int
 wait:Int
deriving DecidableEq
def Ap(l:DY):Ξ:=[Γ l.cCo,Γ l.read,Γ l.Kb,.bool l.tail,Γ l.chunks,Γ l.bwr,Γ l.wait]
def bW.xH(cf:dI)(c:bW):Ω:=(iS c.m.reqs).map λr=>c.chunks cf r.table
def bW.bXa(cf:dI)(c:bW):Ω:=(List.range (c.head-c.m.at_).toNat).map λi:Nat=>c.asked cf (c.mi (c.m.at_+1+(i:Int)))
def bW.load(cf:dI)(c:bW):DY:=
 ⟨c.head-c.pos,c.q.length,(c.s.L.length:Int)+c.s.out,decide (c.last<c.m.at_),kQ (c.xH cf)+kQ (c.bXa cf),c.s.k.plan.length,max (c.s.eK-c.now) 0⟩
def El{cf:dI}{kc:dU}{n:Nat}(hc:CC cf kc n){c:bW}(hl:∀C∈c.k.ts,C.length<=1000)(t:Int):2<=c.chunks cf t/\c.chunks cf t<=1002:=by
 have h1:(gX c.k.ts t).length<=1000:=by
  unfold gX;split
  ·exact zz4 _
  cases h:c.k.ts[t.toNat]? with
  | none=>exact zz4 _
  | some C=>exact hl C (yy9 h)
 have h2:=hc.c1;unfold bW.chunks;have h3:((gX c.k.ts t).length:Int) / cf.chunk<=(gX c.k.ts t).length:=Int.ediv_le_self _ (by omega);have h4:0<=((gX c.k.ts t).length:Int) / cf.chunk:=Int.ediv_nonneg (by omega) (by omega);omega
def P4{cf:dI}{kc:dU}{n:Nat}(hc:CC cf kc n){c:bW}(hl:∀C∈c.k.ts,C.length<=1000)(s:Η):0<=c.oH cf s/\c.oH cf s<=1002:=by
 unfold bW.oH;split
 ·omega
 split
 ·have:=El hc hl (t:=‹Int × Int›.1);omega
 omega
section
variable (sp:Nat) (ts:List (List Row))
def cB8(t:Int):SP 123 [cF sp,Γ t] [.ob (dL sp ts)] (cC (Γ ((gX ts t).length:Nat)) [.ob (dL sp ts)]):=by
 refine Enzz λW F w hS=>?_;apply cDn;delta Lw bU a_ cL ai;refine Cg (yt sp ts t) λw hS=>?_;refine zu (λh=>?_) (λh=>?_)
 ·rw[DL (yyw h)];exact⟨_,⟨rfl,rfl⟩,hS⟩
 obtain⟨h0,h1⟩:=zzm h;obtain⟨t,rfl⟩:∃n:Nat,t=n:=⟨t.toNat,by omega⟩;have ht:t<ts.length:=by omega
 rw[nR ts t ht];obtain⟨v,L,hL,hS⟩:=dL.iff.1 hS;obtain⟨b,hb⟩:=xV hL ht;have hl:=tN hL;refine Gp ?_;refine yh hS Xh vd hb (by omega) (i:=0) rfl ?_;have hS:=ze.take (SL.bZ hS (t:=.ob (ze ed L)::.pt sp [v] 241::jt v L::F) Xi) hb;refine Cc (Yy b ts[t]) ?_;clear hS;rintro _ post ⟨rfl,rfl⟩ w hS;try simp only[app]at hS
 have hS:=ze.back (SL.bZ hS (t:=.ob (ed (b,ts[t]))::.ob (ze ed (L.eraseIdx t))::.pt sp [v] 241::jt v L::F) Xi) hb;exact⟨_,⟨rfl,rfl⟩,SL.bZ (dL.put hL hS Xp) Xi⟩
end
section
variable (p:iO) (cf:dI) (kc:dU) (H:bw) (c:bW)
def Zi{n:Nat}(hc:CC cf kc n)(hl:∀C∈c.k.ts,C.length<=1000)(t:Int):SP 76 [cF p.np,Γ t] [.ob (cz p cf kc H c)] (cC (Γ (c.chunks cf t)) [.ob (cz p cf kc H c)]):=by
 refine Enzz λW F w hS=>?_;apply cKf;delta Pw bU a_ aR bV ai;obtain⟨dv,hS⟩:=cz.open hS Xr;have hS:=df.iff.1 (SL.bZ hS (t:=.ob (df p.sp p.tp p.w.dp p.sl c.k)::.pt p.np (sE p cf c.pos dv) 84::sN dv c.dy::.ob (dt p.w kc H c.s)::.ob (cW p.mp p.wi H c.m)::.pt p.sn (ji p.sp p.mp p.wi p.dg cf.chunk) 208::.ob (fq p.dg c.dr)::.ob (Ring p.rb kc.cap (c.q.map jR))::.ob (iq p.ck [] c.now)::jb p.bp cf.every c.due c.last::F) Xi);refine Gn λw hS=>?_;refine Cg (cB8 p.tp c.k.ts t) λw hS=>?_;have h1:=El hc hl t;unfold bW.chunks at h1;have gB:=hc.c1;refine Kl (by omega) (by rw[xxv (by omega)];omega) ?_;rw[xxv (by omega)];refine Gp ?_;have hS:=df.put c.k hS Xp;have hS:=cz.put c hS Xp;exact cA hS
def Qv(g b out:Nat):SP 53 [Δ g] [.pt g [Δ b,Γ out] 125] (cC (Γ out) [.pt g [Δ b,Γ out] 125]):=by
 refine Enzz λW F w hS=>?_;apply XN;delta GV bU;refine Gp ?_;(exact cA hS)
def qz(kp gp dp lp pp:Nat)(aw:Int)(rv:Ε):SP 72 [iH kp] [.pt kp (nM gp dp lp pp aw rv) 90] (cC (iH pp) [.pt kp (nM gp dp lp pp aw rv) 90]):=by
 refine Enzz λW F w hS=>?_;apply XQ;delta GY bU;refine Gp ?_;(exact cA hS)
def aR4{N:Nat}(hg:ij c.k.g N)(hN:N<=1000000000)(aw:Int)(hl : -9000000000000000000<=aw/\aw<=9000000000000000000):SP 34 [cF p.np,Γ aw] [.ob (cz p cf kc H c),.mem H]
  (λv post=>∃(x:mK) (t:cH) (e:Int) (H':bw),H.le H'/\v= .tuple #[agg (fm x),Γ e]/\lz H' x t/\t.signals=c.mi aw/\t.changes.length<=16/\t.signals.length<=2/\(∀s∈t.signals,s.size<=40)/\post=[.ob (cz p cf kc H' c),.mem H']):=by
 refine Enzz λW F w hS=>?_;apply cIr;delta OD a_ bV ai bR;refine Gb λzb w hS=>?_;obtain⟨dv,hS⟩:=cz.open hS Xr;refine Gp ?_;refine Cc (yS p.sp p.tp p.w.dp p.sl c.k hg hN H aw hl) ?_;clear hS;rintro r post hq w hS;unfold uV at hq;cases hr:c.k.gP aw with
 | error e=>
  rw[hr]at hq
  obtain⟨dO,H',hh,rfl,rfl⟩:=hq;try simp only[app]at hS
  have hS:=cz.put c hS Xp;have hS:=cz.jm hh hS Xr;unfold fm xZ;refine Gn λw hS=>?_;exact⟨[.ob (cz p cf kc H' c),.mem H'],⟨xZ,⟨0,0,[],[],0⟩,e,H',hh,rfl,⟨rfl,rfl,rfl,dx.nil _ _,dx.nil _ _⟩,by unfold bW.mi;rw[hr],by decide,by decide,(λs hs=>by cases hs),rfl⟩,aW hS⟩
 | ok t=>
  rw[hr]at hq
  obtain⟨x,H',hh,rfl,hx,rfl⟩:=hq;have su:eg t=true:=by
   unfold cQ.gP at hr;split at hr
   ·cases hr
   exact HB hr
  have hm:=l_ su;try simp only[app]at hS
  have hS:SL W (.ob (df p.sp p.tp p.w.dp p.sl c.k)::_) w:=hS;have hS:=dt.jm hh hS Xr;have hS:=cW.jm hh hS Xr;have hS:=cz.put c hS Xp;refine Gp ?_;refine zr (vs:=fm x) hS Xu rfl rfl hx.Bh λw hS=>?_;refine zA hS Xh rfl ?_;exact⟨[.ob (cz p cf kc H' c),.mem H'],⟨x,t,0,H',hh,rfl,hx,by unfold bW.mi;rw[hr],hm.2.2.2.1,hm.2.2.2.2.1,hm.2.2.2.2.2.2,rfl⟩,aW hS⟩
def qe{n:Nat}(hc:CC cf kc n)(hl:∀C∈c.k.ts,C.length<=1000)(x:mK)(t:cH)(hx:lz H x t)(h2:t.signals.length<=2)(wT:∀s∈t.signals,s.size<=40):SP 77 [cF p.np,agg (fm x)] [.ob (cz p cf kc H c),.mem H] (cC (Γ (c.asked cf t.signals)) [.ob (cz p cf kc H c),.mem H]):=by
 refine Enzz λW F w hS=>?_;apply cKg;delta Px aI a_ bV ai;refine zw hS λxb w hS=>?_;unfold fm at hS;refine Gp ?_;refine zo hx.sv ?_;refine⟨λus w=>∃i:Nat,us=[Γ (kQ ((t.signals.take i).map (c.oH cf))),Γ i]/\i<=t.signals.length/\SL W (.ob (cz p cf kc H c)::.mem H::F) w,
  λus _=>match us with|[_,.int _ i]=>(t.signals.length-i).toNat|_=>0,⟨0,rfl,by omega,aW hS⟩,?_⟩
 clear hS;rintro _ _ w ⟨i,cO,hi,hS⟩;cases cO;have jW:=Gi (B:=1002) (by decide) ((t.signals.take i).map (c.oH cf)) λy hy=>by
  obtain⟨s,_,rfl⟩:=zzv.1 hy;exact P4 hc hl s
 rw[zzn,zzf]at jW
 refine bY (λh=>?_) (λh=>?_)
 ·have cx:i<t.signals.length:=by omega
  have e:(t.signals.take (i+1)).map (c.oH cf)=(t.signals.take i).map (c.oH cf)++[c.oH cf t.signals[i]]:=by rw[zze cx,zzs];rfl
  have my:=Ku ((t.signals.take i).map (c.oH cf)) (c.oH cf t.signals[i]);rw[<- e]at my
  have hs:=wT _ (zzg cx);refine yQ hS Xh hx.sv cx (u:=.string t.signals[i]) (by simp[cx]) ?_;generalize t.signals[i]=s at *
  generalize kQ ((t.signals.take i).map (c.oH cf))=a at *
  have uu:∀g:Int,2<=c.chunks cf g/\c.chunks cf g<=1002:=El hc hl;refine Cc (Z5 s (by omega)) ?_;clear hS;rintro _ post ⟨rfl,rfl⟩ w hS;try simp only[app]at hS
  have hq:c.oH cf s=match xU s with
   | none=>0
   | some g=>if g.1<cf.tables then c.chunks cf g.1 else 0:=rfl
  cases hp:xU s with
  | none=>
   rw[hp]at hq
   rw[hq]at my
   rw[show Gg (none:Option (Int × Int))= .tuple #[agg [Γ 0,Γ 0],.bool false] from rfl];refine Gm λb w hS=>?_;exact⟨⟨i+1,by rw[my];simp,by omega,aW hS⟩,by dsimp only;omega⟩
  | some g=>
   obtain⟨g1,g2⟩:=g;rw[hp]at hq
   rw[hq]at my
   dsimp only at my;rw[show Gg (some (g1,g2))= .tuple #[agg [Γ g1,Γ g2],.bool true] from rfl];refine Gm λb w hS=>?_;obtain⟨dv,hS⟩:=cz.open hS Xr;refine Gp ?_;have hS:=cz.put c hS Xp;refine za (λhg=>?_) (λhg=>?_)
   ·rw[zzc hg]at my
    have:=uu g1;refine Gp ?_;refine Cg (Zi p cf kc H c hc hl g1) λw hS=>?_;exact⟨⟨i+1,by rw[my],by omega,aW hS⟩,by dsimp only;omega⟩
   rw[zzb hg]at my
   refine Gp ?_;exact⟨⟨i+1,by rw[my];simp,by omega,aW hS⟩,by dsimp only;omega⟩
 have:i=t.signals.length:=by omega
 subst this;rw[zz0];exact cA hS
end
abbrev A_(cf:dI)(c:bW)(k:Int):Ξ:=[Γ (cI c.k.g.bF-c.pos),Γ c.q.length,Γ ((c.s.L.length:Int)+c.s.out),.bool (decide (c.last<c.m.at_)),Γ k,Γ c.s.k.plan.length,Γ (max (c.s.eK-c.now) 0)]
structure X4(cf:dI)(kc:dU)(n:Nat)(c:bW)(N:Nat):Prop where
 g:ij c.k.g N
 N:N<=1000000000
 rows:∀C∈c.k.ts,C.length<=1000
 pos:0<=c.pos/\c.pos<=1099511627776
 at_:0<=c.m.at_/\c.m.at_<=1099511627776
 eK:0<=c.s.eK/\c.s.eK<=4503599627370496
 now:0<=c.now/\c.now<=1125899906842624
 rq:c.m.reqs.length<=64
def czy(c:bW)(aw:Int):(c.mi aw).length<=2:=by
 unfold bW.mi;split
 ·rename_i t hr;unfold cQ.gP at hr;split at hr
  ·cases hr
  exact (l_ (HB hr)).2.2.2.2.1
 exact zz4 _
section
variable (p:iO) (cf:dI) (kc:dU) (H:bw) (c:bW)
set_option maxHeartbeats 16000000 in
def q8{n N:Nat}(hc:CC cf kc n)(hb:X4 cf kc n c N):SP 17 [cF p.np] [.ob (cz p cf kc H c),.mem H] (BF p cf kc H c (agg (Ap (c.load cf)))):=by
 intro W F w hS;apply cEq;delta Mf aI a_ aR bV BY D' BZ ai bR;(try simp only[app]at hS);have hg:=hb.g;have hN:=hb.N;have hh:=th hg.ok.bF;have EW:=hb.pos;have q_:=hb.at_;have S':=hb.eK;have S_:=hb.now;have lD:=hb.rq;refine Gb λzb w hS=>?_;obtain⟨dv,hS⟩:=cz.open hS Xr;obtain⟨ov,nv,hi,hS⟩:=dt.open hS Xr;obtain⟨rv,hr,hS⟩:=db.open hS Xr;obtain⟨hG,hS⟩:=Gate.Du hS Xr;have gC:∀(lb:Nat) (w:Ζ),SL W (.pt lb [Γ (cI c.k.g.bF-c.pos),Γ c.q.length,Γ ((c.s.L.length:Int)+c.s.out),.bool (decide (c.last<c.m.at_)),Γ 0,Γ c.s.k.plan.length,Γ (max (c.s.eK-c.now) 0)] 51::.pt zb [Γ 0,Γ 0,Γ 0,.bool false,Γ 0,Γ 0,Γ 0] 51::.pt p.w.qp [Δ p.w.qb,Γ c.s.out] 125::.ob (Ring p.w.qb kc.cap (c.s.L.map iy))::.pt p.w.kp (nM p.w.gp p.w.dp p.w.lp p.w.pp c.s.k.aw rv) 90::.ob (gm p.w.gp c.s.k.ts)::.ob (dc p.w.lp p.w.dp c.s.k.g)::.ob (gy p.w.pp c.s.k.plan)::.ob (bX p.w.dp c.s.k.d)::.pt p.w.wp (oD p.w.kp p.w.qp p.w.rp kc.cJ c.s.held.aw ov nv c.s.n) 216::ki p.w.rp kc.b kc.m kc.j c.s.fR c.s.eK::.pt p.np (sE p cf c.pos dv) 84::sN dv c.dy::.ob (df p.sp p.tp p.w.dp p.sl c.k)::.ob (cW p.mp p.wi H c.m)::.pt p.sn (ji p.sp p.mp p.wi p.dg cf.chunk) 208::.ob (fq p.dg c.dr)::.ob (Ring p.rb kc.cap (c.q.map jR))::.ob (iq p.ck [] c.now)::jb p.bp cf.every c.due c.last::.mem H::F) w ->
   ∃U6:Nat,[Δ lb]=[Δ U6]/\SL W (.pt U6 (A_ cf c 0) 51::.pt zb [Γ 0,Γ 0,Γ 0,.bool false,Γ 0,Γ 0,Γ 0] 51::.ob (cz p cf kc H c)::.mem H::F) w:=λlb w hS=>by
  have hS:=Gate.put hG hS Xp;have hS:=db.eO (g:=c.s.k.g) (d:=c.s.k.d) (ts:=c.s.k.ts) (plan:=c.s.k.plan) (aw:=c.s.k.aw) (reqs:=c.s.k.reqs) hS hr Xp;have hS:SL W (.ob (db p.w.kp p.w.gp p.w.dp p.w.lp p.w.pp H c.s.k)::_) w:=hS;have hS:=dt.put c.s hS hi Xp;have hS:=cz.put c hS Xp;exact⟨lb,rfl,aW hS⟩
 have hL:(c.s.L.length:Int)<=64/\(c.s.out:Int)<=64:=by have:=hG.1;rw[zzn]at this;have:=hG.2;omega
 refine⟨λus w=>∃lb:Nat,us=[Δ lb]/\SL W (.pt lb (A_ cf c 0) 51::.pt zb [Γ 0,Γ 0,Γ 0,.bool false,Γ 0,Γ 0,Γ 0] 51::.ob (cz p cf kc H c)::.mem H::F) w,?_,?_⟩
 ·repeat' (first
   | refine Gp ?_
   | refine Gw λw hS=>?_
   | refine Gb λb w hS=>?_
   | refine Cg (zF p.sp p.tp p.w.dp p.sl c.k hg hN) λw hS=>?_
   | refine Cg (yv p.rb kc.cap (c.q.map jR)) λw hS=>?_
   | refine Cg (yv p.w.qb kc.cap (c.s.L.map iy)) λw hS=>?_
   | refine Cg (Qv p.w.qp p.w.qb c.s.out) λw hS=>?_
   | refine Cg (yw p.mp p.wi H c.m) λw hS=>?_
   | refine Cg (qc p.bp cf.every c.due c.last) λw hS=>?_
   | refine Cg (qz p.w.kp p.w.gp p.w.dp p.w.lp p.w.pp c.s.k.aw rv) λw hS=>?_
   | refine Cg (bFg p.w.pp c.s.k.plan) λw hS=>?_
   | refine Cg (ZN p.w.rp kc.b kc.m kc.j c.s.fR c.s.eK) λw hS=>?_
   | refine Cg (zY p.ck [] c.now) λw hS=>?_
   | with_reducible refine And.intro ?_ ?_
   | exact gC _ _ (aW hS))
  all_goals done
 clear hS gC;rintro _ w ⟨lb,cO,hS⟩;cases cO;obtain⟨dv,hS⟩:=cz.open hS Xr;refine Gp ?_;refine Cc (yx p.mp p.wi H c.m (by omega)) ?_;clear hS;rintro u post rfl w hS;try simp only[app]at hS
 refine Cc (yW u c.m.reqs (by omega)) ?_;clear hS;rintro u2 post rfl w hS;try simp only[app]at hS
 have hRl:(iS c.m.reqs).length<=64:=by
  have:=yym (λr:Rq=>!r.done) c.m.reqs;unfold iS;omega
 have jM:c.xH cf=(iS c.m.reqs).map λr=>c.chunks cf r.table:=rfl;generalize iS c.m.reqs=R at *
 refine zt hS (v:=u2) Xh ?_;have hS:=cz.put c hS Xp;have hS:SL W (.pt lb (A_ cf c 0) 51::oF u2 R::.pt zb [Γ 0,Γ 0,Γ 0,.bool false,Γ 0,Γ 0,Γ 0] 51::.ob (cz p cf kc H c)::.mem H::F) w:=aW hS;have uu:∀t,2<=c.chunks cf t/\c.chunks cf t<=1002:=El hc hb.rows;refine⟨λus w=>∃i:Nat,us=[Γ i]/\i<=R.length/\SL W (.pt lb (A_ cf c (kQ ((R.take i).map λr=>c.chunks cf r.table))) 51::oF u2 R::.pt zb [Γ 0,Γ 0,Γ 0,.bool false,Γ 0,Γ 0,Γ 0] 51::.ob (cz p cf kc H c)::.mem H::F) w,
  λus _=>match us with|[.int _ i]=>(R.length-i).toNat|_=>0,⟨0,rfl,by omega,hS⟩,?_⟩
 clear hS;rintro _ w ⟨i,cO,hi,hS⟩;cases cO;have jW:=Gi (B:=1002) (by decide) ((R.take i).map λr=>c.chunks cf r.table) λy hy=>by
  obtain⟨r,_,rfl⟩:=zzv.1 hy;have:=uu r.table;omega
 rw[zzn,zzf]at jW
 refine bY (λh=>?_) (λh=>?_)
 ·have cx:i<R.length:=by omega
  have e:((R.take (i+1)).map λr=>c.chunks cf r.table)=((R.take i).map λr=>c.chunks cf r.table)++[c.chunks cf R[i].table]:=by rw[zze cx,zzs];rfl
  have my:=Ku ((R.take i).map λr=>c.chunks cf r.table) (c.chunks cf R[i].table);rw[<- e]at my
  refine zT hS (v:=u2) (t:=98) Xh nC (x:=R[i]) (by simp[cx]) cx ?_;generalize R[i]=r at *
  generalize kQ ((R.take i).map λr=>c.chunks cf r.table)=a at *
  have l6:=uu r.table;refine Gb λrb w hS=>?_;unfold iD at hS;refine Cg (Zi p cf kc H c hc hb.rows r.table) λw hS=>?_;refine⟨⟨i+1,rfl,by omega,?_⟩,by dsimp only;omega⟩;rw[my];exact aW hS
 have:i=R.length:=by omega
 subst this;rw[zz0,<- jM]at hS
 have vC:0<=kQ (c.xH cf)/\kQ (c.xH cf)<=64128:=by
  rw[zz0,<- jM]at jW;omega
 obtain⟨dv,hS⟩:=cz.open hS Xr;refine Gp ?_;refine Cg (yw p.mp p.wi H c.m) λw hS=>?_;have hS:=cz.put c hS Xp;have hS:SL W (.pt lb (A_ cf c (kQ (c.xH cf))) 51::.pt zb [Γ 0,Γ 0,Γ 0,.bool false,Γ 0,Γ 0,Γ 0] 51::.ob (cz p cf kc H c)::.mem H::F) w:=aW hS;have tm:c.head=cI c.k.g.bF:=rfl;have S9:∀aw,0<=c.asked cf (c.mi aw)/\c.asked cf (c.mi aw)<=2004:=λaw=>by
  have h1:=Gi (B:=1002) (by decide) ((c.mi aw).map (c.oH cf)) λy hy=>by
   obtain⟨s,_,rfl⟩:=zzv.1 hy;exact P4 hc hb.rows s
  have h2:=czy c aw;rw[zzn]at h1
  unfold bW.asked;omega
 refine⟨λus w=>∃(k:Nat) (H2:bw),us=[Γ (c.m.at_+1+k)]/\k<=(c.head-c.m.at_).toNat/\H.le H2/\SL W (.pt lb (A_ cf c (kQ (c.xH cf)+kQ ((List.range k).map λi:Nat=>c.asked cf (c.mi (c.m.at_+1+(i:Int)))))) 51::.pt zb [Γ 0,Γ 0,Γ 0,.bool false,Γ 0,Γ 0,Γ 0] 51::.ob (cz p cf kc H2 c)::.mem H2::F) w,
  λus _=>match us with|[.int _ v]=>(c.head+1-v).toNat|_=>0,⟨0,H,by simp,by omega,bw.le_refl H,by rw[show kQ ((List.range 0).map λi:Nat=>c.asked cf (c.mi (c.m.at_+1+(i:Int))))=0 from rfl,Int.add_zero];exact hS⟩,?_⟩
 clear hS;rintro _ w ⟨k,H2,cO,hk,fA,hS⟩;cases cO;have bR4:=Gi (B:=2004) (by decide) ((List.range k).map λi:Nat=>c.asked cf (c.mi (c.m.at_+1+(i:Int)))) λy hy=>by
  obtain⟨i,_,rfl⟩:=zzv.1 hy;exact S9 _
 rw[zzn,List.length_range]at bR4
 obtain⟨dv,hS⟩:=cz.open hS Xr;refine Gp ?_;refine Cg (zF p.sp p.tp p.w.dp p.sl c.k hg hN) λw hS=>?_;have hS:=cz.put c hS Xp;refine za (λh=>?_) (λh=>?_)
 ·have dd:k<(c.head-c.m.at_).toNat:=by omega
  refine Cc (aR4 p cf kc H2 c hg hN (c.m.at_+1+k) (by omega)) ?_;clear hS;rintro _ post ⟨x,t,e,H3,gb,rfl,hx,A1,_,h2,wT,rfl⟩ w hS;try simp only[app]at hS
  have my:=Ku ((List.range k).map λi:Nat=>c.asked cf (c.mi (c.m.at_+1+(i:Int)))) (c.asked cf (c.mi (c.m.at_+1+(k:Int))));have er:((List.range (k+1)).map λi:Nat=>c.asked cf (c.mi (c.m.at_+1+(i:Int))))=((List.range k).map λi:Nat=>c.asked cf (c.mi (c.m.at_+1+(i:Int))))++[c.asked cf (c.mi (c.m.at_+1+(k:Int)))]:=by rw[List.range_succ,zzs];rfl
  rw[<- er,<- A1]at my
  have hak:=S9 (c.m.at_+1+k);rw[<- A1]at hak
  generalize kQ ((List.range k).map λi:Nat=>c.asked cf (c.mi (c.m.at_+1+(i:Int))))=a at *
  refine Gm λb w hS=>?_;refine zr (vs:=fm x) hS Xu rfl rfl hx.Bh λw hS=>?_;refine Gn λw hS=>?_;refine Cg (qe p cf kc H3 c hc hb.rows x t hx h2 wT) λw hS=>?_;refine⟨⟨k+1,H3,?_,by omega,bw.le_trans fA gb,?_⟩,by dsimp only;omega⟩
  ·rw[show c.m.at_+1+((k+1:Nat):Int)=c.m.at_+1+k+1 by omega]
  rw[my,<- Int.add_assoc];exact aW hS
 have TE:k=(c.head-c.m.at_).toNat:=by omega
 refine Gn λw hS=>?_;have hv:kQ (c.xH cf)+kQ ((List.range k).map λi:Nat=>c.asked cf (c.mi (c.m.at_+1+(i:Int))))=(c.load cf).chunks:=by
  rw[TE];rfl
 rw[hv]at hS ⊢
 exact⟨[.ob (cz p cf kc H2 c),.mem H2],⟨rfl,H2,fA,rfl⟩,aW hS⟩
end
set_option maxRecDepth 100000
open Go.ChangeShapes Go.WideShapes Go.ChangeAt Go.RowKit
def Sj(a b:DY)(w:Ζ):(Op.equal 51 (agg (Ap a)) (agg (Ap b))).run Tryz.prog w= .ok (decide (a=b)) w:=by
 refine DC Tryz.underlying51 (by kernel_rfl) ?_;obtain⟨a1,a2,a3,a4,a5,a6,a7⟩:=a;obtain⟨b1,b2,b3,b4,b5,b6,b7⟩:=b;simp only[DY.mk.injEq];simp[Ap,Op.eqFields,part,xxw (h:=yyv),xxw (h:=yyc),ttd (h:=vve),Result.andThen]
 iterate 6 refine UQ (f:=λx=>Result.ok x w) ?_
 exact UP (f:=λx=>Result.ok x w)
section
variable {cf:dI} {kc:dU} {n j:Nat} {AL:List cH} {c:bW}
def Hw(h:CS cf kc n j AL c)(hc:CC cf kc n)(hj:j<=190)(p:iO)(H:bw):SP 17 [cF p.np] [.ob (cz p cf kc H c),.mem H] (BF p cf kc H c (agg (Ap (c.load cf)))):=by
 obtain⟨xs,hb⟩:=h.mL;have hv:=xP j;exact q8 p cf kc H c hc ⟨hb.sg,by omega,hb.st2,hb.pos,⟨hb.mx.lV,hb.mx.oI⟩,hb.eK,hb.now,hb.mx.may.1⟩
end
set_option maxHeartbeats 4000000 in
def ZV(H:bw)(c:dI)(v:Ε)(l:List g_)(hv:D0 H v l)(cG:∀s∈l,JQ s):
  SP 5 [agg (lY c),v] [.mem H] (λv post=>v= .bool true/\∃H' l,H.le H'/\post= .mem H'::l):=by
 refine Enzz λW F w hS=>?_;apply vc5;delta O8 aI a_ cw G3 ai cT bR;obtain⟨xs,jY,Uq,Jf⟩:=hv;refine zw hS λcb w hS=>?_;refine zA hS Xh rfl ?_;refine Cc (qi c) ?_;clear hS;rintro _ post ⟨rfl,rfl⟩ w hS;try simp only[app]at hS
 refine zr hS Xu rfl rfl (a_z _) λw hS=>?_;refine zA hS Xh rfl ?_;have hc:=aIu c;generalize B8 c=cf at *
 generalize Js c=kc at *
 have h4:=ie c.tables 4 (by decide);generalize hn:1+md c.tables 4=n at *
 refine Cc (Ys H hc) ?_;clear hS;rintro _ post ⟨p,H1,dj,rfl,rfl⟩ w hS;(try simp only[app]at hS);refine Gp ?_
 refine za (λh=>absurd rfl h) (λ_=>?_);refine Gp ?_;refine zp ?_;have Tl:=hc.tables;have nG:=hc.n1;have Fp:=hc.n8;have Tk:CS cf kc n 0 [] (wC cf n):=.inl (eS.first (kc:=kc) hc).2.2;have TT:(wC cf n).now=0:=rfl;generalize wC cf n=c0 at *
 have hS:SL W (.ob (cz p cf kc H1 c0)::.pt cb (wz cf) 23::.mem H1::F) w:=SL.bZ hS (t:=.ob (cz p cf kc H1 c0)::.pt cb (lY cf) 23::.mem H1::F) Xi;refine⟨λus w=>∃(i:Nat) (H2:bw) (q:iO) (cc:bW) (AL:List cH),us=[Γ cc.now,Γ i]/\i<=60/\i<=l.length/\H.le H2/\q.np=p.np/\CS cf kc n (2*i) AL cc/\SL W (.ob (cz q cf kc H2 cc)::.pt cb (wz cf) 23::.mem H2::F) w,
  λus _=>match us with|[_,.int _ i]=>(l.length-i).toNat|_=>0,⟨0,H1,p,c0,[],by rw[TT];rfl,by omega,by omega,dj,rfl,Tk,hS⟩,?_⟩
 clear hS Tk dj TT;rintro _ _ w ⟨i,H2,q,cc,AL,cO,hi,cx,fA,hq,iL,hS⟩;cases cO;try simp only[app]at hS
 have gL:∀{w:Ζ},SL W (.mem H2::F) w->aF 14 [] w λv w=>∃post,(v= .bool true/\∃H' l,H.le H'/\post= .mem H'::l)/\SL W (app post F) w:=λhS=>by
  refine Cc (YR) ?_;clear hS;rintro _ post ⟨rfl,rfl⟩ w hS;try simp only[app]at hS
  exact⟨_,⟨rfl,H2,[],fA,rfl⟩,aW hS⟩
 refine zo Uq ?_;refine Gp ?_;refine za (λha=>?_) (λha=>gL (aW hS));refine Gp ?_;refine za (λhb=>?_) (λhb=>gL (aW hS));clear gL;have IA:i<l.length:=by omega
 have l8:i<xs.length:=by omega
 have hx:=(Jf i IA l8).mono fA;have hs:=cG l[i] (zzg IA);have Dc:xs[i]?=some xs[i]:=zzd l8;generalize hX:xs[i]=x at *
 generalize l[i]=s at *
 refine⟨λus w=>∃(k:Nat) (H3:bw) (q':iO) (c3:bW) (eM:List cH),us=[Γ c3.now,Γ k]/\k<=2/\H2.le H3/\q'.np=p.np/\CS cf kc n (2*i+k) eM c3/\SL W (.ob (cz q' cf kc H3 c3)::.pt cb (wz cf) 23::.mem H3::F) w,
  λus _=>match us with|[_,.int _ k]=>(2-k).toNat|_=>0,⟨0,H2,q,cc,AL,rfl,by omega,bw.le_refl _,hq,iL,hS⟩,?_⟩
 clear hS iL;rintro _ _ w ⟨k,H3,q',c3,eM,cO,hk,gb,T8,iL,hS⟩;cases cO;try simp only[app]at hS
 have nD:=bw.le_trans fA gb;refine bY (λfO=>?_) (λfO=>?_)
 ·refine zD hS Xh Cf (Uq.mono nD) Dc (by omega) ?_;have vE:=hx.mono gb;refine Gm λsb w hS=>?_;have T0:=W_ vE;refine zr (vs:=jU x) hS Xu (Cf x) rfl T0 λw hS=>?_;refine⟨λus w=>∃(H4:bw) (y:nu) (t:g_),us=[]/\H3.le H4/\kT H4 y t/\t.l.length<=140737488351232/\SL W (.pt sb (jU y) 36::.ob (cz q' cf kc H4 c3)::.pt cb (wz cf) 23::.mem H4::F) w,?_,?_⟩
  ·refine Gp ?_;refine za (λ_=>?_) (λ_=>⟨H3,x,s,rfl,bw.le_refl _,vE,hs.l,aW hS⟩);refine zA (cs:=jU x) hS Xh (Cf x) ?_;refine Gp ?_;rw[Tl];refine Cc (QN H3 x s n vE nG Fp hs.sg hs.l hs.keep) ?_;clear hS;rintro _ post ⟨H4,y,t,oS,rfl,hy,ht,rfl⟩ w hS;try simp only[app]at hS
   refine zr (vs:=jU y) hS Xu (Cf y) (Cf x) (W_ hy) λw hS=>?_;have hS:=cz.jm oS hS Xr;exact⟨H4,y,t,rfl,oS,hy,by have:=ht.l;omega,aW hS⟩
  clear hS T0 vE hx hX hs Dc x s l8;rintro w ⟨H4,y,t,-,oS,hy,k9,hS⟩;have Cs:=bw.le_trans nD oS;unfold jU at hS;rw[hy.kind,hy.n,hy.ft]at hS
  rw[<- T8];have hj:2*i+k<=190:=by omega
  refine Cc (RE iL hj q' H4) ?_;clear hS;rintro _ post ⟨rfl,H5,SO,rfl⟩ w hS;try simp only[app]at hS
  refine Cc (Hw iL hc hj q' H5) ?_;clear hS;rintro _ post ⟨rfl,H6,SR,rfl⟩ w hS;try simp only[app]at hS
  have Ct:=bw.le_trans SO SR;have hy6:kT H6 ⟨t.kind,t.n,y.sv,y.cv,t.ft,y.kv⟩ t:=⟨rfl,rfl,rfl,hy.sv.mono Ct,hy.cv.mono Ct,hy.kv.mono Ct⟩;refine Gb λkb w hS=>?_;refine Gb λeb w hS=>?_;refine Cc (yu q' cf kc H6 c3 iL hc hj ⟨t.kind,t.n,y.sv,y.cv,t.ft,y.kv⟩ t hy6 k9) ?_;clear hS;rintro _ post ⟨rfl,q2,H7,H0,kz,rfl⟩ w hS;try simp only[app]at hS
  obtain⟨KU,AJ,_⟩:=iL.gH hc hj t;have f1:=aW5 (cf:=cf) (kc:=kc) (c:=c3) t;have f2:=iL.refused hc hj t;have h07:=bw.le_trans Cs (bw.le_trans Ct H0);have h27:=bw.le_trans gb (bw.le_trans oS (bw.le_trans Ct H0));generalize c3.gH cf kc t=r at *
  obtain⟨c4,⟨te,tl,td⟩⟩:=r;dsimp only at hS AJ f1 f2 ⊢;obtain⟨xs3,S'⟩:=iL.mL;obtain⟨xs4,S_⟩:=AJ.mL;have hn3:=S'.now;have hn4:=S_.now;have pP:∀(w:Ζ) (H9:bw),H7.le H9->SL W (.ob (cz q2 cf kc H9 c4)::.pt cb (wz cf) 23::.mem H9::F) w->∃(k':Nat) (H3:bw) (q3:iO) (c5:bW) (eM:List cH),[Γ c4.now,Γ ((k:Int)+1)]=[Γ c5.now,Γ k']/\k'<=2/\H2.le H3/\q3.np=q2.np/\CS cf kc n (2*i+k') eM c5/\SL W (.ob (cz q3 cf kc H3 c5)::.pt cb (wz cf) 23::.mem H3::F) w:=λw H9 h79 hS=>⟨k+1,H9,q2,c4,KU,rfl,by omega,bw.le_trans h27 h79,rfl,AJ,hS⟩;refine Gm λtb w hS=>?_;refine⟨λus w=>us=[Γ c4.now]/\SL W (.ob (cz q2 cf kc H7 c4)::.mem H7::.pt tb (vf ⟨te,tl,td⟩) 43::.pt eb (Ap (c3.load cf)) 51::.pt kb (Aq (c3.look kc)) 39::.pt cb (wz cf) 23::F) w,?_,?_⟩
  ·refine bY (λk4=>?_) (λk4=>?_)
   ·refine bY (λe0=>?_) (λe0=>?_)
    ·have e0:te=0:=e0;rw[zzc ⟨k4,e0⟩]at f1
     refine Gp ?_;exact⟨by rw[f1],aW hS⟩
    rw[zzb (λh=>e0 h.2),Int.add_zero]at f1
    exact⟨by rw[f1],aW hS⟩
   rw[zzb (λh=>k4 h.1),Int.add_zero]at f1
   exact⟨by rw[f1],aW hS⟩
  clear hS;rintro _ w ⟨cO,hS⟩;cases cO;rw[<- kz];refine Cc (RE AJ (by omega) q2 H7) ?_;clear hS;rintro _ post ⟨rfl,H8,Cw,rfl⟩ w hS;try simp only[app]at hS
  refine Gm λnb w hS=>?_;refine za (λh=>absurd rfl h) (λ_=>?_);refine Gp ?_;refine za (λh=>by omega) (λ_=>?_);refine Gp ?_;refine za (λh=>by omega) (λ_=>?_);refine Gn λw hS=>?_;refine za (λe1=>?_) (λe1=>?_)
  ·obtain⟨g1,g2,g3⟩:=f2 (.inl e1);subst g1 g2;have II:c4.look kc=c3.look kc:=by rcases g3 with rfl|rfl<;>rfl
   have jM:c4.load cf=c3.load cf:=by rcases g3 with rfl|rfl<;>rfl
   refine Gp ?_;refine za (λh=>absurd rfl h) (λ_=>?_);refine Gp ?_;refine za (λh=>absurd rfl h) (λ_=>?_);refine Gp ?_;refine YZ (Sk _ _ w) ?_;rw[zzl II];refine zp ?_;refine Gp ?_;refine Cc (Hw AJ hc (by omega) q2 H8) ?_;clear hS;rintro _ post ⟨rfl,H9,H_,rfl⟩ w hS;(try simp only[app]at hS);refine Gp ?_
   refine YZ (Sj _ _ w) ?_;rw[zzl jM];refine zp ?_;refine Gp ?_;exact⟨pP w H9 (bw.le_trans Cw H_) (aW hS),by dsimp only;omega⟩
  refine bY (λe7=>?_) (λe7=>?_)
  ·obtain⟨g1,g2,g3⟩:=f2 (.inr e7);subst g1 g2;have II:c4.look kc=c3.look kc:=by rcases g3 with rfl|rfl<;>rfl
   have jM:c4.load cf=c3.load cf:=by rcases g3 with rfl|rfl<;>rfl
   refine Gp ?_;refine za (λh=>absurd rfl h) (λ_=>?_);refine Gp ?_;refine za (λh=>absurd rfl h) (λ_=>?_);refine Gp ?_;refine YZ (Sk _ _ w) ?_;rw[zzl II];refine zp ?_;refine Gp ?_;refine Cc (Hw AJ hc (by omega) q2 H8) ?_;clear hS;rintro _ post ⟨rfl,H9,H_,rfl⟩ w hS;(try simp only[app]at hS);refine Gp ?_
   refine YZ (Sj _ _ w) ?_;rw[zzl jM];refine zp ?_;refine Gp ?_;exact⟨pP w H9 (bw.le_trans Cw H_) (aW hS),by dsimp only;omega⟩
  refine Gp ?_;exact⟨pP w H8 Cw (aW hS),by dsimp only;omega⟩
 have:k=2:=by omega
 subst this;refine Gp ?_;exact⟨⟨i+1,H3,q',c3,eM,rfl,by omega,by omega,nD,T8,iL,aW hS⟩,by dsimp only;omega⟩
def cMe(c:dI)(l:List g_)(ok:∀s∈l,JQ s)(cs:Array Ε)(v:Ε)(w:Ζ)(hc:Kv.rd w kF c cs.toList)(hl:ly Gl w kF l v):
  Calls Tryz.prog 5 #[.agg cs,v] w λe w'=>e= .returned (.bool true)/\Below w.heap.size w w':=by
 obtain rfl:cs=(lY c).toArray:=by rw[<- cBb hc]
 exact (qA (ZV (bw.of w) c v l (D0.of hl) ok)).calls
