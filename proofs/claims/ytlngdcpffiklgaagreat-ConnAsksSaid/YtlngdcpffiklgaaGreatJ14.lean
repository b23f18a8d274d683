/- Part. -/
import Derived.Test.YtlngdcpffiklgaaGreatJ13
import Derived.Test.YtlngdcpffiklgaaGreatRows
namespace Go.Proofs.YtlngdcpffiklgaaGreat
set_option linter.all false
def Tryz.own:ownKnob Tryz.prog.godebug=none:=by kernel_rfl
def Tryz.laidOut:laidOutB Tryz.prog=true:=by kernel_rfl
set_option maxRecDepth 100000
open Go.ChangeShapes Go.WideShapes Go.ChangeAt Go.RowKit Go.Proofs.Tryz
def lJ.a_u{α:Type}{T:iB α}{w:Ζ}{xs:List α}{v:Ε}(h:lJ T w kM xs v)(hT:0<T.n):
  ∃vw:List Ξ,vw.length=xs.length/\de (bw.of w) T.n v xs.length vw.flatten/\∀i (h:i<xs.length) (h':i<vw.length),T.rd w kM xs[i] vw[i]:=by
 obtain⟨a,cap,rfl,hc,hx⟩:=h.out;have hex:∀i,∃cs:Ξ,cs.length=T.n/\∀h:i<xs.length,T.rd w kM xs[i] cs/\∃b off,a=some ⟨b,off,none⟩/\At w kM b (off+i*T.n) cs:=λi=>by
  by_cases hi:i<xs.length
  ·obtain⟨b,off,cs,ha,hr,iu⟩:=hx i hi;exact⟨cs,T.len hr,λ_=>⟨hr,b,off,ha,iu⟩⟩
  exact⟨List.replicate T.n undef,by simp,λh=>absurd h hi⟩
 obtain⟨f,hf⟩:=Classical.axiomOfChoice hex;have hlen:∀x∈(List.range xs.length).map f,x.length=T.n:=λx hx=>by
  obtain⟨i,_,rfl⟩:=zzx.1 hx;exact (hf i).1
 have nA:((List.range xs.length).map f).flatten.length=xs.length*T.n:=by rw[IE (n:=T.n) _ hlen];simp
 refine⟨(List.range xs.length).map f,by simp,⟨nA,a,cap,rfl,hc,?_⟩,λi hi xH=>?_⟩
 ·rcases yy6 xs.length with h0|h0
  ·exact .inl h0
  right;obtain⟨_,b,off,rfl,_⟩:=(hf 0).2 h0;refine⟨b,off,rfl,λj u hu=>?_⟩;have hj:=(zzf.1 hu).1;rw[nA]at hj
  have hi:j / T.n<xs.length:=(uuq hT).2 hj;obtain⟨_,b',cCu,p4,iu⟩:=(hf (j / T.n)).2 hi;simp at p4;obtain⟨rfl,rfl⟩:=p4;have xO:j % T.n<(f (j / T.n)).length:=by rw[(hf _).1];exact vvj _ hT
  have hg:=Ff (n:=T.n) ((List.range xs.length).map f) hlen (j / T.n) (j % T.n) (by simpa using hi) ((f (j / T.n))[j % T.n]'xO) (by simp[zzc xO]);have Jb:j / T.n*T.n+j % T.n=j:=by rw[Nat.mul_comm];exact uuc j T.n
  rw[Jb,hu]at hg
  have JM:u=(f (j / T.n))[j % T.n]:=wwe hg;have:=iu.2 (j % T.n) u (by rw[JM];exact zzc xO);rw[show off+j / T.n*T.n+j % T.n=off+j by omega]at this
  unfold World.cell? at this;unfold bw.cell bw.of;simp only at this ⊢;split at this
  ·rename_i c t f lk;rw[lk];simpa using this
  cases this
 simpa using ((hf i).2 hi).1
def G0:iB d_:=(kr (l6 .i64) (kr (l6 .i64) (kr aia (kr Eb BX)))).via λo=>(o.table,o.key,o.gone,o.val,())
def cJc{w:Ζ}{M:MS}{o:d_}{cs:Ξ}(h:G0.rd w M o cs):cs=dC o:=by
 obtain⟨c1,c2,rfl,h1,c3,c4,rfl,h3,c5,c6,rfl,h5,c7,c8,rfl,h7,h8⟩:=h;have xp:c1=[Γ o.table]:=h1;have uC:c3=[Γ o.key]:=h3;have C1:c5=[.bool o.gone]:=h5;have C2:c7=[.string o.val]:=h7;have h8':c8=[]:=h8;subst xp uC C1 C2 h8';rfl
def cCy(c:d_):Prop:=F9 .i64 c.key
def a_1:ng prog 40 G0 cCy:=
 Zp (y4 (λo:d_=>(o.table,o.key,o.gone,o.val,())) (λx=>⟨x.1,x.2.1,x.2.2.1,x.2.2.2.1⟩) (λ_=>rfl)
  (yr underlying40 (by kernel_rfl) (kU (zD yyd (by kernel_rfl)) rfl (kU (zD yyr (by kernel_rfl)) rfl (kU (QR wwk (by kernel_rfl)) rfl (kU (YV yyz (by kernel_rfl)) rfl (Fa _ _))))))) (λo h=>h.2.1)
def Tt{α:Type}(f:α->Ε):∀l:List α,(l.map λx=>[f x]).flatten=l.map f
 | []=>rfl
 | x::l=>by simp only[zzr,zz9,Tt f l];rfl
def lJ.ints{k:IntKind}{w:Ζ}{l:Ω}{v:Ε}(h:lJ (l6 k) w kM l v):de (bw.of w) 1 v l.length (l.map (Value.int k)):=by
 have h2:=h.flat (enc:=λx=>[.int k x]) (λh=>h) (λ_=>rfl);rw[Tt]at h2
 exact h2
def Lc:iB fZ:=(kr (l6 .i64) (kr (l6 .i64) BX)).via λf=>(f.kind,f.keep,())
def cJd{w:Ζ}{M:MS}{f:fZ}{cs:Ξ}(h:Lc.rd w M f cs):cs=iU f:=by
 obtain⟨c1,c2,rfl,h1,c3,c4,rfl,h3,h4⟩:=h;have xp:c1=[Γ f.kind]:=h1;have uC:c3=[Γ f.keep]:=h3;have h4':c4=[]:=h4;subst xp uC h4';rfl
def WB(f:fZ):Prop:=lA f.kind/\lA f.keep
def bWd:ng prog 33 Lc WB:=
 Zp (y4 (λf:fZ=>(f.kind,f.keep,())) (λx=>⟨x.1,x.2.1⟩) (λ_=>rfl)
  (yr underlying33 (by kernel_rfl) (kU (zD yyd (by kernel_rfl)) rfl (kU (zD yyd (by kernel_rfl)) rfl (Fa _ _)))))
  (λf h=>⟨DG h.1,DG h.2.1⟩)
def Lb:iB dL:=(kr (l6 .i64) (kr (l6 .i64) (kr (l6 .i64) (kr (l6 .i64) (kr (l6 .i64) (kr (l6 .i64) (kr (l6 .i64) (kr (l6 .i64) (kr (l6 .i64) (kr (l6 .i64) BX)))))))))).via λc=>(c.tables,c.late,c.size,c.queue,c.chunk,c.batch,c.base,c.cN,c.sO,c.every,())
def cJb{w:Ζ}{M:MS}{c:dL}{cs:Ξ}(h:Lb.rd w M c cs):cs=ml c:=by
 obtain⟨c1,c2,rfl,h1,c3,c4,rfl,h3,c5,c6,rfl,h5,c7,c8,rfl,h7,c9,c10,rfl,h9,HY,Cy,rfl,A2,c13,c14,rfl,Fj,c15,c16,rfl,h15,c17,c18,rfl,h17,c19,c20,rfl,h19,h20⟩:=h;have xp:c1=[Γ c.tables]:=h1;have uC:c3=[Γ c.late]:=h3;have C1:c5=[Γ c.size]:=h5;have C2:c7=[Γ c.queue]:=h7;have IQ:c9=[Γ c.chunk]:=h9;have IL:HY=[Γ c.batch]:=A2;have bW2:c13=[Γ c.base]:=Fj;have bW4:c15=[Γ c.cN]:=h15;have bW6:c17=[Γ c.sO]:=h17;have bW8:c19=[Γ c.every]:=h19;have b_a:c20=[]:=h20;subst xp uC C1 C2 IQ IL bW2 bW4 bW6 bW8 b_a;rfl
def cCx(c:dL):Prop:=True
def cWb:ng prog 23 Lb cCx:=
 Zp (y4 (λc:dL=>(c.tables,c.late,c.size,c.queue,c.chunk,c.batch,c.base,c.cN,c.sO,c.every,())) (λx=>⟨x.1,x.2.1,x.2.2.1,x.2.2.2.1,x.2.2.2.2.1,x.2.2.2.2.2.1,x.2.2.2.2.2.2.1,x.2.2.2.2.2.2.2.1,x.2.2.2.2.2.2.2.2.1,x.2.2.2.2.2.2.2.2.2.1⟩) (λ_=>rfl)
  (yr underlying23 (by kernel_rfl) (kU (zD yyd (by kernel_rfl)) rfl (kU (zD yyd (by kernel_rfl)) rfl (kU (zD yyd (by kernel_rfl)) rfl (kU (zD yyd (by kernel_rfl)) rfl (kU (zD yyd (by kernel_rfl)) rfl (kU (zD yyd (by kernel_rfl)) rfl
   (kU (zD yyr (by kernel_rfl)) rfl (kU (zD yyr (by kernel_rfl)) rfl (kU (zD yyr (by kernel_rfl)) rfl (kU (zD yyr (by kernel_rfl)) rfl (Fa _ _)))))))))))))
  (λc h=>trivial)
def cI4{w:Ζ}{l:Ψ}{v:Ε}(h:lJ Eb w kM l v):de (bw.of w) 1 v l.length (l.map Value.string):=by
 have:=h.flat (enc:=λs=>[.string s]) (λh=>h) (λ_=>rfl);rw[WE]at this
 exact this
def G2:iB g_:=(kr (l6 .i64) (kr (l6 .i64) (kr (G1 Eb) (kr (G1 G0) (kr Lc (kr (G1 (l6 .i64)) BX)))))).via λo=>(o.kind,o.n,o.sg,o.l,o.ft,o.keep,())
def cJe{w:Ζ}{o:g_}{cs:Ξ}(h:G2.rd w kM o cs):∃x:mH,cs=ji x/\lK (bw.of w) x o:=by
 obtain⟨c1,c2,rfl,h1,c3,c4,rfl,h3,c5,c6,rfl,h5,c7,c8,rfl,h7,c9,c10,rfl,h9,HY,Cy,rfl,A2,dF⟩:=h;have xp:c1=[Γ o.kind]:=h1;have uC:c3=[Γ o.n]:=h3;obtain⟨sv,C1,Bq⟩:∃v,c5=[v]/\lJ Eb w kM o.sg v:=h5;obtain⟨cv,C2,sG⟩:∃v,c7=[v]/\lJ G0 w kM o.l v:=h7;have IQ:=cJd h9;obtain⟨kv,IL,Df⟩:∃v,HY=[v]/\lJ (l6 .i64) w kM o.keep v:=A2;have bW1:Cy=[]:=dF;subst xp uC C1 C2 IQ IL bW1;exact⟨⟨o.kind,o.n,sv,cv,o.ft,kv⟩,rfl,rfl,rfl,rfl,cI4 Bq,sG.flat cJc (λ_=>rfl),Df.ints⟩
def Et.of{w:Ζ}{l:List g_}{v:Ε}(h:lJ G2 w kM l v):Et (bw.of w) v l:=by
 obtain⟨vw,h1,h2,h3⟩:=lJ.a_u h (by decide);have hex:∀i,∃x:mH,∀(h:i<l.length) (h':i<vw.length),vw[i]=ji x/\lK (bw.of w) x l[i]:=λi=>by
  by_cases hi:i<l.length
  ·obtain⟨x,e,hx⟩:=cJe (h3 i hi (by omega));exact⟨x,λ_ _=>⟨e,hx⟩⟩
  exact⟨⟨0,0,Θ,Θ,⟨0,0⟩,Θ⟩,λh=>absurd h hi⟩
 obtain⟨f,hf⟩:=Classical.axiomOfChoice hex;refine⟨(List.range l.length).map f,by simp,?_,λi hi xH=>by simpa using (hf i hi (by omega)).2⟩;have e:vw=((List.range l.length).map f).map ji:=xxy (by simp[h1]) λi g1 g2=>by simpa using (hf i (by omega) g1).1
 rw[e]at h2
 exact h2
structure Kq(s:g_):Prop where
 kind:lA s.kind
 n:lA s.n
 sg:s.sg.length<=140737488351232
 l:s.l.length<=140737488351232
 ch:∀c∈s.l,lA c.key
 ft:WB s.ft
 keep:s.keep.length<=140737488351232
def cXu:ng prog 36 G2 Kq:=
 Zp (y4 (λo:g_=>(o.kind,o.n,o.sg,o.l,o.ft,o.keep,())) (λx=>⟨x.1,x.2.1,x.2.2.1,x.2.2.2.1,x.2.2.2.2.1,x.2.2.2.2.2.1⟩) (λ_=>rfl)
  (yr underlying36 (by kernel_rfl) (kU (zD yyd (by kernel_rfl)) rfl (kU (zD yyr (by kernel_rfl)) rfl
   (kU (Kx (b:=16) (YV yyz (by kernel_rfl)) underlying30 (by kernel_rfl) (by kernel_rfl) (by decide)) rfl
    (kU (Kx (b:=40) a_1 underlying31 (by kernel_rfl) (by kernel_rfl) (by decide)) rfl
     (kU bWd rfl (kU (Kx (b:=8) (zD yyd (by kernel_rfl)) underlying34 (by kernel_rfl) (by kernel_rfl) (by decide)) rfl (Fa _ _)))))))))
  (λo h=>by
   have h3:=h.2.2.1;have h4:=h.2.2.2.1;have h6:=h.2.2.2.2.2.1;exact⟨DG h.1,DG h.2.1,by have:=h3.1;simp only at this;omega,by have:=h4.1;simp only at this;omega,λc hc=>DG (h4.2 c hc),h.2.2.2.2.1,by have:=h6.1;simp only at this;omega⟩)
def J7(c:dL):dW:=⟨1+md c.queue 5,1+md c.batch 4,1+(md c.base 4:Int),1+(md c.base 4:Int)+(md c.cN 12:Int),(md c.sO 4:Int)⟩
def a_q(c:dL):CC (Cz c) (J7 c) (1+md c.tables 4):=by
 have h1:=ix c.tables 4 (by decide);have h2:=ix c.size 4 (by decide);have h3:=ix c.chunk 4 (by decide);have h4:=ix c.queue 5 (by decide);have h5:=ix c.batch 4 (by decide);have h6:=ix c.base 4 (by decide);have h7:=ix c.cN 12 (by decide);have h8:=ix c.sO 4 (by decide);have h9:=ix c.every 8 (by decide);have hp:0<2 ^ (1+md c.tables 4):=Nat.pow_pos (by decide);have vJ:=ix c.late (2 ^ (1+md c.tables 4)) hp;have hs:=a_x h2;refine⟨by omega,by omega,by show (1:Int)+(md c.tables 4:Int)=((1+md c.tables 4:Nat):Int);omega,by show (0:Int)<=(md c.late (2 ^ (1+md c.tables 4)):Int);omega,?_,hs.1,by show uu (md c.size 4)<=_;omega,by show 1+(md c.queue 5:Int)=((1+md c.queue 5:Nat):Int);omega,by show 1<=1+md c.queue 5;omega,by show 1+md c.queue 5<=64;omega,by show (1:Int)<=1+(md c.chunk 4:Int);omega,by show 1+(md c.chunk 4:Int)<=64;omega,by show 1+(md c.batch 4:Int)=((1+md c.batch 4:Nat):Int);omega,by show 1<=1+md c.batch 4;omega,by show 1+md c.batch 4<=64;omega,rfl,rfl,rfl,?_,by show (1:Int)<=1+(md c.every 8:Int);omega,by show 1+(md c.every 8:Int)<=1073741824;omega⟩
 ·show (md c.late (2 ^ (1+md c.tables 4)):Int)<2 ^ (1+md c.tables 4);have:((2 ^ (1+md c.tables 4):Nat):Int)=(2:Int) ^ (1+md c.tables 4):=by simp
  omega
 unfold rr J7;dsimp only;omega
abbrev wX(cf:dL):Ξ:=[Γ cf.tables,Γ cf.late,Γ cf.size,Γ cf.queue,Γ cf.chunk,Γ cf.batch,Γ cf.base,Γ cf.cN,Γ cf.sO,Γ cf.every]
section
variable {cf:dL} {kc:dW} {n j:Nat} {AL:List cM} {c:cx}
def Ig(h:CS cf kc n j AL c)(hj:j<=190)(p:ig)(H:bw):SP 25 [cH p.np] [.ob (cn p cf kc H c),.mem H] (Aq p cf kc H c (agg (CK (c.look kc)))):=by
 obtain⟨xs,hb⟩:=h.mJ;have hv:=tX j;exact Qs p cf kc H c hb.sg (by omega) hb.wt.room (by have:=hb.mx.cI.len;omega)
def bwz(h:CS cf kc n j AL c)(hj:j<=190)(p:ig)(H:bw)(comp:Int):SP 27 [cH p.np,Γ comp] [.ob (cn p cf kc H c),.mem H] (Aq p cf kc H c (.bool (c.en kc comp))):=by
 obtain⟨xs,hb⟩:=h.mJ;have hv:=tX j;exact qx p cf kc H c comp hb.q (by have:=hb.mx.may.1;omega) hb.sg (by omega) hb.wt.room
end
def K5{H:bw}{y:mH}{t:g_}(hy:lK H y t):∀u∈ji y,u.oneCell'=true:=by
 intro u hu;simp only[ji,zz1,xxs,vv1]at hu;rcases hu with rfl|rfl|rfl|rfl|rfl|rfl|rfl
 ·rfl
 ·rfl
 ·exact hy.sv.one
 ·exact hy.cv.one
 ·rfl
 ·rfl
 exact hy.kv.one
set_option maxRecDepth 100000
open Go.RowKit
def k9(l:Ω):Int:=l.foldl (· + ·) 0
def La(l:Ω)(x:Int):k9 (l++[x])=k9 l+x:=by simp[k9,ww6]
def GZ{B:Int}(hB:0<=B):∀(l:Ω),(∀x∈l,0<=x/\x<=B)->0<=k9 l/\k9 l<=B*l.length:=by
 intro l
 suffices h:∀(l:Ω) (a:Int),(∀x∈l,0<=x/\x<=B)->a<=l.foldl (· + ·) a/\l.foldl (· + ·) a<=a+B*l.length by
  intro hl;have:=h l 0 hl;unfold k9;omega
 intro l;induction l with
 | nil=>intro a _;simp
 | cons x l ih=>
  intro a hl;have h1:=ih (a+x) λy hy=>hl y (.tail _ hy);have h2:=hl x (.head _);rw[xxq,zzj];have e:B*((l.length+1:Nat):Int)=B*(l.length:Int)+B:=by rw[Int.natCast_add,Int.mul_add];simp
  rw[e];omega
def cx.chunks(cf:dL)(c:cx)(t:Int):Int:=((gv c.k.ts t).length:Int) / cf.chunk+2
def cx.oY(cf:dL)(c:cx)(s:Η):Int:=match Aj s with
 | none=>0
 | some g=>if g.1<cf.tables then c.chunks cf g.1 else 0
def cx.asked(cf:dL)(c:cx)(sg:Ψ):Int:=k9 (sg.map (c.oY cf))
def cx.lZ(c:cx)(aw:Int):Ψ:=match c.k.gN aw with
 | .ok t=>t.signals
 | .error _=>[]
structure Eo where
 cKr:Int
 read:Int
 KO:Int
 tail:Bool
 chunks:Int
 bRi:Int
 wait:Int
deriving DecidableEq
def CJ(l:Eo):Ξ:=[Γ l.cKr,Γ l.read,Γ l.KO,.bool l.tail,Γ l.chunks,Γ l.bRi,Γ l.wait]
def cx.y'(cf:dL)(c:cx):Ω:=(je c.m.reqs).map λr=>c.chunks cf r.table
def cx.cz2(cf:dL)(c:cx):Ω:=(List.range (c.head-c.m.at_).toNat).map λi:Nat=>c.asked cf (c.lZ (c.m.at_+1+(i:Int)))
def cx.load(cf:dL)(c:cx):Eo:=
 ⟨c.head-c.pos,c.q.length,(c.s.L.length:Int)+c.s.out,decide (c.last<c.m.at_),k9 (c.y' cf)+k9 (c.cz2 cf),c.s.k.plan.length,max (c.s.eQ-c.now) 0⟩
def EV{cf:dL}{kc:dW}{n:Nat}(hc:CC cf kc n){c:cx}(hl:∀C∈c.k.ts,C.length<=1000)(t:Int):2<=c.chunks cf t/\c.chunks cf t<=1002:=by
 have h1:(gv c.k.ts t).length<=1000:=by
  unfold gv;split
  ·exact zz4 _
  cases h:c.k.ts[t.toNat]? with
  | none=>exact zz4 _
  | some C=>exact hl C (yy5 h)
 have h2:=hc.c1;unfold cx.chunks;have h3:((gv c.k.ts t).length:Int) / cf.chunk<=(gv c.k.ts t).length:=Int.ediv_le_self _ (by omega);have h4:0<=((gv c.k.ts t).length:Int) / cf.chunk:=Int.ediv_nonneg (by omega) (by omega);omega
def RZ{cf:dL}{kc:dW}{n:Nat}(hc:CC cf kc n){c:cx}(hl:∀C∈c.k.ts,C.length<=1000)(s:Η):0<=c.oY cf s/\c.oY cf s<=1002:=by
 unfold cx.oY;split
 ·omega
 split
 ·have:=EV hc hl (t:=‹Int × Int›.1);omega
 omega
section
variable (sp:Nat) (ts:List (List Row))
def cKb(t:Int):SP 128 [cH sp,Γ t] [.ob (dV sp ts)] (cE (Γ ((gv ts t).length:Nat)) [.ob (dV sp ts)]):=by
 refine Enzz λW F w hS=>?_;apply cLt;delta bW a_ cP ai;refine Cg (yu sp ts t) λw hS=>?_;refine zy (λh=>?_) (λh=>?_)
 ·rw[Ed (yy2 h)];exact⟨_,⟨rfl,rfl⟩,hS⟩
 obtain⟨h0,h1⟩:=zzp h;obtain⟨t,rfl⟩:∃n:Nat,t=n:=⟨t.toNat,by omega⟩;have ht:t<ts.length:=by omega
 rw[ow ts t ht];obtain⟨v,L,hL,hS⟩:=dV.iff.1 hS;obtain⟨b,hb⟩:=Ak hL ht;have hl:=ub hL;refine Gp ?_;refine yh hS Xh vy hb (by omega) (i:=0) rfl ?_;have hS:=zh.take (SL.cD hS (t:=.ob (zh eF L)::.pt sp [v] 197::jG v L::F) Xi) hb;refine Cc (YM b ts[t]) ?_;clear hS;rintro _ post ⟨rfl,rfl⟩ w hS;try simp only[app]at hS
 have hS:=zh.back (SL.cD hS (t:=.ob (eF (b,ts[t]))::.ob (zh eF (L.eraseIdx t))::.pt sp [v] 197::jG v L::F) Xi) hb;exact⟨_,⟨rfl,rfl⟩,SL.cD (dV.put hL hS Xp) Xi⟩
end
section
variable (p:ig) (cf:dL) (kc:dW) (H:bw) (c:cx)
def Zn{n:Nat}(hc:CC cf kc n)(hl:∀C∈c.k.ts,C.length<=1000)(t:Int):SP 74 [cH p.np,Γ t] [.ob (cn p cf kc H c)] (cE (Γ (c.chunks cf t)) [.ob (cn p cf kc H c)]):=by
 refine Enzz λW F w hS=>?_;apply cTx;delta bW a_ aW b_ ai;obtain⟨dv,hS⟩:=cn.open hS Xr;have hS:=dc.iff.1 (SL.cD hS (t:=.ob (dc p.sp p.tp p.w.dp p.sl c.k)::.pt p.np (oe p cf c.pos dv) 72::pG dv c.dD::.ob (dA p.w kc H c.s)::.ob (db p.mp p.wi H c.m)::.pt p.sn (iY p.sp p.mp p.wi p.dg cf.chunk) 234::.ob (fo p.dg c.dr)::.ob (Ring p.rb kc.cap (c.q.map jz))::.ob (gQ p.ck [] c.now)::iS p.bp cf.every c.due c.last::F) Xi);refine Gn λw hS=>?_;refine Cg (cKb p.tp c.k.ts t) λw hS=>?_;have h1:=EV hc hl t;unfold cx.chunks at h1;have gl:=hc.c1;refine K1 (by omega) (by rw[xx4 (by omega)];omega) ?_;rw[xx4 (by omega)];refine Gp ?_;have hS:=dc.put c.k hS Xp;have hS:=cn.put c hS Xp;exact cF hS
def QG(g b out:Nat):SP 62 [Δ g] [.pt g [Δ b,Γ out] 144] (cE (Γ out) [.pt g [Δ b,Γ out] 144]):=by
 refine Enzz λW F w hS=>?_;apply ai8;delta bW;refine Gp ?_;(exact cF hS)
def qM(kp gp dp lp pp:Nat)(aw:Int)(rv:Ε):SP 70 [iy kp] [.pt kp (od gp dp lp pp aw rv) 78] (cE (iy pp) [.pt kp (od gp dp lp pp aw rv) 78]):=by
 refine Enzz λW F w hS=>?_;apply ai9;delta bW;refine Gp ?_;(exact cF hS)
def Z5{N:Nat}(hg:ij c.k.g N)(hN:N<=1000000000)(aw:Int)(hl : -9000000000000000000<=aw/\aw<=9000000000000000000):SP 24 [cH p.np,Γ aw] [.ob (cn p cf kc H c),.mem H]
  (λv post=>∃(x:lM) (t:cM) (e:Int),v= .tuple #[agg (eV x),Γ e]/\(x.aw=t.aw/\x.kind=t.kind/\x.mark=t.mark)/\t.signals=c.lZ aw/\t.changes.length<=16/\t.signals.length<=2/\(∀s∈t.signals,s.size<=40)/\post=[l8 x.cv t.changes,mf x.sv t.signals,.ob (cn p cf kc H c),.mem H]):=by
 refine Enzz λW F w hS=>?_;apply cOy;delta a_ b_ ai bR;refine Gb λzb w hS=>?_;obtain⟨dv,hS⟩:=cn.open hS Xr;refine Gp ?_;refine Cc (ZU p.sp p.tp p.w.dp p.sl c.k hg hN H aw hl) ?_;clear hS;rintro r post hq w hS;unfold Ax at hq;cases hr:c.k.gN aw with
 | error e=>
  rw[hr]at hq
  obtain⟨dO,rfl,rfl⟩:=hq;try simp only[app]at hS
  have hS:=cn.put c hS Xp;unfold eV vm;refine Gn λw hS=>?_;have hS:SL W (l8 Θ []::mf Θ []::_) w:=bF.nil (t:=40) (sz:=4) (bF.nil (t:=9) (sz:=1) hS);exact⟨[l8 Θ [],mf Θ [],.ob (cn p cf kc H c),.mem H],⟨vm,⟨0,0,[],[],0⟩,e,rfl,⟨rfl,rfl,rfl⟩,by unfold cx.lZ;rw[hr],by decide,by decide,(λs hs=>by cases hs),rfl⟩,aR hS⟩
 | ok t=>
  rw[hr]at hq
  obtain⟨x,rfl,hx,rfl⟩:=hq;have sL:eG t=true:=by
   unfold cW.gN at hr;split at hr
   ·cases hr
   exact Il hr
  have hm:=my sL;try simp only[app]at hS
  have gl:x.cv.oneCell'=true:=bF.one (hS.perm (fq.perm (c:=l8 x.cv t.changes) Xr));have ju:x.sv.oneCell'=true:=bF.one (hS.perm (fq.perm (c:=mf x.sv t.signals) Xr));have hS:=cn.put c hS Xp;refine Gp ?_;refine zt (vs:=eV x) hS Xu rfl rfl (vB (aw:=x.aw) (kind:=x.kind) (mark:=x.mark) gl ju) λw hS=>?_;refine zr hS Xh rfl ?_;exact⟨[l8 x.cv t.changes,mf x.sv t.signals,.ob (cn p cf kc H c),.mem H],⟨x,t,0,rfl,hx,by unfold cx.lZ;rw[hr],hm.2.2.2.1,hm.2.2.2.2.1,hm.2.2.2.2.2.2,rfl⟩,aR hS⟩
def bw0{N:Nat}(hg:ij c.k.g N)(hN:N<=1000000000)(aw:Int)(hl : -9000000000000000000<=aw/\aw<=9000000000000000000):SP 24 [cH p.np,Γ aw] [.ob (cn p cf kc H c),.mem H]
  (λv post=>∃(x:lM) (t:cM) (e:Int) (H':bw),H.le H'/\v= .tuple #[agg (eV x),Γ e]/\lL H' x t/\t.signals=c.lZ aw/\t.changes.length<=16/\t.signals.length<=2/\(∀s∈t.signals,s.size<=40)/\post=[.ob (cn p cf kc H' c),.mem H']):=by
 intro W F w hS;refine zB.mono (Z5 p cf kc H c hg hN aw hl W F w hS) ?_;rintro u w ⟨post,⟨x,t,e,rfl,⟨e1,e2,e3⟩,h1,h2,h3,h4,rfl⟩,hS⟩;try simp only[app]at hS
 obtain⟨H1,du,hO,hS⟩:=bF.freeze (SL.cD hS (t:=.mem H::l8 x.cv t.changes::mf x.sv t.signals::.ob (cn p cf kc H c)::F) Xi);obtain⟨H2,dF,hN,hS⟩:=bF.freeze hS;rw[GY]at hN
 have hh:=bw.le_trans du dF;have hS:=cn.mono hh (SL.cD hS (t:=.ob (cn p cf kc H c)::.mem H2::F) Xi);exact⟨_,⟨x,t,e,H2,hh,rfl,⟨e1,e2,e3,hO.mono dF,hN⟩,h1,h2,h3,h4,rfl⟩,hS⟩
def qu{n:Nat}(hc:CC cf kc n)(hl:∀C∈c.k.ts,C.length<=1000)(x:lM)(t:cM)(hx:lL H x t)(h2:t.signals.length<=2)(xt:∀s∈t.signals,s.size<=40):SP 75 [cH p.np,agg (eV x)] [.ob (cn p cf kc H c),.mem H] (cE (Γ (c.asked cf t.signals)) [.ob (cn p cf kc H c),.mem H]):=by
 refine Enzz λW F w hS=>?_;apply cTy;delta aI a_ b_ ai;refine zu hS λxb w hS=>?_;unfold eV at hS;refine Gp ?_;refine zo hx.sv ?_;refine⟨λus w=>∃i:Nat,us=[Γ (k9 ((t.signals.take i).map (c.oY cf))),Γ i]/\i<=t.signals.length/\SL W (.ob (cn p cf kc H c)::.mem H::F) w,
  λus _=>match us with|[_,.int _ i]=>(t.signals.length-i).toNat|_=>0,⟨0,rfl,by omega,aR hS⟩,?_⟩
 clear hS;rintro _ _ w ⟨i,cT,hi,hS⟩;cases cT;have kf:=GZ (B:=1002) (by decide) ((t.signals.take i).map (c.oY cf)) λy hy=>by
  obtain⟨s,_,rfl⟩:=zzx.1 hy;exact RZ hc hl s
 rw[zzn,zzg]at kf
 refine cA (λh=>?_) (λh=>?_)
 ·have cG:i<t.signals.length:=by omega
  have e:(t.signals.take (i+1)).map (c.oY cf)=(t.signals.take i).map (c.oY cf)++[c.oY cf t.signals[i]]:=by rw[zze cG,zzt];rfl
  have mS:=La ((t.signals.take i).map (c.oY cf)) (c.oY cf t.signals[i]);rw[<- e]at mS
  have hs:=xt _ (zzh cG);refine yT hS Xh hx.sv cG (u:=.string t.signals[i]) (by simp[cG]) ?_;generalize t.signals[i]=s at *
  generalize k9 ((t.signals.take i).map (c.oY cf))=a at *
  have uJ:∀g:Int,2<=c.chunks cf g/\c.chunks cf g<=1002:=EV hc hl;refine Cc (Yf s (by omega)) ?_;clear hS;rintro _ post ⟨rfl,rfl⟩ w hS;try simp only[app]at hS
  have hq:c.oY cf s=match Aj s with
   | none=>0
   | some g=>if g.1<cf.tables then c.chunks cf g.1 else 0:=rfl
  cases hp:Aj s with
  | none=>
   rw[hp]at hq
   rw[hq]at mS
   rw[show GU (none:Option (Int × Int))= .tuple #[agg [Γ 0,Γ 0],.bool false] from rfl];refine Gm λb w hS=>?_;exact⟨⟨i+1,by rw[mS];simp,by omega,aR hS⟩,by dsimp only;omega⟩
  | some g=>
   obtain⟨g1,g2⟩:=g;rw[hp]at hq
   rw[hq]at mS
   dsimp only at mS;rw[show GU (some (g1,g2))= .tuple #[agg [Γ g1,Γ g2],.bool true] from rfl];refine Gm λb w hS=>?_;obtain⟨dv,hS⟩:=cn.open hS Xr;refine Gp ?_;have hS:=cn.put c hS Xp;refine za (λhg=>?_) (λhg=>?_)
   ·rw[zzd hg]at mS
    have:=uJ g1;refine Gp ?_;refine Cg (Zn p cf kc H c hc hl g1) λw hS=>?_;exact⟨⟨i+1,by rw[mS],by omega,aR hS⟩,by dsimp only;omega⟩
   rw[zzb hg]at mS
   refine Gp ?_;exact⟨⟨i+1,by rw[mS];simp,by omega,aR hS⟩,by dsimp only;omega⟩
 have:i=t.signals.length:=by omega
 subst this;rw[zz0];exact cF hS
end
abbrev Bz(cf:dL)(c:cx)(k:Int):Ξ:=[Γ (cO c.k.g.bI-c.pos),Γ c.q.length,Γ ((c.s.L.length:Int)+c.s.out),.bool (decide (c.last<c.m.at_)),Γ k,Γ c.s.k.plan.length,Γ (max (c.s.eQ-c.now) 0)]
structure LdB(cf:dL)(kc:dW)(n:Nat)(c:cx)(N:Nat):Prop where
 g:ij c.k.g N
 N:N<=1000000000
 rows:∀C∈c.k.ts,C.length<=1000
 pos:0<=c.pos/\c.pos<=1099511627776
 at_:0<=c.m.at_/\c.m.at_<=1099511627776
 eQ:0<=c.s.eQ/\c.s.eQ<=4503599627370496
 now:0<=c.now/\c.now<=1125899906842624
 rq:c.m.reqs.length<=64
def cHt(c:cx)(aw:Int):(c.lZ aw).length<=2:=by
 unfold cx.lZ;split
 ·rename_i t hr;unfold cW.gN at hr;split at hr
  ·cases hr
  exact (my (Il hr)).2.2.2.2.1
 exact zz4 _
section
variable (p:ig) (cf:dL) (kc:dW) (H:bw) (c:cx)
set_option maxHeartbeats 16000000 in
def Qr{n N:Nat}(hc:CC cf kc n)(hb:LdB cf kc n c N):SP 26 [cH p.np] [.ob (cn p cf kc H c),.mem H] (Aq p cf kc H c (agg (CJ (c.load cf)))):=by
 refine Enzz λW F w hS=>?_;apply cO7;delta aI a_ aW b_ Cq EG Cr ai bR;have hg:=hb.g;have hN:=hb.N;have hh:=sH hg.ok.bI;have Fx:=hb.pos;have rF:=hb.at_;have hb3:=hb.eQ;have Fy:=hb.now;have lP:=hb.rq;refine Gb λzb w hS=>?_;obtain⟨dv,hS⟩:=cn.open hS Xr;obtain⟨ov,nv,hi,hS⟩:=dA.open hS Xr;obtain⟨rv,hr,hS⟩:=cZ.open hS Xr;obtain⟨hG,hS⟩:=Gate.DY hS Xr;have gL:∀(lb:Nat) (w:Ζ),SL W (.pt lb [Γ (cO c.k.g.bI-c.pos),Γ c.q.length,Γ ((c.s.L.length:Int)+c.s.out),.bool (decide (c.last<c.m.at_)),Γ 0,Γ c.s.k.plan.length,Γ (max (c.s.eQ-c.now) 0)] 96::.pt zb [Γ 0,Γ 0,Γ 0,.bool false,Γ 0,Γ 0,Γ 0] 96::.pt p.w.qp [Δ p.w.qb,Γ c.s.out] 144::.ob (Ring p.w.qb kc.cap (c.s.L.map ie))::.pt p.w.kp (od p.w.gp p.w.dp p.w.lp p.w.pp c.s.k.aw rv) 78::.ob (gy p.w.gp c.s.k.ts)::.ob (dx p.w.lp p.w.dp c.s.k.g)::.ob (gJ p.w.pp c.s.k.plan)::.ob (cw p.w.dp c.s.k.d)::.pt p.w.wp (nL p.w.kp p.w.qp p.w.rp kc.cN c.s.held.aw ov nv c.s.n) 242::jV p.w.rp kc.b kc.m kc.j c.s.fW c.s.eQ::.pt p.np (oe p cf c.pos dv) 72::pG dv c.dD::.ob (dc p.sp p.tp p.w.dp p.sl c.k)::.ob (db p.mp p.wi H c.m)::.pt p.sn (iY p.sp p.mp p.wi p.dg cf.chunk) 234::.ob (fo p.dg c.dr)::.ob (Ring p.rb kc.cap (c.q.map jz))::.ob (gQ p.ck [] c.now)::iS p.bp cf.every c.due c.last::.mem H::F) w ->
   ∃VR:Nat,[Δ lb]=[Δ VR]/\SL W (.pt VR (Bz cf c 0) 96::.pt zb [Γ 0,Γ 0,Γ 0,.bool false,Γ 0,Γ 0,Γ 0] 96::.ob (cn p cf kc H c)::.mem H::F) w:=λlb w hS=>by
  have hS:=Gate.put hG hS Xp;have hS:=cZ.eX (g:=c.s.k.g) (d:=c.s.k.d) (ts:=c.s.k.ts) (plan:=c.s.k.plan) (aw:=c.s.k.aw) (reqs:=c.s.k.reqs) hS hr Xp;have hS:SL W (.ob (cZ p.w.kp p.w.gp p.w.dp p.w.lp p.w.pp H c.s.k)::_) w:=hS;have hS:=dA.put c.s hS hi Xp;have hS:=cn.put c hS Xp;exact⟨lb,rfl,aR hS⟩
 have hL:(c.s.L.length:Int)<=64/\(c.s.out:Int)<=64:=by have:=hG.1;rw[zzn]at this;have:=hG.2;omega
 refine⟨λus w=>∃lb:Nat,us=[Δ lb]/\SL W (.pt lb (Bz cf c 0) 96::.pt zb [Γ 0,Γ 0,Γ 0,.bool false,Γ 0,Γ 0,Γ 0] 96::.ob (cn p cf kc H c)::.mem H::F) w,?_,?_⟩
 ·repeat' (first
   | refine Gp ?_
   | refine Gw λw hS=>?_
   | refine Gb λb w hS=>?_
   | refine Cg (zI p.sp p.tp p.w.dp p.sl c.k hg hN) λw hS=>?_
   | refine Cg (yw p.rb kc.cap (c.q.map jz)) λw hS=>?_
   | refine Cg (yw p.w.qb kc.cap (c.s.L.map ie)) λw hS=>?_
   | refine Cg (QG p.w.qp p.w.qb c.s.out) λw hS=>?_
   | refine Cg (yx p.mp p.wi H c.m) λw hS=>?_
   | refine Cg (qr p.bp cf.every c.due c.last) λw hS=>?_
   | refine Cg (qM p.w.kp p.w.gp p.w.dp p.w.lp p.w.pp c.s.k.aw rv) λw hS=>?_
   | refine Cg (bR6 p.w.pp c.s.k.plan) λw hS=>?_
   | refine Cg (ZW p.w.rp kc.b kc.m kc.j c.s.fW c.s.eQ) λw hS=>?_
   | refine Cg (zY p.ck [] c.now) λw hS=>?_
   | with_reducible refine And.intro ?_ ?_
   | exact gL _ _ (aR hS))
  all_goals done
 clear hS gL;rintro _ w ⟨lb,cT,hS⟩;cases cT;obtain⟨dv,hS⟩:=cn.open hS Xr;refine Gp ?_;refine Cc (yy p.mp p.wi H c.m (by omega)) ?_;clear hS;rintro u post rfl w hS;try simp only[app]at hS
 refine Cc (yY u c.m.reqs (by omega)) ?_;clear hS;rintro u2 post rfl w hS;try simp only[app]at hS
 have hRl:(je c.m.reqs).length<=64:=by
  have:=yyp (λr:Rq=>!r.done) c.m.reqs;unfold je;omega
 have lr:c.y' cf=(je c.m.reqs).map λr=>c.chunks cf r.table:=rfl;generalize je c.m.reqs=R at *
 refine zz hS (v:=u2) Xh ?_;have hS:=cn.put c hS Xp;have hS:SL W (.pt lb (Bz cf c 0) 96::oW u2 R::.pt zb [Γ 0,Γ 0,Γ 0,.bool false,Γ 0,Γ 0,Γ 0] 96::.ob (cn p cf kc H c)::.mem H::F) w:=aR hS;have uJ:∀t,2<=c.chunks cf t/\c.chunks cf t<=1002:=EV hc hb.rows;refine⟨λus w=>∃i:Nat,us=[Γ i]/\i<=R.length/\SL W (.pt lb (Bz cf c (k9 ((R.take i).map λr=>c.chunks cf r.table))) 96::oW u2 R::.pt zb [Γ 0,Γ 0,Γ 0,.bool false,Γ 0,Γ 0,Γ 0] 96::.ob (cn p cf kc H c)::.mem H::F) w,
  λus _=>match us with|[.int _ i]=>(R.length-i).toNat|_=>0,⟨0,rfl,by omega,hS⟩,?_⟩
 clear hS;rintro _ w ⟨i,cT,hi,hS⟩;cases cT;have kf:=GZ (B:=1002) (by decide) ((R.take i).map λr=>c.chunks cf r.table) λy hy=>by
  obtain⟨r,_,rfl⟩:=zzx.1 hy;have:=uJ r.table;omega
 rw[zzn,zzg]at kf
 refine cA (λh=>?_) (λh=>?_)
 ·have cG:i<R.length:=by omega
  have e:((R.take (i+1)).map λr=>c.chunks cf r.table)=((R.take i).map λr=>c.chunks cf r.table)++[c.chunks cf R[i].table]:=by rw[zze cG,zzt];rfl
  have mS:=La ((R.take i).map λr=>c.chunks cf r.table) (c.chunks cf R[i].table);rw[<- e]at mS
  refine zU hS (v:=u2) (t:=86) Xh nj (x:=R[i]) (by simp[cG]) cG ?_;generalize R[i]=r at *
  generalize k9 ((R.take i).map λr=>c.chunks cf r.table)=a at *
  have mr:=uJ r.table;refine Gb λrb w hS=>?_;unfold gF at hS;refine Cg (Zn p cf kc H c hc hb.rows r.table) λw hS=>?_;refine⟨⟨i+1,rfl,by omega,?_⟩,by dsimp only;omega⟩;rw[mS];exact aR hS
 have:i=R.length:=by omega
 subst this;rw[zz0,<- lr]at hS
 have vZ:0<=k9 (c.y' cf)/\k9 (c.y' cf)<=64128:=by
  rw[zz0,<- lr]at kf;omega
 obtain⟨dv,hS⟩:=cn.open hS Xr;refine Gp ?_;refine Cg (yx p.mp p.wi H c.m) λw hS=>?_;have hS:=cn.put c hS Xp;have hS:SL W (.pt lb (Bz cf c (k9 (c.y' cf))) 96::.pt zb [Γ 0,Γ 0,Γ 0,.bool false,Γ 0,Γ 0,Γ 0] 96::.ob (cn p cf kc H c)::.mem H::F) w:=aR hS;have tI:c.head=cO c.k.g.bI:=rfl;have TZ:∀aw,0<=c.asked cf (c.lZ aw)/\c.asked cf (c.lZ aw)<=2004:=λaw=>by
  have h1:=GZ (B:=1002) (by decide) ((c.lZ aw).map (c.oY cf)) λy hy=>by
   obtain⟨s,_,rfl⟩:=zzx.1 hy;exact RZ hc hb.rows s
  have h2:=cHt c aw;rw[zzn]at h1
  unfold cx.asked;omega
 refine⟨λus w=>∃(k:Nat) (H2:bw),us=[Γ (c.m.at_+1+k)]/\k<=(c.head-c.m.at_).toNat/\H.le H2/\SL W (.pt lb (Bz cf c (k9 (c.y' cf)+k9 ((List.range k).map λi:Nat=>c.asked cf (c.lZ (c.m.at_+1+(i:Int)))))) 96::.pt zb [Γ 0,Γ 0,Γ 0,.bool false,Γ 0,Γ 0,Γ 0] 96::.ob (cn p cf kc H2 c)::.mem H2::F) w,
  λus _=>match us with|[.int _ v]=>(c.head+1-v).toNat|_=>0,⟨0,H,by simp,by omega,bw.le_refl H,by rw[show k9 ((List.range 0).map λi:Nat=>c.asked cf (c.lZ (c.m.at_+1+(i:Int))))=0 from rfl,Int.add_zero];exact hS⟩,?_⟩
 clear hS;rintro _ w ⟨k,H2,cT,hk,fu,hS⟩;cases cT;have cnz:=GZ (B:=2004) (by decide) ((List.range k).map λi:Nat=>c.asked cf (c.lZ (c.m.at_+1+(i:Int)))) λy hy=>by
  obtain⟨i,_,rfl⟩:=zzx.1 hy;exact TZ _
 rw[zzn,List.length_range]at cnz
 obtain⟨dv,hS⟩:=cn.open hS Xr;refine Gp ?_;refine Cg (zI p.sp p.tp p.w.dp p.sl c.k hg hN) λw hS=>?_;have hS:=cn.put c hS Xp;refine za (λh=>?_) (λh=>?_)
 ·have dj:k<(c.head-c.m.at_).toNat:=by omega
  refine Cc (bw0 p cf kc H2 c hg hN (c.m.at_+1+k) (by omega)) ?_;clear hS;rintro _ post ⟨x,t,e,H3,fB,rfl,hx,Bo,_,h2,xt,rfl⟩ w hS;try simp only[app]at hS
  have mS:=La ((List.range k).map λi:Nat=>c.asked cf (c.lZ (c.m.at_+1+(i:Int)))) (c.asked cf (c.lZ (c.m.at_+1+(k:Int))));have er:((List.range (k+1)).map λi:Nat=>c.asked cf (c.lZ (c.m.at_+1+(i:Int))))=((List.range k).map λi:Nat=>c.asked cf (c.lZ (c.m.at_+1+(i:Int))))++[c.asked cf (c.lZ (c.m.at_+1+(k:Int)))]:=by rw[List.range_succ,zzt];rfl
  rw[<- er,<- Bo]at mS
  have hak:=TZ (c.m.at_+1+k);rw[<- Bo]at hak
  generalize k9 ((List.range k).map λi:Nat=>c.asked cf (c.lZ (c.m.at_+1+(i:Int))))=a at *
  refine Gm λb w hS=>?_;refine zt (vs:=eV x) hS Xu rfl rfl hx.DX λw hS=>?_;refine Gn λw hS=>?_;refine Cg (qu p cf kc H3 c hc hb.rows x t hx h2 xt) λw hS=>?_;refine⟨⟨k+1,H3,?_,by omega,bw.le_trans fu fB,?_⟩,by dsimp only;omega⟩
  ·rw[show c.m.at_+1+((k+1:Nat):Int)=c.m.at_+1+k+1 by omega]
  rw[mS,<- Int.add_assoc];exact aR hS
 have Uo:k=(c.head-c.m.at_).toNat:=by omega
 refine Gn λw hS=>?_;have hv:k9 (c.y' cf)+k9 ((List.range k).map λi:Nat=>c.asked cf (c.lZ (c.m.at_+1+(i:Int))))=(c.load cf).chunks:=by
  rw[Uo];rfl
 rw[hv]at hS ⊢
 exact⟨[.ob (cn p cf kc H2 c),.mem H2],⟨rfl,H2,fu,rfl⟩,aR hS⟩
end
set_option maxRecDepth 100000
open Go.ChangeShapes Go.WideShapes Go.ChangeAt Go.RowKit
def bI4(a b:Eo)(w:Ζ):(Op.equal 96 (agg (CJ a)) (agg (CJ b))).run prog w= .ok (decide (a=b)) w:=by
 refine wy underlying96 (by kernel_rfl) ?_;obtain⟨a1,a2,a3,a4,a5,a6,a7⟩:=a;obtain⟨b1,b2,b3,b4,b5,b6,b7⟩:=b;simp only[Eo.mk.injEq];simp[CJ,Op.eqFields,part,xxd (h:=yyr),xxd (h:=yyd),vvi (h:=wwk),Result.andThen]
 iterate 6 refine Vz (f:=λx=>Result.ok x w) ?_
 exact Vy (f:=λx=>Result.ok x w)
section
variable {cf:dL} {kc:dW} {n j:Nat} {AL:List cM} {c:cx}
def Ie(h:CS cf kc n j AL c)(hc:CC cf kc n)(hj:j<=190)(p:ig)(H:bw):SP 26 [cH p.np] [.ob (cn p cf kc H c),.mem H] (Aq p cf kc H c (agg (CJ (c.load cf)))):=by
 obtain⟨xs,hb⟩:=h.mJ;have hv:=tX j;exact Qr p cf kc H c hc ⟨hb.sg,by omega,hb.st2,hb.pos,⟨hb.mx.mg,hb.mx.oZ⟩,hb.eQ,hb.now,hb.mx.may.1⟩
end
set_option maxRecDepth 100000
open Go.RowKit
def aic{ts:iM}(h:∀C∈ts,C.length<=1000)(t:Int):(gv ts t).length<=1000:=by
 unfold gv;split
 ·exact zz4 _
 cases e:ts[t.toNat]? with
 | none=>exact zz4 _
 | some C=>exact h C (yy5 e)
def cn.BU{W w:Ζ}{l F:Β}{p:ig}{cf:dL}{kc:dW}{H:bw}{c:cx}(hS:SL W l w)(r:fq (.ob (cn p cf kc H c)) l F):
  ∃(dv:Ε) (X:zC),SL W (.pt p.np (oe p cf c.pos dv) 72::.ob (cZ p.w.kp p.w.gp p.w.dp p.w.lp p.w.pp H c.s.k)::.ob X::F) w /\
   ∀{W' w':Ζ} {l' F':Β},SL W' l' w'->gE [.pt p.np (oe p cf c.pos dv) 72,.ob (cZ p.w.kp p.w.gp p.w.dp p.w.lp p.w.pp H c.s.k),.ob X] l' F'->SL W' (.ob (cn p cf kc H c)::F') w':=by
 obtain⟨dv,hS⟩:=cn.open hS r;obtain⟨ov,nv,hi,hS⟩:=dA.open hS Xr;refine⟨dv,zH True [pG dv c.dD,.pt p.w.wp (nL p.w.kp p.w.qp p.w.rp kc.cN c.s.held.aw ov nv c.s.n) 242,.ob (Gate p.w.qp p.w.qb kc.cap c.s.out (c.s.L.map ie)),jV p.w.rp kc.b kc.m kc.j c.s.fW c.s.eQ,.ob (dc p.sp p.tp p.w.dp p.sl c.k),.ob (db p.mp p.wi H c.m),.pt p.sn (iY p.sp p.mp p.wi p.dg cf.chunk) 234,.ob (fo p.dg c.dr),.ob (Ring p.rb kc.cap (c.q.map jz)),.ob (gQ p.ck [] c.now),iS p.bp cf.every c.due c.last],?_,λ{W' w' l' F'} h k=>?_⟩
 ·have h2:SL W (.ob (zH True [pG dv c.dD,.pt p.w.wp (nL p.w.kp p.w.qp p.w.rp kc.cN c.s.held.aw ov nv c.s.n) 242,.ob (Gate p.w.qp p.w.qb kc.cap c.s.out (c.s.L.map ie)),jV p.w.rp kc.b kc.m kc.j c.s.fW c.s.eQ,.ob (dc p.sp p.tp p.w.dp p.sl c.k),.ob (db p.mp p.wi H c.m),.pt p.sn (iY p.sp p.mp p.wi p.dg cf.chunk) 234,.ob (fo p.dg c.dr),.ob (Ring p.rb kc.cap (c.q.map jz)),.ob (gQ p.ck [] c.now),iS p.bp cf.every c.due c.last])::.pt p.np (oe p cf c.pos dv) 72::.ob (cZ p.w.kp p.w.gp p.w.dp p.w.lp p.w.pp H c.s.k)::F) w:=by
   refine SL.fact.2 ⟨trivial,?_⟩;simp only[zzv,zzq];exact aR hS
  exact SL.cD h2 Xi
 have h:SL W' (_::_::_::F') w':=h.pick k;have h:=(SL.fact.1 (h.perm (fq.tl (fq.tl fq.hd)).perm)).2;rw[<- AH]at h
 simp only[app]at h;have h:=dA.put c.s h hi Xp;exact cn.put c h Xp
section
variable (p:ig) (cf:dL) (kc:dW) (H:bw) (c:cx)
def ZA(hl:∀C∈c.k.ts,C.length<=1000000)(t:Int):SP 21 [cH p.np,Γ t] [.ob (cn p cf kc H c)] (λu post=>post=[fJ u (gv c.k.ts t),.ob (cn p cf kc H c)]):=by
 refine Enzz λW F w hS=>?_;apply cN3;delta bW a_ b_;obtain⟨dv,hS⟩:=cn.open hS Xr;have hS:=dc.iff.1 (SL.cD hS (t:=.ob (dc p.sp p.tp p.w.dp p.sl c.k)::.pt p.np (oe p cf c.pos dv) 72::pG dv c.dD::.ob (dA p.w kc H c.s)::.ob (db p.mp p.wi H c.m)::.pt p.sn (iY p.sp p.mp p.wi p.dg cf.chunk) 234::.ob (fo p.dg c.dr)::.ob (Ring p.rb kc.cap (c.q.map jz))::.ob (gQ p.ck [] c.now)::iS p.bp cf.every c.due c.last::F) Xi);refine Gp ?_;refine Cc (Yv p.tp c.k.ts t hl) ?_;clear hS;rintro u post rfl w hS;try simp only[app]at hS
 have hS:=dc.put c.k hS Xp;have hS:=cn.put c hS Xp;exact⟨_,rfl,aR hS⟩
def GH{H:bw}{sz:Nat}{a:Option Addr}{c:Nat}:de H sz (.slice a 0 c) 0 []:=⟨by simp,a,c,rfl,zz4 _,.inl rfl⟩
def KR{H:bw}{sz ob n c:Nat}{cells rest:Ξ}(h:∀o v,(cells++rest)[o]?=some v->H.cell ob o=some v)(hl:cells.length=n*sz)(hc:n<=c):de H sz (.slice (some ⟨ob,0,none⟩) n c) n cells:=by
 refine⟨hl,_,_,rfl,hc,.inr ⟨ob,0,rfl,λj u hu=>?_⟩⟩;rw[yya];refine h j u ?_;rw[zzm (zzf.1 hu).1];exact hu
def a_s{n j:Nat}{AL:List cM}(h:CS cf kc n j AL c)(hc:CC cf kc n)(hj:j<=190)(s:g_)(hs:Es s)(sb cb kb:Nat)(R1 R2 R3:Ξ):
  SP 10 [cH p.np,agg (ji ⟨s.kind,s.n,.slice (some ⟨sb,0,none⟩) s.sg.length (s.sg.length+3),.slice (some ⟨cb,0,none⟩) s.l.length (s.l.length+3),s.ft,.slice (some ⟨kb,0,none⟩) s.keep.length (s.keep.length+3)⟩)]
   [.ob (cn p cf kc H c),.pt sb (s.sg.map Value.string++R1) 9,.pt cb ((s.l.map dC).flatten++R2) 40,.pt kb (s.keep.map (Value.int .i64)++R3) 3,.mem H]
   (λv post=>v=agg (tj (c.h_ cf kc s).2)/\∃(q:ig) (H':bw),H.le H'/\q.np=p.np/\post=[.ob (cn q cf kc H' (c.h_ cf kc s).1),.pt sb (s.sg.map Value.string++R1) 9,.pt cb ((s.l.map dC).flatten++R2) 40,.pt kb (s.keep.map (Value.int .i64)++R3) 3,.mem H']):=by
 intro W F w hS;try simp only[app]at hS
 have hl:=hs.l;by_cases h8:s.kind=8
 ·refine zB.mono (YF p cf kc H c h hc hj (.pt kb (s.keep.map (Value.int .i64)++R3) 3) ⟨s.kind,s.n,.slice (some ⟨sb,0,none⟩) s.sg.length (s.sg.length+3),.slice (some ⟨cb,0,none⟩) s.l.length (s.l.length+3),s.ft,.slice (some ⟨kb,0,none⟩) s.keep.length (s.keep.length+3)⟩ s rfl (λhS=>?_) h8 W (.pt sb (s.sg.map Value.string++R1) 9::.pt cb ((s.l.map dC).flatten++R2) 40::F) w (aR hS)) ?_
  ·obtain⟨H',_,h2,h3,h4⟩:=SL.u9 hS;exact⟨H',KR h2 (by simp) (by omega),h3,λhS=>h4 hS⟩
  rintro u w ⟨post,⟨rfl,q,H',hh,h1,h2,h3,rfl⟩,hS⟩;rw[S0 h8];exact⟨_,⟨rfl,q,H',hh,h1,rfl⟩,aR hS⟩
 obtain⟨hb,hb8⟩:=hs.bare;have tL:s.keep=[]:=hb8.resolve_left h8;by_cases h1:s.kind=1
 ·obtain⟨H1,du,g1,hS,HR⟩:=SL.u9 (SL.cD hS (t:=.mem H::.pt sb (s.sg.map Value.string++R1) 9::.pt cb ((s.l.map dC).flatten++R2) 40::.ob (cn p cf kc H c)::.pt kb (s.keep.map (Value.int .i64)++R3) 3::F) Xi);obtain⟨H2,dF,g2,hS,AJ⟩:=SL.u9 hS;refine zB.mono (YE p cf kc H c h hc hj H2 ⟨s.kind,s.n,.slice (some ⟨sb,0,none⟩) s.sg.length (s.sg.length+3),.slice (some ⟨cb,0,none⟩) s.l.length (s.l.length+3),s.ft,.slice (some ⟨kb,0,none⟩) s.keep.length (s.keep.length+3)⟩ s ⟨rfl,rfl,rfl,(KR g1 (by simp) (by omega)).mono dF,KR g2 (by rw[mN oF]) (by omega),?_⟩ (by omega) h1 W (.pt kb (s.keep.map (Value.int .i64)++R3) 3::F) w (aR hS)) ?_
  ·rw[tL];exact GH
  rintro u w ⟨post,⟨rfl,rfl⟩,hS⟩;have hS:=HR (AJ (SL.cD hS (t:=.mem H2::.ob (cn p cf kc H (c.h_ cf kc s).1)::.pt kb (s.keep.map (Value.int .i64)++R3) 3::F) Xi));exact⟨_,⟨rfl,p,H,bw.le_refl H,rfl,rfl⟩,aR hS⟩
 obtain⟨pw,hg0⟩:=hb.resolve_left h1;refine zB.mono (qw p cf kc H c h hc hj ⟨s.kind,s.n,.slice (some ⟨sb,0,none⟩) s.sg.length (s.sg.length+3),.slice (some ⟨cb,0,none⟩) s.l.length (s.l.length+3),s.ft,.slice (some ⟨kb,0,none⟩) s.keep.length (s.keep.length+3)⟩ s ⟨rfl,rfl,rfl,by rw[hg0];exact GH,by rw[pw];exact GH,by rw[tL];exact GH⟩ (by omega) h8 W (.pt sb (s.sg.map Value.string++R1) 9::.pt cb ((s.l.map dC).flatten++R2) 40::.pt kb (s.keep.map (Value.int .i64)++R3) 3::F) w (aR hS)) ?_;rintro u w ⟨post,⟨rfl,H',hh,rfl⟩,hS⟩;exact⟨_,⟨rfl,p,H',hh,rfl,rfl⟩,aR hS⟩
end
def Ch(X:Μ)(v:Ε)(n:Nat)(cells:Ξ):Prop:=
 ∃a cap,v= .slice a n cap/\∀{W w:Ζ} {l:Β},SL W l w->Has X l->∀j u,j<n->cells[j]?=some u->∃b o,a=some ⟨b,o,none⟩/\w.cell? ⟨b,o+j,none⟩=some u
def de.GG{H:bw}{v:Ε}{n:Nat}{cells:Ξ}(h:de H 1 v n cells):Ch (.mem H) v n cells:=by
 obtain⟨_,a,cap,rfl,_,h4⟩:=h;refine⟨a,cap,rfl,λhS hm j u hj hu=>?_⟩;rcases h4 with rfl|⟨b,o,rfl,h6⟩
 ·omega
 exact⟨b,o,rfl,hS.Gq hm (h6 j u hu)⟩
section
variable {W w:Ζ} {l:Β}
def Q5{X:Μ}{v:Ε}{n:Nat}{cells:Ξ}{K:Ε->Prop}(h:Ch X v n cells)(k:K (Γ n)):zd v K:=by
 obtain⟨a,cap,rfl,_⟩:=h;exact z7 k
def XB{X:Μ}{v u:Ε}{n j:Nat}{k:IntKind}{cells:Ξ}{K:Ε->Prop}(hS:SL W l w)(hm:Has X l)(h:Ch X v n cells)(hj:j<n)(hu:cells[j]?=some u)(hK:K u):
  zk 1 v (.int k (j:Int)) λp=>cC p w K:=by
 obtain⟨a,cap,rfl,h2⟩:=h;obtain⟨b,o,rfl,h3⟩:=h2 hS hm j u hj hu;refine zG hj ⟨_,u,rfl,?_,hK⟩;rw[wwq];exact h3
end
def RG(P:Program)(T:List Bool)(v0:Ε)(v1:Ε)(v2:Ε)(w:Ζ)(R:Ε->Ζ->Prop):Prop:=
 zd v0 λv9=>
 zd v1 λv11=>
 zc .neq v9 v11 λv12=>
 df v12
 (R (.bool false) w)
 (∃(I:Ξ->Ζ->Prop) (μ:Ξ->Ζ->Nat),I [(Γ 0)] w /\
 ∀(v7:Ε) iI,I [v7] iI ->
 zd v0 λwD=>
 zc .lss v7 wD λwE=>
 df wE
 (zi iI λiz=>
 zk 1 v0 v7 λv22=>
 cC v22 iz λv23=>
 zk 1 v1 v7 λv26=>
 cC v26 iz λv27=>
 zK P T v2 [v23,v27] iz λv28 na=>
 y6 v28 λv29=>
 df v29
 (R (.bool false) na)
 (zc .add v7 (Γ 1) λrY=>
 I [rY] na/\μ [rY] na<μ [v7] iI))
 (R (.bool true) iI))
def XK{P:Program}{T:List Bool}{f g:FuncId}{α:Type}[DecidableEq α]{val:α->Ε}(hT:T.getD g false=true)
  (vc:∀v0 v1 v2 w R,RG P T v0 v1 v2 w R->zB P f [v0,v1,v2] w R) (one:∀a b,Spec P g [val a,val b] [] (cE (.bool (decide (a=b))) []))
  (pre:Β) (X Y:Μ) (hX:∀F,Has X (app pre F)) (hY:∀F,Has Y (app pre F)) (u v:Ε) (A B:List α) (hu:Ch X u A.length (A.map val)) (hv:Ch Y v B.length (B.map val)) (hA:A.length<=9223372036854775806) :
  Spec P f [u,v,.func (.func g) #[] #[]] pre (cE (.bool (decide (A=B))) pre):=by
 intro W F w hS;apply vc;unfold RG;refine Q5 hu (Q5 hv ?_);refine cA (λh=>?_) (λh=>?_)
 ·have:A≠B:=λe=>by subst e;exact h rfl
  simp only[this,wwz];exact⟨_,⟨rfl,rfl⟩,hS⟩
 have hl:A.length=B.length:=by omega
 refine⟨λvs w=>∃k:Nat,vs=[Γ k]/\k<=A.length/\A.take k=B.take k/\SL W (app pre F) w,λvs _=>match vs with|[.int _ k]=>(A.length-k).toNat|_=>0,⟨0,rfl,by omega,rfl,hS⟩,?_⟩;clear hS;rintro v7 w ⟨k,JO,hk,mT,hS⟩;cases JO;refine Q5 hu ?_;refine cA (λh=>?_) (λh=>?_)
 ·have jv:k<A.length:=by omega
  have fL:k<B.length:=by omega
  refine yp hS ?_;clear hS;intro w hS;refine XB hS (hX F) hu jv (u:=val A[k]) (by simp[jv]) ?_;refine XB hS (hY F) hv fL (u:=val B[k]) (by simp[fL]) ?_;refine ye (args':=[val A[k],val B[k]]) hT (one A[k] B[k]) rfl hS .nil ?_;clear hS;rintro v post ⟨rfl,rfl⟩ w hS;have hS:SL W (app pre F) w:=hS;refine Gp ?_;refine zy (λhe=>?_) (λhe=>?_)
  ·have:A≠B:=λe=>by subst e;simp at he
   simp only[this,wwz];exact⟨_,⟨rfl,rfl⟩,hS⟩
  have lk:=zzp he;refine Gp ?_;refine⟨⟨k+1,by simp,by omega,?_,hS⟩,by dsimp only;omega⟩;rw[zze jv,zze fL,mT,lk]
 have:k=A.length:=by omega
 subst this;have:A=B:=by rw[zz0,hl,zz0]at mT;exact mT
 simp only[this,ttb];exact⟨_,⟨rfl,rfl⟩,hS⟩
def Cn(z:Ε)(v0:Ε)(w:Ζ)(R:Ε->Ζ->Prop):Prop:=
 ∃(I:Ξ->Ζ->Prop) (μ:Ξ->Ζ->Nat),I [(Γ 0)] w /\
 ∀(v3:Ε) iI,I [v3] iI ->
 zd v0 λv6=>
 zc .lss v3 v6 λv7=>
 df v7
 (zk 1 v0 v3 λue=>
 eE ue z iI λiz=>
 zc .add v3 (Γ 1) λv9=>
 I [v9] iz/\μ [v9] iz<μ [v3] iI)
 (R (.tuple #[]) iI)
def K3{P:Program}{f:FuncId}{z:Ε}(vc:∀v0 w R,Cn z v0 w R->zB P f [v0] w R)(hz:z.oneCell'=true)(b n cap:Nat)(cs:Ξ)(t:Ι)(hn:n<=cs.length)(hb:n<=9223372036854775806):
  Spec P f [.slice (some ⟨b,0,none⟩) n cap] [.pt b cs t] (cE (.tuple #[]) []):=by
 refine Enzz λW F w hS=>?_;apply vc;unfold Cn;refine⟨λvs w=>∃(k:Nat) (ds:Ξ),vs=[Γ k]/\k<=n/\ds.length=cs.length/\SL W (.pt b ds t::F) w,λvs _=>match vs with|[.int _ k]=>(n-k).toNat|_=>0,⟨0,cs,rfl,by omega,rfl,hS⟩,?_⟩;clear hS;rintro v3 w ⟨k,ds,hv,hk,hl,hS⟩;cases hv;refine cA (λh=>?_) (λh=>?_)
 ·have jv:k<n:=by omega
  refine zG jv (Zu hS .hd (u:=ds[k]'(by omega)) (by rw[yya,wwq];exact zzc (by omega)) hz ?_);clear hS;intro w hS;refine Gp ?_;exact⟨⟨k+1,_,by simp,by omega,by rw[yyh];exact hl,hS⟩,by dsimp only;omega⟩
 exact cF hS
def cIo{P:Program}{f:FuncId}{z:Ε}(vc:∀v0 w R,Cn z v0 w R->zB P f [v0] w R)(a:Option Addr)(cap:Nat):
  Spec P f [.slice a 0 cap] [] (cE (.tuple #[]) []):=by
 refine Enzz λW F w hS=>?_;apply vc;unfold Cn;refine⟨λvs w=>vs=[Γ 0]/\SL W F w,λvs _=>0,⟨rfl,hS⟩,?_⟩;clear hS;rintro v3 w ⟨hv,hS⟩;cases hv;refine Gp ?_;refine za (λh=>absurd h (by decide)) (λh=>?_);exact⟨_,⟨rfl,rfl⟩,hS⟩
def cIp{P:Program}{f:FuncId}{z:Ε}(vc:∀v0 w R,Cn z v0 w R->zB P f [v0] w R)(hz:z.oneCell'=true)(v:Ε)(n:Nat)(cells:Ξ)(t:Ι)(hb:n<=9223372036854775806):
  Spec P f [v] [.ob (bF v t 1 n cells)] (cE (.tuple #[]) []):=by
 intro W F w hS;try simp only[app]at hS
 rcases bF.open hS with ⟨⟨a,rfl⟩,rfl,rfl,fY⟩|⟨b,cap,rest,rfl,hc,hl,hr,fY⟩
 ·exact cIo vc a 0 W F w fY
 exact K3 vc hz b n cap (cells++rest) t (by rw[zza];omega) hb W F w fY
def cC5(a b:Int):SP 117 [Γ a,Γ b] [] (cE (.bool (decide (a=b))) []):=by
 refine Enzz λW F w hS=>?_;apply cLl;refine Gp ?_;(exact cF hS)
def cD0(H:bw)(u v:Ε)(A B:Ω)(hu:de H 1 u A.length (A.map (Value.int .i64)))(hv:de H 1 v B.length (B.map (Value.int .i64)))(hn:A.length<=9223372036854775806):
  SP 48 [u,v] [.mem H] (cE (.bool (decide (A=B))) [.mem H]):=by
 refine Enzz λW F w hS=>?_;apply cR9;refine Cc (XK rfl (λv0 v1 v2 w R h=>cLk v0 v1 v2 w R h) cC5 [.mem H] (.mem H) (.mem H) (λ_=>.hd) (λ_=>.hd) u v A B hu.GG hv.GG hn) ?_;clear hS;rintro v post ⟨rfl,rfl⟩ w hS;try simp only[app]at hS
 (exact cF hS)
def Te(a b:d_)(w:Ζ):(Op.equal 40 (agg (dC a)) (agg (dC b))).run prog w= .ok (decide (a=b)) w:=by
 refine wy underlying40 (by kernel_rfl) ?_;obtain⟨a1,a2,a3,a4⟩:=a;obtain⟨b1,b2,b3,b4⟩:=b;simp[dC,Op.eqFields,part,xxd (h:=yyr),xxd (h:=yyd),vvi (h:=wwk),tta (h:=yyz),Result.andThen,toList_inj];by_cases h0:a1=b1<;>by_cases h1:a2=b2<;>by_cases h2:a3=b3<;>by_cases h3:a4=b4<;>simp[*]
def cC4(a b:d_):SP 113 [agg (dC a),agg (dC b)] [] (cE (.bool (decide (a=b))) []):=by
 refine Enzz λW F w hS=>?_;apply cLh;refine zu hS λb1 w hS=>?_;refine zu hS λb2 w hS=>?_;refine zr hS Xh rfl (zr hS Xh rfl (y8 (Te a b w) ?_));(exact cF hS)
def cDz(H:bw)(u v:Ε)(A B:List d_)(hu:de H 4 u A.length (A.map dC).flatten)(hv:de H 4 v B.length (B.map dC).flatten)(hn:A.length<=9223372036854775806):
  SP 46 [u,v] [.mem H] (cE (.bool (decide (A=B))) [.mem H]):=by
 refine Enzz λW F w hS=>?_;apply cR7;refine Cc (GO oF rfl (λv0 v1 v2 w R h=>cLg v0 v1 v2 w R h) cC4 H u v A B hu hv hn) ?_;clear hS;rintro v post ⟨rfl,rfl⟩ w hS;try simp only[app]at hS
 (exact cF hS)
def cC9(a b:Η):SP 115 [.string a,.string b] [] (cE (.bool (decide (a=b))) []):=by
 refine Enzz λW F w hS=>?_;apply cLj;refine Gp ?_;(exact cF hS)
def cD2(H:bw)(u v:Ε)(A B:Ψ)(hu:de H 1 u A.length (A.map Value.string))(hv:de H 1 v B.length (B.map Value.string))(hn:A.length<=9223372036854775806):
  SP 47 [u,v] [.mem H] (cE (.bool (decide (A=B))) [.mem H]):=by
 refine Enzz λW F w hS=>?_;apply cR8;refine Cc (XK rfl (λv0 v1 v2 w R h=>cLi v0 v1 v2 w R h) cC9 [.mem H] (.mem H) (.mem H) (λ_=>.hd) (λ_=>.hd) u v A B hu.GG hv.GG hn) ?_;clear hS;rintro v post ⟨rfl,rfl⟩ w hS;try simp only[app]at hS
 (exact cF hS)
def Co(sz:Nat)(z:Ξ)(t:Ι)(v0:Ε)(w:Ζ)(R:Ε->Ζ->Prop):Prop:=
 zg z t w λv2 iI=>
 ∃(I:Ξ->Ζ->Prop) (μ:Ξ->Ζ->Nat),I [(Γ 0)] iI /\
 ∀(v3:Ε) iz,I [v3] iz ->
 zd v0 λv6=>
 zc .lss v3 v6 λv7=>
 df v7
 (ze sz v2 iz λv12=>
 zk sz v0 v3 λue=>
 zj sz ue v12 iz λna=>
 zc .add v3 (Γ 1) λv9=>
 I [v9] na/\μ [v9] na<μ [v3] iz)
 (R (.tuple #[]) iz)
def X6{P:Program}{f:FuncId}{sz:Nat}{z:Ξ}{e:Ι}(vc:∀v0 w R,Co sz z e v0 w R->zB P f [v0] w R)(hz:z.length=sz)(JU:∀v∈z,v.oneCell'=true)(b n cap:Nat)(cs:Ξ)(t:Ι)(hn:n*sz<=cs.length)(hb:n<=9223372036854775806):
  Spec P f [.slice (some ⟨b,0,none⟩) n cap] [.pt b cs t] (cE (.tuple #[]) []):=by
 refine Enzz λW F w hS=>?_;apply vc;unfold Co;refine Gb λzb w hS=>?_;refine⟨λvs w=>∃(k:Nat) (ds:Ξ),vs=[Γ k]/\k<=n/\ds.length=cs.length/\SL W (.pt zb z e::.pt b ds t::F) w,λvs _=>match vs with|[.int _ k]=>(n-k).toNat|_=>0,⟨0,cs,rfl,by omega,rfl,aR hS⟩,?_⟩;clear hS;rintro v3 w ⟨k,ds,hv,hk,hl,hS⟩;cases hv;refine cA (λh=>?_) (λh=>?_)
 ·have jv:k<n:=by omega
  refine zr hS Xh hz ?_;refine zG jv ?_;have hle:(k+1)*sz<=n*sz:=yyv _ jv;rw[yyu,wwp]at hle
  refine ZT (t:=t) (cs:=ds) hS Xu hz (by rw[yya,hl];omega) JU λw hS=>?_;refine Gp ?_;refine⟨⟨k+1,_,by simp,by omega,?_,aR hS⟩,by dsimp only;omega⟩;rw[zza,zza,zzg,zzs,hz];omega
 exact cF hS
def cIl{P:Program}{f:FuncId}{sz:Nat}{z:Ξ}{e:Ι}(vc:∀v0 w R,Co sz z e v0 w R->zB P f [v0] w R)(a:Option Addr)(cap:Nat):
  Spec P f [.slice a 0 cap] [] (cE (.tuple #[]) []):=by
 refine Enzz λW F w hS=>?_;apply vc;unfold Co;refine Gb λzb w hS=>?_;refine⟨λvs w=>vs=[Γ 0]/\SL W F w,λvs _=>0,⟨rfl,aR hS⟩,?_⟩;clear hS;rintro v3 w ⟨hv,hS⟩;cases hv;refine Gp ?_;refine za (λh=>absurd h (by decide)) (λh=>?_);exact⟨_,⟨rfl,rfl⟩,hS⟩
def GW{P:Program}{f:FuncId}{sz:Nat}{z:Ξ}{e:Ι}(vc:∀v0 w R,Co sz z e v0 w R->zB P f [v0] w R)(hz:z.length=sz)(JU:∀v∈z,v.oneCell'=true)(v:Ε)(n:Nat)(cells:Ξ)(t:Ι)(hb:n<=9223372036854775806):
  Spec P f [v] [.ob (bF v t sz n cells)] (cE (.tuple #[]) []):=by
 intro W F w hS;try simp only[app]at hS
 rcases bF.open hS with ⟨⟨a,rfl⟩,rfl,rfl,fY⟩|⟨b,cap,rest,rfl,hc,hl,hr,fY⟩
 ·exact cIl vc a 0 W F w fY
 exact X6 vc hz JU b n cap (cells++rest) t (by rw[zza];omega) hb W F w fY
def cIn(v:Ε)(n:Nat)(cells:Ξ)(t:Ι)(hb:n<=9223372036854775806):SP 14 [v] [.ob (bF v t 4 n cells)] (cE (.tuple #[]) []):=
 GW (λv0 w R h=>aiy v0 w R h) rfl (by simp[Value.oneCell']) v n cells t hb
def X7(v:Ε)(n:Nat)(cells:Ξ)(t:Ι)(hb:n<=9223372036854775806):SP 17 [v] [.ob (bF v t 2 n cells)] (cE (.tuple #[]) []):=
 GW (λv0 w R h=>cMy v0 w R h) rfl (by simp[Value.oneCell']) v n cells t hb
def cIm(v:Ε)(n:Nat)(cells:Ξ)(t:Ι)(hb:n<=9223372036854775806):SP 19 [v] [.ob (bF v t 4 n cells)] (cE (.tuple #[]) []):=
 GW (λv0 w R h=>cNh v0 w R h) rfl (by simp[Value.oneCell']) v n cells t hb
def cIq(v:Ε)(n:Nat)(cells:Ξ)(t:Ι)(hb:n<=9223372036854775806):SP 22 [v] [.ob (bF v t 7 n cells)] (cE (.tuple #[]) []):=
 GW (λv0 w R h=>cOe v0 w R h) rfl (by simp[Value.oneCell']) v n cells t hb
def cIr(v:Ε)(n:Nat)(cells:Ξ)(t:Ι)(hb:n<=9223372036854775806):SP 15 [v] [.ob (bF v t 1 n cells)] (cE (.tuple #[]) []):=
 cIp (λv0 w R h=>aiz v0 w R h) rfl v n cells t hb
def RD(gn:Nat)(z:Ε)(e:Ι)(v0 v1:Ε)(w:Ζ)(R:Ε->Ζ->Prop):Prop:=
 zm (cQ [z] 0) [] e 0 w λv6 iI=>
 zx 1 gn [z] e v6 v0 iI λv8 iz=>
 zm (cQ [z] 3) [(0,1,v1),(1,1,v1),(2,1,v1)] e 3 iz λue na=>
 zx 1 gn [z] e v8 ue na λAn Lo=>
 zd An λv17=>
 zc .sub v17 (Γ 3) λrY=>
 zd An λv20=>
 eT 1 An none (some rY) (some v20) λv21=>
 R v21 Lo
def EI(ob n k:Nat):(if n+3=0 then some (⟨ob,0,none⟩:Addr) else Option.map (λx:Addr=>x.add (0*k)) (some ⟨ob,0,none⟩))=some ⟨ob,0,none⟩:=by
 split
 ·rfl
 simp[Addr.add]
def WU{α:Type}{f:α->Ε}{fn:FuncId}{gn:Nat}{z:Ε}{e:Ι}(hf:∀x,(f x).oneCell'=true/\(f x).cells = #[f x])(hy:gn<=16)(vc:∀v0 v1 w R,RD gn z e v0 v1 w R->aF fn [v0,v1] w R)(H:bw)(v:Ε)(l:List α)(fill:α)(hv:de H 1 v l.length (l.map f))(hn:l.length<=1000):
  SP fn [v,f fill] [.mem H] (λu post=>∃(ob:Nat) (rest:Ξ),u= .slice (some ⟨ob,0,none⟩) l.length (l.length+3)/\post=[.pt ob ((l.map f)++([f fill,f fill,f fill]++rest)) e,.mem H]):=by
 refine Enzz λW F w hS=>?_;apply vc;unfold RD;refine Gm λb w hS=>?_;have hS:=bF.full (n:=0) (sz:=1) rfl hS;refine zJ (n:=0) (m:=l.length) hS .hd (D_ hS Xh hv) (by rw[zzn,wwq]) rfl (λu hu=>by obtain⟨x,_,rfl⟩:=zzx.1 hu;exact (hf x).1) (yyw (Nat.mul_le_mul (show 0+l.length<=1003 by omega) hy) (by decide)) (by omega) ?_;clear hS;intro v1 w hS;rw[yya,zzq]at hS
 refine zM (cells:=[f fill,f fill,f fill]) hS (by simp[ib,(hf fill).2,cQ]) ?_;clear hS;intro b3 w hS;refine zJ (n:=l.length) (m:=3) (cells:=(l.map f)) hS Xr (jR hS .hd rfl) rfl rfl (by simp[(hf fill).1]) (yyw (Nat.mul_le_mul (show l.length+3<=1003 by omega) hy) (by decide)) (by omega) ?_;clear hS;intro v2 w hS;rcases bF.open hS with ⟨_,h0,_⟩|⟨ob,cap,rest,rfl,hc,hl,hr,hS⟩
 ·omega
 refine Gp ?_;have e3:((l.length+3:Nat):Int)-3=((l.length:Nat):Int):=by omega
 rw[e3];refine⟨some ⟨ob,0,none⟩,l.length+3,cap,0,l.length,l.length+3,rfl,⟨_,rfl⟩,⟨_,rfl⟩,rfl,zz4 _,by omega,hc,?_⟩;rw[EI,xxo,xxo];rw[zzk]at hS
 exact⟨_,⟨ob,rest,rfl,rfl⟩,aR hS⟩
def cDs(H:bw)(v:Ε)(l:List d_)(fill:d_)(hv:de H 4 v l.length (l.map dC).flatten)(hn:l.length<=1000):
  SP 7 [v,agg (dC fill)] [.mem H] (λu post=>∃(ob:Nat) (rest:Ξ),u= .slice (some ⟨ob,0,none⟩) l.length (l.length+3)/\post=[.pt ob ((l.map dC).flatten++((dC fill++(dC fill++dC fill))++rest)) 40,.mem H]):=by
 refine Enzz λW F w hS=>?_;apply vc7;delta ai cR;refine zu hS λxb w hS=>?_;refine Gm λb w hS=>?_;have hS:=bF.full (n:=0) (sz:=4) rfl hS;refine zJ (n:=0) (m:=l.length) hS .hd (D_ hS Xh hv) (by rw[mN oF]) rfl (sW (λx=>Iq x) l) (by omega) (by omega) ?_;clear hS;intro v1 w hS;rw[yya,zzq]at hS
 refine zr hS Xh rfl (zr hS Xh rfl (zr hS Xh rfl ?_));refine zM (cells:=(dC fill++(dC fill++dC fill))) hS (by simp[ib,Value.cells,cQ,dC]) ?_;clear hS;intro b3 w hS;refine zJ (n:=l.length) (m:=3) (cells:=(l.map dC).flatten) hS Xr (jR hS .hd rfl) rfl rfl (by simp[dC,Value.oneCell']) (by omega) (by omega) ?_;clear hS;intro v2 w hS;rcases bF.open hS with ⟨_,h0,_⟩|⟨ob,cap,rest,rfl,hc,hl,hr,hS⟩
 ·omega
 refine Gp ?_;have e3:((l.length+3:Nat):Int)-3=((l.length:Nat):Int):=by omega
 rw[e3];refine⟨some ⟨ob,0,none⟩,l.length+3,cap,0,l.length,l.length+3,rfl,⟨_,rfl⟩,⟨_,rfl⟩,rfl,zz4 _,by omega,hc,?_⟩;rw[EI,xxo,xxo];rw[zzk]at hS
 exact⟨_,⟨ob,rest,rfl,rfl⟩,aR hS⟩
def Xw{P:Program}{w:Ζ}{t e ty:Ι}{a:Option Addr}{n c:Nat}{K:Ε->Prop}(ht:P.underlying t=some (.slice e))(h:K (Γ c)):eS P (Builtin.cap_ #[t] ty #[.slice a n c]) w K:=by
 refine⟨_,?_,h⟩;simp[Builtin.cap_,zzy ht,Result.andThen,goInt]
def cGh{P:Program}{w:Ζ}{t:Ι}{xs ys:Ξ}{p:Prop}[Decidable p]{K:Ε->Prop}(h:(Op.equal t (agg xs) (agg ys)).run P w= .ok (decide p) w)(hK:K (.bool !(decide p))):yP P t true (agg xs) (agg ys) w K:=⟨xs.toArray,ys.toArray,decide p,rfl,rfl,h,hK⟩
def RC(g:FuncId)(ts:Ι)(v0 v1 v2:Ε)(w:Ζ)(R:Ε->Ζ->Prop):Prop:=
 aF g [v0,v1] w λv11 iI=>
 y6 v11 λv12=>
 df v12
 (R (.bool false) iI)
 (eS prog (Builtin.cap_ #[ts] 3 [v0].toArray) iI λwD=>
 zd v1 λv17=>
 zc .add v17 (Γ 3) λrY=>
 zc .lss wD rY λEh=>
 df Eh
 (R (.bool false) iI)
 (zd v1 λv23=>
 zc .add v23 (Γ 3) λv24=>
 eT 1 v0 none (some v24) none λv25=>
 zd v1 λv27=>
 ∃(I:Ξ->Ζ->Prop) (μ:Ξ->Ζ->Nat),I [v27] iI /\
 ∀(v8:Ε) iz,I [v8] iz ->
 zd v25 λv30=>
 zc .lss v8 v30 λv31=>
 df v31
 (zk 1 v25 v8 λv36=>
 cC v36 iz λv37=>
 zc .neq v37 v2 λv39=>
 df v39
 (R (.bool false) iz)
 (zc .add v8 (Γ 1) λv33=>
 I [v33] iz/\μ [v33] iz<μ [v8] iz))
 (R (.bool true) iz)))
def VL{α:Type}[DecidableEq α]{f:α->Ε}{fn g:FuncId}{ts e:Ι}(gR:prog.underlying ts=some (.slice e))(vc:∀v0 v1 v2 w R,RC g ts v0 v1 v2 w R->aF fn [v0,v1,v2] w R)
  (eg:∀(H:bw) (u v:Ε) (A B:List α),de H 1 u A.length (A.map f)->de H 1 v B.length (B.map f)->A.length<=9223372036854775806->SP g [u,v] [.mem H] (cE (.bool (decide (A=B))) [.mem H])) (dO:∀x (K:Ε->Prop),K (.bool false)->zc .neq (f x) (f x) K)
  (H:bw) (v:Ε) (l:List α) (fill:α) (ob:Nat) (rest:Ξ) (hv:de H 1 v l.length (l.map f)) (hn:l.length<=1000) :
  SP fn [.slice (some ⟨ob,0,none⟩) l.length (l.length+3),v,f fill] [.pt ob ((l.map f)++([f fill,f fill,f fill]++rest)) e,.mem H] (cE (.bool true) [.pt ob ((l.map f)++([f fill,f fill,f fill]++rest)) e,.mem H]):=by
 refine Enzz λW F w hS=>?_;apply vc;unfold RC;have hS:SL W (.mem H::.pt ob ((l.map f)++([f fill,f fill,f fill]++rest)) e::F) w:=aR hS;have oK:(l.map f).length=l.length*1:=by rw[zzn,wwq]
 obtain⟨H2,dF,hc,hS,jY⟩:=SL.u9 hS;have hu:de H2 1 (.slice (some ⟨ob,0,none⟩) l.length (l.length+3)) l.length (l.map f):=by
  refine⟨oK,_,_,rfl,by omega,.inr ⟨ob,0,rfl,λj u hu=>?_⟩⟩;rw[yya];refine hc j u ?_;rw[zzm (zzf.1 hu).1];exact hu
 refine Cc (eg H2 (.slice (some ⟨ob,0,none⟩) l.length (l.length+3)) v l l hu (hv.mono dF) (by omega)) ?_;clear hS;rintro _ post ⟨rfl,rfl⟩ w hS;try simp only[app]at hS
 have hS:=jY hS;refine Gp ?_;rw[zzo rfl];refine zp ?_;refine Xw gR ?_;refine zo hv ?_;refine Gp ?_;refine Χ ?_;refine zo hv ?_;refine Gp ?_;have e3:((l.length:Nat):Int)+3=((l.length+3:Nat):Int):=by omega
 rw[e3];refine⟨some ⟨ob,0,none⟩,l.length,l.length+3,0,l.length+3,l.length+3,rfl,rfl,⟨_,rfl⟩,rfl,zz4 _,by omega,zzi _,?_⟩;rw[EI,xxo];refine zo hv ?_;refine⟨λus w=>∃k:Nat,us=[Γ k]/\l.length<=k/\k<=l.length+3/\SL W (.pt ob ((l.map f)++([f fill,f fill,f fill]++rest)) e::.mem H::F) w,
  λus _=>match us with|[.int _ k]=>(l.length+3-k).toNat|_=>0,⟨l.length,rfl,by omega,by omega,aR hS⟩,?_⟩
 clear hS jY;rintro v8 w ⟨k,cT,jv,fL,hS⟩;cases cT;refine cA (λh=>?_) (λh=>?_)
 ·have mv:k<l.length+3:=by omega
  obtain⟨d,rfl⟩:∃d,k=l.length+d:=⟨k-l.length,by omega⟩;have hd:d=0\/d=1\/d=2:=by omega
  have A9:((l.map f)++([f fill,f fill,f fill]++rest))[0+(l.length+d)*1]?=some (f fill):=by
   rw[yya,wwq,yyb (by rw[oK];omega),oK];rcases hd with rfl|rfl|rfl
   ·rw[show l.length+0-l.length*1=0 by omega];rfl
   ·rw[show l.length+1-l.length*1=1 by omega];rfl
   rw[show l.length+2-l.length*1=2 by omega];rfl
  refine zG mv (zT hS .hd A9 (dO _ _ (zp ?_)));refine Gp ?_;exact⟨⟨l.length+d+1,by simp,by omega,by omega,hS⟩,by dsimp only;omega⟩
 exact cF hS
def czu(H:bw)(v:Ε)(l:List d_)(fill:d_)(ob:Nat)(rest:Ξ)(hv:de H 4 v l.length (l.map dC).flatten)(hn:l.length<=1000):
  SP 11 [.slice (some ⟨ob,0,none⟩) l.length (l.length+3),v,agg (dC fill)] [.pt ob ((l.map dC).flatten++((dC fill++(dC fill++dC fill))++rest)) 40,.mem H] (cE (.bool true) [.pt ob ((l.map dC).flatten++((dC fill++(dC fill++dC fill))++rest)) 40,.mem H]):=by
 refine Enzz λW F w hS=>?_;apply cLd;delta aI cP cz ai;refine zu hS λxb w hS=>?_;have hS:SL W (.mem H::.pt ob ((l.map dC).flatten++((dC fill++(dC fill++dC fill))++rest)) 40::.pt xb (dC fill) 40::F) w:=aR hS;have oK:(l.map dC).flatten.length=l.length*4:=by rw[mN oF]
 obtain⟨H2,dF,hc,hS,jY⟩:=SL.u9 hS;have hu:de H2 4 (.slice (some ⟨ob,0,none⟩) l.length (l.length+3)) l.length (l.map dC).flatten:=by
  refine⟨oK,_,_,rfl,by omega,.inr ⟨ob,0,rfl,λj u hu=>?_⟩⟩;rw[yya];refine hc j u ?_;rw[zzm (zzf.1 hu).1];exact hu
 refine Cc (cDz H2 (.slice (some ⟨ob,0,none⟩) l.length (l.length+3)) v l l hu (hv.mono dF) (by omega)) ?_;clear hS;rintro _ post ⟨rfl,rfl⟩ w hS;try simp only[app]at hS
 have hS:=jY hS;refine Gp ?_;rw[zzo rfl];refine zp ?_;refine Xw underlying31 ?_;refine zo hv ?_;refine Gp ?_;refine Χ ?_;refine zo hv ?_;refine Gp ?_;have e3:((l.length:Nat):Int)+3=((l.length+3:Nat):Int):=by omega
 rw[e3];refine⟨some ⟨ob,0,none⟩,l.length,l.length+3,0,l.length+3,l.length+3,rfl,rfl,⟨_,rfl⟩,rfl,zz4 _,by omega,zzi _,?_⟩;rw[EI,xxo];refine zo hv ?_;refine⟨λus w=>∃k:Nat,us=[Γ k]/\l.length<=k/\k<=l.length+3/\SL W (.pt ob ((l.map dC).flatten++((dC fill++(dC fill++dC fill))++rest)) 40::.pt xb (dC fill) 40::.mem H::F) w,
  λus _=>match us with|[.int _ k]=>(l.length+3-k).toNat|_=>0,⟨l.length,rfl,by omega,by omega,aR hS⟩,?_⟩
 clear hS jY;rintro v8 w ⟨k,cT,jv,fL,hS⟩;cases cT;refine cA (λh=>?_) (λh=>?_)
 ·have mv:k<l.length+3:=by omega
  obtain⟨d,rfl⟩:∃d,k=l.length+d:=⟨k-l.length,by omega⟩;have hd:d=0\/d=1\/d=2:=by omega
  refine Gw λw hS=>?_;refine zG mv (yC (vs:=dC fill) hS .hd rfl (λj u hu=>?_) ?_)
  ·have hj:j<4:=(zzf.1 hu).1;rw[yya,yyb (by rw[oK,yyu];omega),oK,yyu];rw[show l.length*4+d*4+j-l.length*4=d*4+j by omega];rcases hd with rfl|rfl|rfl
   all_goals
    match j,hj,hu with
    | 0,_,hu=>exact hu
    | 1,_,hu=>exact hu
    | 2,_,hu=>exact hu
    | 3,_,hu=>exact hu
  refine zr hS Xh rfl ?_;refine cGh (Te fill fill w) ?_;rw[zzo rfl];refine zp ?_;refine Gp ?_;exact⟨⟨l.length+d+1,by simp,by omega,by omega,hS⟩,by dsimp only;omega⟩
 exact cF hS
def bI7(a b:Rq)(w:Ζ):(Op.equal 86 (agg (gF a)) (agg (gF b))).run prog w= .ok (decide (a=b)) w:=by
 refine wy underlying86 (by kernel_rfl) ?_;obtain⟨a1,a2,a3,a4,a5,a6,a7⟩:=a;obtain⟨b1,b2,b3,b4,b5,b6,b7⟩:=b;simp[gF,Op.eqFields,part,xxd (h:=yyr),xxd (h:=yyd),vvi (h:=wwk),Result.andThen];by_cases h0:a1=b1<;>by_cases h1:a2=b2<;>by_cases h2:a3=b3<;>by_cases h3:a4=b4<;>by_cases h4:a5=b5<;>by_cases h5:a6=b6<;>by_cases h6:a7=b7<;>simp[*]
def cC6(a b:Rq):SP 88 [agg (gF a),agg (gF b)] [] (cE (.bool (decide (a=b))) []):=by
 refine Enzz λW F w hS=>?_;apply cUb;refine zu hS λb1 w hS=>?_;refine zu hS λb2 w hS=>?_;refine zr hS Xh rfl (zr hS Xh rfl (y8 (bI7 a b w) ?_));(exact cF hS)
def cD1(H:bw)(u v:Ε)(A B:List Rq)(hu:iZ H u A)(hv:iZ H v B)(hn:A.length<=9223372036854775806):
  SP 31 [u,v] [.mem H] (cE (.bool (decide (A=B))) [.mem H]):=by
 refine Enzz λW F w hS=>?_;apply cQj;refine Cc (GO nj rfl (λv0 v1 v2 w R h=>cUa v0 v1 v2 w R h) cC6 H u v A B hu hv hn) ?_;clear hS;rintro v post ⟨rfl,rfl⟩ w hS;try simp only[app]at hS
 (exact cF hS)
def cF7{ts:List (List Cell)}(hs:small ts 0)(t:Int):(rowsOf (mh ts t)).length<=1000000:=by
 have:=Xl (mh ts t);have:=ET (t:=t) hs;omega
set_option maxRecDepth 100000
open Go.ChangeShapes Go.WideShapes Go.ChangeAt Go.RowKit
def G_(W:Ζ)(F:Β)(H:bw)(np nq:Nat)(cf:dL)(kc:dW)(n cb j:Nat)(w:Ζ):Prop:=∃(H2:bw) (p q:ig) (cc:cx) (AL:List cM),H.le H2/\p.np=np/\q.np=nq/\CS cf kc n j AL cc/\SL W (.ob (cn p cf kc H2 cc)::.ob (cn q cf kc H2 cc)::.pt cb (wX cf) 23::.mem H2::F) w
def XU{n j:Nat}{cf:dL}{kc:dW}{AL:List cM}{c:cx}(h:CS cf kc n j AL c)(hc:CC cf kc n)(hj:j<=190):small c.s.k.ts 0/\(∀C∈c.k.ts,C.length<=1000)/\c.s.k.reqs.length<=64:=by
 obtain⟨xs,hb⟩:=h.mJ;have hk:=hb.VN hj hc.n8;exact⟨λC hC=>by have:=hk.room C hC;omega,hb.st2,hk.rq⟩
set_option maxHeartbeats 8000000 in
def YA(H:bw)(c:dL)(v:Ε)(l:List g_)(hv:Et H v l)(cL:∀s∈l,Kq s):
  SP 3 [agg (ml c),v] [.mem H] (λv post=>v= .bool true/\∃H' l,H.le H'/\post= .mem H'::l):=by
 refine Enzz λW F w hS=>?_;apply vc3;delta aI bW a_ aW b_ cP cz ai cY cR bR;obtain⟨xs,kj,U',JT⟩:=hv;refine zu hS λcb w hS=>?_;refine zr hS Xh rfl ?_;refine Cc (qA c) ?_;clear hS;rintro _ post ⟨rfl,rfl⟩ w hS;try simp only[app]at hS
 refine zt hS Xu rfl rfl (bIo _) λw hS=>?_;refine zr hS Xh rfl ?_;have hc:=a_q c;generalize Cz c=cf at *
 generalize J7 c=kc at *
 have h4:=ix c.tables 4 (by decide);generalize hn:1+md c.tables 4=n at *
 refine Cc (Zz H hc) ?_;clear hS;rintro _ post ⟨p,H1,du,rfl,rfl⟩ w hS;(try simp only[app]at hS);refine Gp ?_
 refine Cc (Zz H1 hc) ?_;clear hS;rintro _ post ⟨q,H2,dF,rfl,rfl⟩ w hS;try simp only[app]at hS
 have hS:=cn.gB dF hS Xr;refine Gp ?_;refine Χ ?_;refine Gp ?_;refine Χ ?_;refine Gp ?_;refine zp ?_;refine Gp ?_;refine zp ?_;have Ja:=hc.tables;have nC:=hc.n1;have Dk:=hc.n8;have I_:CS cf kc n 0 [] (AP cf n):=.inl (fg.first (kc:=kc) hc).2.2;have fu:=bw.le_trans du dF;generalize AP cf n=c0 at *
 have hS:SL W (.ob (cn p cf kc H2 c0)::.ob (cn q cf kc H2 c0)::.pt cb (wX cf) 23::.mem H2::F) w:=SL.cD hS (t:=.ob (cn p cf kc H2 c0)::.ob (cn q cf kc H2 c0)::.pt cb (ml cf) 23::.mem H2::F) Xi;refine⟨λus w=>us=[]/\G_ W F H p.np q.np cf kc n cb 70 w,?_,?_⟩
 ·refine⟨λus w=>∃i:Nat,us=[Γ i]/\i<=70/\i<=l.length/\G_ W F H p.np q.np cf kc n cb i w,
   λus _=>match us with|[.int _ i]=>(l.length-i).toNat|_=>0,⟨0,rfl,by omega,by omega,H2,p,q,c0,[],fu,rfl,rfl,I_,hS⟩,?_⟩
  clear hS I_ du dF fu;rintro v6 w ⟨i,cT,hi,cG,H2,p2,q2,cc,AL,fu,hp,hq,iP,hS⟩;cases cT;try simp only[app]at hS
  have gV:G_ W F H p.np q.np cf kc n cb 70 w:=by
   have:∀d j:Nat,j+d=70->CS cf kc n j AL cc->CS cf kc n 70 AL cc:=by
    intro d;induction d with
    | zero=>intro j e h;rw[show j=70 by omega]at h;exact h
    | succ d ih=>intro j e h;exact ih (j+1) (by omega) h.mono
   exact⟨H2,p2,q2,cc,AL,fu,hp,hq,this (70-i) i (by omega) iP,hS⟩
  refine zo U' ?_;refine Gp ?_;refine za (λha=>?_) (λha=>⟨rfl,gV⟩);refine Gp ?_;refine za (λhb=>?_) (λhb=>⟨rfl,gV⟩);clear gV;have FP:i<l.length:=by omega
  have mu:i<xs.length:=by omega
  have hx:=(JT i FP mu).mono fu;have hs:=cL l[i] (zzh FP);have DE:xs[i]?=some xs[i]:=zzc mu;generalize hX:xs[i]=x at *
  generalize l[i]=s at *
  rw[<- hp,<- hq];refine⟨λus w=>∃(sb:Nat) (H3:bw) (y:mH) (t:g_),us=[cH sb]/\H2.le H3/\lK H3 y t/\Es t/\SL W (.pt sb (ji y) 36::.ob (cn p2 cf kc H3 cc)::.ob (cn q2 cf kc H3 cc)::.pt cb (wX cf) 23::.mem H3::F) w,?_,?_⟩
  ·refine Gw λw hS=>?_;refine Yo (U'.mono fu) FP λeb eo hbc=>?_;have mP:∀(i:Nat) (u:Ε),(ji x)[i]?=some u->H2.cell eb (eo+i)=some u:=λi u hu=>hbc i u (by have:=(zzf.1 hu).1;rw[vA]at this;exact this) (pX vA xs _ i x u DE hu);refine Q3 hS Xh (vA x) mP ?_;refine Gp ?_;rw[Ja];refine⟨?_,?_⟩
   ·refine Cc (Yh H2 x s n hx nC Dk hs.sg hs.l hs.keep) ?_;clear hS;rintro _ post ⟨H3,y,t,fB,rfl,hy,ht,rfl⟩ w hS;try simp only[app]at hS
    refine Gm λsb w hS=>?_;refine zt (vs:=ji y) hS Xu (vA y) rfl (K5 hy) λw hS=>?_;have hS:=cn.gB fB hS Xr;have hS:=cn.gB fB hS Xr;exact⟨sb,H3,y,t,rfl,fB,hy,ht,aR hS⟩
   refine Gm λsb w hS=>?_;refine Q3 hS Xh (vA x) mP (y1 ?_);refine Gp ?_;refine⟨by rw[Ja],?_⟩;refine Cc (Yh H2 x s n hx nC Dk hs.sg hs.l hs.keep) ?_;clear hS;rintro _ post ⟨H3,y,t,fB,rfl,hy,ht,rfl⟩ w hS;try simp only[app]at hS
   refine zt (vs:=ji y) hS Xu (vA y) rfl (K5 hy) λw hS=>?_;have hS:=cn.gB fB hS Xr;have hS:=cn.gB fB hS Xr;exact⟨sb,H3,y,t,rfl,fB,hy,ht,aR hS⟩
  clear hS hX hs DE hx x s mu;rintro _ w ⟨sb,H3,y,t,cT,fB,hy,ht,hS⟩;cases cT;have pe:=bw.le_trans fu fB;have hj:i<=190:=by omega
  refine zr hS Xh (vA y) ?_;refine Gm λtb w hS=>?_;refine zt (vs:=ji y) hS Xu (vA y) rfl (K5 hy) λw hS=>?_;have ly:=ht.l;have htg:=ht.sg;have mT:=ht.keep;unfold ji at hS;rw[hy.kind,hy.n,hy.ft]at hS
  refine Gp ?_;refine Cc (cDs H3 y.cv t.l ⟨0,9,false,⟨#[]⟩⟩ hy.cv (by omega)) ?_;clear hS;(rintro v post ⟨b1,R1,rfl,rfl⟩ w hS;(try simp only[app]at hS);(repeat (first|refine Gp ?_|refine Gw λw hS=>?_|refine Gb λb w hS=>?_)))
  refine Cc (WU (f:=Value.string) (λ_=>⟨rfl,rfl⟩) (by decide) (λv0 v1 w R h=>vc8 v0 v1 w R h) H3 y.sv t.sg ⟨#[122]⟩ hy.sv (by omega)) ?_;clear hS;(rintro v post ⟨b2,R2,rfl,rfl⟩ w hS;(try simp only[app]at hS);(repeat (first|refine Gp ?_|refine Gw λw hS=>?_|refine Gb λb w hS=>?_)))
  refine Cc (WU (f:=Value.int .i64) (λ_=>⟨rfl,rfl⟩) (by decide) (λv0 v1 w R h=>vc9 v0 v1 w R h) H3 y.kv t.keep 7 hy.kv (by omega)) ?_;clear hS;(rintro v post ⟨b3,R3,rfl,rfl⟩ w hS;(try simp only[app]at hS);(repeat (first|refine Gp ?_|refine Gw λw hS=>?_|refine Gb λb w hS=>?_)))
  have Vd:lK H3 ⟨t.kind,t.n,y.sv,y.cv,t.ft,y.kv⟩ t:=⟨rfl,rfl,rfl,hy.sv,hy.cv,hy.kv⟩;refine Cc (yv p2 cf kc H3 cc iP hc hj ⟨t.kind,t.n,y.sv,y.cv,t.ft,y.kv⟩ t Vd (by omega)) ?_;clear hS;rintro _ post ⟨rfl,p3,H4,nm,vY,rfl⟩ w hS;try simp only[app]at hS
  have hS:=cn.gB (p:=q2) nm hS Xr;refine zr hS Xh rfl (y1 ?_);refine Cc (a_s q2 cf kc H4 cc iP hc hj t ht b2 b1 b3 ([Value.string ⟨#[122]⟩,.string ⟨#[122]⟩,.string ⟨#[122]⟩]++R2) ((dC ⟨0,9,false,⟨#[]⟩⟩++(dC ⟨0,9,false,⟨#[]⟩⟩++dC ⟨0,9,false,⟨#[]⟩⟩))++R1) ([Γ 7,Γ 7,Γ 7]++R3)) ?_;clear hS;rintro _ post ⟨rfl,q3,H5,tz,JA,rfl⟩ w hS;try simp only[app]at hS
  have hS:=cn.gB (p:=p3) tz hS Xr;obtain⟨Ly,xD,_⟩:=iP.h_ hc hj t;generalize cc.h_ cf kc t=r at *
  obtain⟨c4,td⟩:=r;dsimp only at hS xD ⊢;refine cGi (CO td td w) ?_;rw[zzo rfl];refine zp ?_;have xr:=bw.le_trans nm tz;refine Gp ?_;refine Cg (czu H5 y.cv t.l ⟨0,9,false,⟨#[]⟩⟩ b1 R1 (hy.cv.mono xr) (by omega)) λw hS=>?_;refine zp ?_;refine Gp ?_;refine Cg (VL underlying30 (λv0 v1 v2 w R h=>cLm v0 v1 v2 w R h) cD2 (λx K h=>by refine Gp ?_;simpa using h) H5 y.sv t.sg ⟨#[122]⟩ b2 R2 (hy.sv.mono xr) (by omega)) λw hS=>?_;refine zp ?_;refine Gp ?_;refine Cg (VL underlying34 (λv0 v1 v2 w R h=>cLv v0 v1 v2 w R h) cD0 (λx K h=>by refine Gp ?_;simpa using h) H5 y.kv t.keep 7 b3 R3 (hy.kv.mono xr) (by omega)) λw hS=>?_;refine zp ?_;refine Gp ?_;refine Cg (X6 (λv0 w R h=>aiy v0 w R h) rfl (by simp[Value.oneCell']) b1 t.l.length (t.l.length+3) ((t.l.map dC).flatten++((dC ⟨0,9,false,⟨#[]⟩⟩++(dC ⟨0,9,false,⟨#[]⟩⟩++dC ⟨0,9,false,⟨#[]⟩⟩))++R1)) 40 (by rw[zza,mN oF];omega) (by omega)) λw hS=>?_;refine Cg (K3 (λv0 w R h=>aiz v0 w R h) rfl b2 t.sg.length (t.sg.length+3) (t.sg.map Value.string++([Value.string ⟨#[122]⟩,.string ⟨#[122]⟩,.string ⟨#[122]⟩]++R2)) 9 (by rw[zza,zzn];omega) (by omega)) λw hS=>?_;refine Cg (K3 (λv0 w R h=>cMn v0 w R h) rfl b3 t.keep.length (t.keep.length+3) (t.keep.map (Value.int .i64)++([Γ 7,Γ 7,Γ 7]++R3)) 3 (by rw[zza,zzn];omega) (by omega)) λw hS=>?_;have hS:SL W (.ob (cn p3 cf kc H5 c4)::.ob (cn q3 cf kc H5 c4)::.pt cb (wX cf) 23::.mem H5::F) w:=aR hS;obtain⟨wz,D9,GV⟩:=XU xD hc (by omega);have h05:=bw.le_trans pe xr;clear hy Vd ht ly htg mT nm tz xr fB iP;rw[<- JA];refine⟨λus w=>∃k:Nat,us=[Γ k]/\k<=n/\SL W (.ob (cn p3 cf kc H5 c4)::.ob (cn q3 cf kc H5 c4)::.pt cb (wX cf) 23::.mem H5::F) w,
   λus _=>match us with|[.int _ k]=>(n-k).toNat|_=>0,⟨0,rfl,by omega,hS⟩,?_⟩
  clear hS;rintro _ w ⟨k,cT,hk,hS⟩;cases cT;(try simp only[app]at hS);refine cA (λxK=>?_) (λxK=>?_)
  ·obtain⟨dv,X,hS,back⟩:=cn.BU (p:=q3) hS Xr;obtain⟨rv,hr,hS⟩:=cZ.open hS Xr;refine Gp ?_;refine Cc (Z9 q3.w.gp c4.s.k.ts k wz) ?_;clear hS;rintro v post rfl w hS;try simp only[app]at hS
   refine Cg (X7 v (rowsOf (mh c4.s.k.ts k)).length ((rowsOf (mh c4.s.k.ts k)).map eD).flatten 54 (by have:=cF7 wz k;omega)) λw hS=>?_;refine Cc (yH q3.w.gp c4.s.k.ts k wz) ?_;clear hS;rintro v post rfl w hS;try simp only[app]at hS
   refine Cg (cIm v (mh c4.s.k.ts k).length ((mh c4.s.k.ts k).map iT).flatten 81 (by have:=ET (t:=k) wz;omega)) λw hS=>?_;have hS:=cZ.put c4.s.k hS hr Xp;have hS:=back hS Xp;refine Cc (ZA q3 cf kc H5 c4 (λC hC=>by have:=D9 C hC;omega) k) ?_;clear hS;rintro v post rfl w hS;try simp only[app]at hS
   refine Cg (X7 v (gv c4.k.ts k).length ((gv c4.k.ts k).map eD).flatten 54 (by have:=aic D9 k;omega)) λw hS=>?_;exact⟨⟨k+1,by simp,by omega,aR hS⟩,by dsimp only;omega⟩
  obtain⟨dv,X,hS,back⟩:=cn.BU (p:=q3) hS Xr;have hS:SL W (.pt q3.np (oe q3 cf c4.pos dv) 72::.ob (cZ q3.w.kp q3.w.gp q3.w.dp q3.w.lp q3.w.pp H5 c4.s.k)::.ob X::.ob (cn p3 cf kc H5 c4)::.pt cb (wX cf) 23::.mem H5::F) w:=hS;refine Gp ?_;refine Cc (yI q3.w.kp q3.w.gp q3.w.dp q3.w.lp q3.w.pp H5 c4.s.k GV) ?_;clear hS;rintro v post rfl w hS;try simp only[app]at hS
  refine Cg (cIq v c4.s.k.reqs.length (c4.s.k.reqs.map gF).flatten 86 (by omega)) λw hS=>?_;have hS:=back hS Xp;have uO:i+1<=190:=by omega
  refine Cc (Ig xD uO q3 H5) ?_;clear hS;rintro _ post ⟨rfl,H6,vK,rfl⟩ w hS;try simp only[app]at hS
  refine Yn (v:=Γ (c4.look kc).head) underlying93 rfl (λw=>by kernel_rfl) rfl ?_;have hS:=cn.gB (p:=p3) vK hS Xr;obtain⟨xs4,Fy⟩:=xD.mJ;have hhe:0<=(c4.look kc).head/\(c4.look kc).head<=1099511627776:=⟨(sH Fy.sg.ok.bI).1,Fy.sg.hd⟩;refine Cc (Z5 q3 cf kc H6 c4 Fy.sg (by have:=tX (i+1);omega) (c4.look kc).head (by omega)) ?_;clear hS;rintro _ post ⟨x,t',e,rfl,_,_,g1,g2,_,rfl⟩ w hS;try simp only[app]at hS
  have gl:x.cv.oneCell'=true:=bF.one (hS.perm (fq.perm (c:=l8 x.cv t'.changes) Xr));have ju:x.sv.oneCell'=true:=bF.one (hS.perm (fq.perm (c:=mf x.sv t'.signals) Xr));refine Gm λb w hS=>?_;refine zt (vs:=eV x) hS Xu rfl rfl (vB (aw:=x.aw) (kind:=x.kind) (mark:=x.mark) gl ju) λw hS=>?_;unfold eV at hS;refine Gp ?_;refine Cg (cIn x.cv t'.changes.length (t'.changes.map dC).flatten 40 (by omega)) λw hS=>?_;refine Cg (cIr x.sv t'.signals.length (t'.signals.map λs=>[Value.string s]).flatten 9 (by omega)) λw hS=>?_;refine Cc (Ie xD hc uO q3 H6) ?_;clear hS;rintro _ post ⟨rfl,H7,uD,rfl⟩ w hS;try simp only[app]at hS
  have hS:=cn.gB (p:=p3) uD hS Xr;refine Zt (by decide) ?_;refine Cc (bwz xD uO q3 H7 ((i:Int).tmod 7)) ?_;clear hS;rintro _ post ⟨rfl,H8,A5,rfl⟩ w hS;try simp only[app]at hS
  have hS:=cn.gB (p:=p3) A5 hS Xr;refine Gp ?_;exact⟨⟨i+1,by simp,by omega,by omega,H8,p3,q3,c4,Ly,bw.le_trans h05 (bw.le_trans vK (bw.le_trans uD A5)),vY,rfl,xD,aR hS⟩,by dsimp only;omega⟩
 clear hS I_ du dF fu;rintro w ⟨-,H2,p2,q2,cc,AL,fu,hp,hq,iP,hS⟩;rw[<- hp,<- hq];have hj:70<=190:=by decide
 obtain⟨wz,D9,GV⟩:=XU iP hc hj;refine⟨λus w=>∃(k:Nat) (H3:bw),us=[Γ k]/\k<=n/\H2.le H3/\SL W (.ob (cn p2 cf kc H3 cc)::.ob (cn q2 cf kc H3 cc)::.pt cb (wX cf) 23::.mem H3::F) w,
  λus _=>match us with|[.int _ k]=>(n-k).toNat|_=>0,⟨0,H2,rfl,by omega,bw.le_refl _,hS⟩,?_⟩
 clear hS;rintro _ w ⟨k,H3,cT,hk,fB,hS⟩;cases cT;(try simp only[app]at hS);refine cA (λxK=>?_) (λxK=>?_)
 ·obtain⟨dv,X,hS,back⟩:=cn.BU (p:=p2) hS Xr;obtain⟨dv2,X2,hS,AJ⟩:=cn.BU (p:=q2) hS Xr;obtain⟨rv,hr,hS⟩:=cZ.open (kp:=p2.w.kp) hS Xr;obtain⟨KU,uT,hS⟩:=cZ.open (kp:=q2.w.kp) hS Xr;refine Gn λw hS=>?_;refine Cc (yH p2.w.gp cc.s.k.ts k wz) ?_;clear hS;rintro u1 post rfl w hS;try simp only[app]at hS
  refine zT hS Xh rfl (y1 ?_);refine zT hS Xh rfl (y1 ?_);refine Cc (yH q2.w.gp cc.s.k.ts k wz) ?_;clear hS;rintro u2 post rfl w hS;try simp only[app]at hS
  have hS:=cZ.put (kp:=p2.w.kp) cc.s.k hS hr Xp;have hS:=cZ.put (kp:=q2.w.kp) cc.s.k hS uT Xp;have hS:=back hS Xp;have hS:=AJ hS Xp;have mP:=ET (t:=k) wz;have uV:=aic D9 k;generalize mh cc.s.k.ts k=A at *
  obtain⟨H4,nm,hA,hS⟩:=zw (H:=H3) (v:=u1) hS Xp;obtain⟨H5,tz,hB,hS⟩:=zw (H:=H4) (v:=u2) hS Xp;have xr:=bw.le_trans nm tz;refine Cg (cDy H5 u1 u2 A A (hA.mono tz) hB (by omega)) λw hS=>?_;rw[zzo rfl];refine zp ?_;have dj:∀C∈cc.k.ts,C.length<=1000000:=λC hC=>by have:=D9 C hC;omega
  refine Cc (ZA p2 cf kc H3 cc dj k) ?_;clear hS;rintro u3 post rfl w hS;try simp only[app]at hS
  refine Cc (ZA q2 cf kc H3 cc dj k) ?_;clear hS;rintro u4 post rfl w hS;try simp only[app]at hS
  generalize gv cc.k.ts k=B at *
  obtain⟨H6,vK,hC,hS⟩:=zw (H:=H5) (v:=u3) hS Xp;obtain⟨H7,uD,hD,hS⟩:=zw (H:=H6) (v:=u4) hS Xp;refine Cg (WY H7 u3 u4 B B (hC.mono uD) hD (by omega)) λw hS=>?_;rw[zzo rfl];refine zp ?_;refine Gp ?_;have IN:=bw.le_trans xr (bw.le_trans vK uD);have hS:=cn.gB (p:=p2) IN hS Xr;have hS:=cn.gB (p:=q2) IN hS Xr;exact⟨⟨k+1,H7,by simp,by omega,bw.le_trans fB IN,aR hS⟩,by dsimp only;omega⟩
 refine Gn λw hS=>?_;refine Cg (Y5) λw hS=>?_;refine Cc (Ig iP hj p2 H3) ?_;clear hS;rintro _ post ⟨rfl,H4,nm,rfl⟩ w hS;try simp only[app]at hS
 have hS:=cn.gB (p:=q2) nm hS Xr;refine Cc (Ig iP hj q2 H4) ?_;clear hS;rintro _ post ⟨rfl,H5,tz,rfl⟩ w hS;try simp only[app]at hS
 have hS:=cn.gB (p:=p2) tz hS Xr;refine y8 (bI5 _ _ w) ?_;refine Υ ?_;refine Cc (Ie iP hc hj p2 H5) ?_;clear hS;rintro _ post ⟨rfl,H6,vK,rfl⟩ w hS;try simp only[app]at hS
 have hS:=cn.gB (p:=q2) vK hS Xr;refine Cc (Ie iP hc hj q2 H6) ?_;clear hS;rintro _ post ⟨rfl,H7,uD,rfl⟩ w hS;try simp only[app]at hS
 have hS:=cn.gB (p:=p2) uD hS Xr;refine y8 (bI4 _ _ w) ?_;refine Υ ?_;obtain⟨dv,X,hS,back⟩:=cn.BU (p:=p2) hS Xr;obtain⟨dv2,X2,hS,AJ⟩:=cn.BU (p:=q2) hS Xr;refine Gp ?_;refine Cc (yI p2.w.kp p2.w.gp p2.w.dp p2.w.lp p2.w.pp H7 cc.s.k GV) ?_;clear hS;rintro u1 post rfl w hS;try simp only[app]at hS
 refine zT hS Xh rfl (y1 ?_);refine Cc (yI q2.w.kp q2.w.gp q2.w.dp q2.w.lp q2.w.pp H7 cc.s.k GV) ?_;clear hS;rintro u2 post rfl w hS;try simp only[app]at hS
 obtain⟨H8,A5,hA,hS⟩:=zw (H:=H7) (v:=u1) hS Xp;obtain⟨H9,TH,hB,hS⟩:=zw (H:=H8) (v:=u2) hS Xp;refine Cg (cD1 H9 u1 u2 cc.s.k.reqs cc.s.k.reqs (hA.mono TH) hB (by omega)) λw hS=>?_;rw[zzo rfl];exact⟨_,⟨rfl,H9,[],bw.le_trans fu (bw.le_trans fB (bw.le_trans nm (bw.le_trans tz (bw.le_trans vK (bw.le_trans uD (bw.le_trans A5 TH)))))),rfl⟩,aR hS⟩
def cWc(c:dL)(l:List g_)(ok:∀s∈l,Kq s)(cs:Array Ε)(v:Ε)(w:Ζ)(hc:Lb.rd w kM c cs.toList)(hl:lJ G2 w kM l v):
  Calls prog 3 #[.agg cs,v] w λe w'=>e= .returned (.bool true)/\Below w.heap.size w w':=by
 obtain rfl:cs=(ml c).toArray:=by rw[<- cJb hc]
 exact (qN (YA (bw.of w) c v l (Et.of hl) ok)).calls
