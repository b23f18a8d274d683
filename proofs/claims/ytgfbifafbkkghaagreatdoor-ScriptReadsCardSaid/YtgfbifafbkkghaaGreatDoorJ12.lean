/- Part. -/
import Derived.Test.YtgfbifafbkkghaaGreatDoorJ11
import Derived.Lib.ConvBytes
namespace Go.Proofs.YtgfbifafbkkghaaGreatDoor
set_option linter.all false
open Go.RowKit Go.Proofs.Tryz
section
variable {W w:Ζ} {l:Β} {P:Program}
end
set_option maxRecDepth 100000
def oq(x:bV):Η:=ji (uI x)
structure uB where
 wp:Nat
 kp:Nat
 gp:Nat
 dp:Nat
 lp:Nat
 pp:Nat
 qp:Nat
 qb:Nat
 rp:Nat
abbrev pa(kp qp rp cC:Nat)(l:Int)(ov nv:Ε)(n:Nat):Ξ:=[iD kp,iD qp,iD rp,Γ cC,Γ l,ov,nv,Γ n]
def fc(p:uB)(c:df)(H:aX)(s:gZ):zw:=gi λh:Ε × Ε=>zG (jF H ⟨s.held.aR,h.1,h.2⟩ s.held)
 [.pt p.wp (pa p.kp p.qp p.rp c.cC s.held.aR h.1 h.2 s.n) 325,.ob (bX p.kp p.gp p.dp p.lp p.pp H s.k),.ob (Gate p.qp p.qb c.cap s.out (s.L.map oq)),kG p.rp c.b c.m c.j s.ib s.jb]
section
variable {W w:Ζ} {l F:Β} {p:uB} {c:df} {H:aX} {s:gZ}
def fc.iff:SL W (.ob (fc p c H s)::l) w↔∃ov nv,jF H ⟨s.held.aR,ov,nv⟩ s.held/\SL W (.pt p.wp (pa p.kp p.qp p.rp c.cC s.held.aR ov nv s.n) 325::.ob (bX p.kp p.gp p.dp p.lp p.pp H s.k)::.ob (Gate p.qp p.qb c.cap s.out (s.L.map oq))::kG p.rp c.b c.m c.j s.ib s.jb::l) w:=by
 unfold fc;simp only[SL.ex,SL.fact,zzq,zzp];exact⟨λ⟨x,h⟩=>⟨x.1,x.2,h⟩,λ⟨a,b,h⟩=>⟨(a,b),h⟩⟩
def fc.open(hS:SL W l w)(r:dW (.ob (fc p c H s)) l F):∃ov nv,jF H ⟨s.held.aR,ov,nv⟩ s.held/\SL W (.pt p.wp (pa p.kp p.qp p.rp c.cC s.held.aR ov nv s.n) 325::.ob (bX p.kp p.gp p.dp p.lp p.pp H s.k)::.ob (Gate p.qp p.qb c.cap s.out (s.L.map oq))::kG p.rp c.b c.m c.j s.ib s.jb::F) w:=fc.iff.1 (hS.perm r.perm)
def fc.put(s:gZ){ov nv:Ε}(hS:SL W l w)(hi:jF H ⟨s.held.aR,ov,nv⟩ s.held)(k:eQ [.pt p.wp (pa p.kp p.qp p.rp c.cC s.held.aR ov nv s.n) 325,.ob (bX p.kp p.gp p.dp p.lp p.pp H s.k),.ob (Gate p.qp p.qb c.cap s.out (s.L.map oq)),kG p.rp c.b c.m c.j s.ib s.jb] l F):SL W (.ob (fc p c H s)::F) w:=fc.iff.2 ⟨ov,nv,hi,hS.pick k⟩
def fc.lR{k:c_}{L:List bV}{out n:Nat}{ib jb:Int}{held:bV}{ov nv:Ε}(hS:SL W l w)(hi:jF H ⟨held.aR,ov,nv⟩ held)(q:eQ [.pt p.wp (pa p.kp p.qp p.rp c.cC held.aR ov nv n) 325,.ob (bX p.kp p.gp p.dp p.lp p.pp H k),.ob (Gate p.qp p.qb c.cap out (L.map oq)),kG p.rp c.b c.m c.j ib jb] l F):SL W (.ob (fc p c H ⟨k,L,out,ib,jb,held,n⟩)::F) w:=fc.iff.2 ⟨ov,nv,hi,hS.pick q⟩
end
def baq(kp qp rp n:Nat)(h1:1<=n)(h2:n<=64):SP 154 [iD kp,iD qp,iD rp,Γ n] [] (λv post=>∃p:Nat,v= .tuple #[iD p,Γ 0]/\post=[.pt p (pa kp qp rp n 0 Θ Θ 0) 325]):=by
 refine Enzz λW F w hS=>?_;apply aWa;delta aF ai bC aZ;refine Gp ?_;refine Χ ?_;refine Gp ?_;refine Χ ?_;refine Gp ?_;refine⟨_,rfl,zD hS λp w hS=>?_⟩;exact⟨_,⟨p,rfl,rfl⟩,hS⟩
def bdh{P:Program}{T:List Bool}{f g:FuncId}{sz:Nat}{α:Type}{enc:α->Ξ}(hn:∀x,(enc x).length=sz)(hT:T.getD g false=true){cap:Array Ε}{c:Μ}{q:α->Bool}{H:aX}
  (vc:∀v0 v1 w R,wR P T sz v0 v1 w R->zL P f [v0,v1] w R) (one:∀x,Spec P g ([agg (enc x)]++cap.toList) [c] (bj (.bool (q x)) [c]))
  (v:Ε) (xs:List α) (hv:bK H sz v xs.length (xs.map enc).flatten) (hl:xs.length<=9223372036854775806) :
  Spec P f [v,.func (.func g) #[] cap] [c,.mem H] (bj (Γ (vO (xs.findIdx? q))) [c,.mem H]):=by
 intro W F w hS;apply vc;unfold wR;have hS:SL W (c::.mem H::F) w:=hS;refine zh hv ?_;refine⟨λvs w=>∃k:Nat,vs=[Γ k]/\k<=xs.length/\(∀j (h:j<xs.length),j<k->q xs[j]=false)/\SL W (c::.mem H::F) w,λvs _=>match vs with|[.int _ k]=>(xs.length-k).toNat|_=>0,⟨0,rfl,by omega,λj h hj=>by omega,hS⟩,?_⟩;clear hS;rintro v8 w ⟨k,hv,hk,hq,hS⟩;cases hv;refine bw (λh=>?_) (λh=>?_)
 ·have ga:k<xs.length:=by omega
  refine zy hS Xh hn ‹_› (x:=xs[k]) (by simp[ga]) ga ?_;refine yh (args':=[agg (enc xs[k])]++cap.toList) hT (one xs[k]) (by simp) hS Xp ?_;clear hS;rintro _ post ⟨rfl,rfl⟩ w hS;try simp only[app]at hS
  cases vD:q xs[k] with
  | true=>
   refine zt ?_;have e:xs.findIdx? q=some k:=wwu.2 ⟨ga,vD,λj hj=>by rw[hq j (by omega) hj];decide⟩;rw[e];exact⟨_,⟨rfl,rfl⟩,hS⟩
  | false=>
   refine zs ?_;refine Gp ?_;refine⟨⟨k+1,rfl,by omega,λj h hj=>?_,hS⟩,by dsimp only;omega⟩;rcases ww0 j k with vu|vu
   ·exact hq j h vu
   obtain rfl:j=k:=by omega
   exact vD
 have e:xs.findIdx? q=none:=vvt.2 λx hx=>by
  obtain⟨j,hj,rfl⟩:=yy5.1 hx;exact hq j hj (by omega)
 rw[e];exact⟨_,⟨rfl,rfl⟩,hS⟩
abbrev AE(m:fv)(wp:Nat)(rv:Ε):Ξ:=[bH wp,Γ m.tables,Γ m.late,Γ m.at_,rv]
def fD(mp wp:Nat)(H:aX)(m:fv):zw:=gi λrv:Ε=>zG (fX H rv m.reqs) [.pt mp (AE m wp rv) 156,.ob (iN wp m.eh)]
section
variable {W w:Ζ} {l F:Β} {mp wp:Nat} {H H':aX}
def fD.iff{m:fv}:SL W (.ob (fD mp wp H m)::l) w↔∃rv,fX H rv m.reqs/\SL W (.pt mp (AE m wp rv) 156::.ob (iN wp m.eh)::l) w:=by
 unfold fD;simp only[SL.ex,SL.fact,zzq,zzp]
def fD.put(m:fv)(rv:Ε)(hr:fX H rv m.reqs)(hS:SL W l w)(p:eQ [.pt mp (AE m wp rv) 156,.ob (iN wp m.eh)] l F):SL W (.ob (fD mp wp H m)::F) w:=fD.iff.2 ⟨rv,hr,hS.pick p⟩
end
def ZS(H:aX)(v:Ε)(L:List Rq)(tables aR:Int)(hv:fX H v L)(hn:L.length<=1000):
  SP 205 [v,Γ tables,Γ aR] [.mem H] (λu post=>∃q:Bool,u= .bool q/\(q=true↔fV L/\∀r∈L,r.table<tables/\r.at_<=aR)/\post=[.mem H]):=by
 refine Enzz λW F w hS=>?_;apply aW2;delta aF aW bc ai;refine zh hv ?_;refine⟨λus w=>∃i:Nat,us=[Γ i]/\i<=L.length/\(∀j (h:j<L.length),j<i->L[j].table<tables/\L[j].at_<=aR)/\SL W (.mem H::F) w,λus _=>match us with|[.int _ i]=>(L.length-i).toNat|_=>0,⟨0,rfl,by omega,λj h hj=>by omega,hS⟩,?_⟩;clear hS;rintro v11 w ⟨i,bM,hi,b5,hS⟩;cases bM;refine bw (λh=>?_) (λh=>?_)
 ·have bg:i<L.length:=by omega
  have hx:L[i]?=some L[i]:=zzc bg;have hm:=zzi bg;refine zy hS Xh oI hv hx bg ?_;have pF:L[i].table<tables/\L[i].at_<=aR->∀j (h:j<L.length),j<i+1->L[j].table<tables/\L[j].at_<=aR:=λh j hj gJ=>by
   rcases ww0 j i with h2|h2
   ·exact b5 j hj h2
   obtain rfl:j=i:=by omega
   exact h
  generalize L[i]=r at *
  refine Gb λxb w hS=>?_;refine za (λh2=>⟨_,⟨false,rfl,⟨(λe=>by cases e),λx=>by have:=(x.2 r hm).1;omega⟩,rfl⟩,aI hS⟩) (λh2=>?_);refine Gp ?_;refine za (λh3=>⟨_,⟨false,rfl,⟨(λe=>by cases e),λx=>by have:=(x.2 r hm).2;omega⟩,rfl⟩,aI hS⟩) (λh3=>?_);refine Gp ?_;exact⟨⟨i+1,rfl,by omega,pF ⟨by omega,by omega⟩,aI hS⟩,by dsimp only;omega⟩
 refine Cc (y6 H v L hv (by omega)) ?_;clear hS;rintro _ post ⟨q,rfl,hq,rfl⟩ w hS;try simp only[app]at hS
 refine⟨_,⟨q,rfl,hq.trans ⟨λx=>⟨x,λr hr=>?_⟩,λx=>x.1⟩,rfl⟩,hS⟩;obtain⟨j,hj,rfl⟩:=yyf hr;exact b5 j hj (by omega)
def ET(H:aX)(tables late chunk aR:Int)(L:List Rq)(v:Ε)(post:Β):Prop:=
 (vY tables late chunk aR L/\(∃e:Int,e≠0/\v= .tuple #[.pointer none,Γ e])/\post=[.mem H]) \/
 (¬vY tables late chunk aR L/\∃(mp wp:Nat) (H':aX),H.le H'/\v= .tuple #[bH mp,Γ 0]/\post=[.ob (fD mp wp H' ⟨tables,late,aR,L,mC chunk⟩),.mem H'])
def QH(H:aX)(tables late chunk aR:Int)(v:Ε)(L:List Rq)(hv:fX H v L)(hn:L.length<=1000):
  SP 152 [Γ tables,Γ late,Γ chunk,Γ aR,v] [.mem H] (ET H tables late chunk aR L):=by
 refine Enzz λW F w hS=>?_;apply aR8;delta aF bD ai bC aZ;have f_:∀{e:Int} {w:Ζ},e≠0->vY tables late chunk aR L->SL W (.mem H::F) w->∃post,ET H tables late chunk aR L (.tuple #[.pointer none,Γ e]) post/\SL W (app post F) w:=λhe h hS=>⟨_,.inl ⟨h,⟨_,he,rfl⟩,rfl⟩,hS⟩;refine Gp ?_;refine za (λh=>f_ (by decide) (.inl h) hS) (λh1=>?_);refine Gp ?_;refine za (λh=>f_ (by decide) (.inr (.inl h)) hS) (λh2=>?_);refine Gp ?_;refine za (λh=>f_ (by decide) (.inr (.inr (.inl h))) hS) (λh3=>?_);obtain⟨n,rfl⟩:∃n:Nat,tables=n:=⟨tables.toNat,by omega⟩;have bc7:(2:Int) ^ n<=256:=by
  have:n<=8:=by omega
  match n,this with
  | 0,_=>decide
  | 1,_=>decide
  | 2,_=>decide
  | 3,_=>decide
  | 4,_=>decide
  | 5,_=>decide
  | 6,_=>decide
  | 7,_=>decide
  | 8,_=>decide
 have tq:(0:Int)<2 ^ n:=Int.pow_pos (by decide);refine N8 (by omega) (by omega) ?_;rw[Int.one_mul];refine Gp ?_;refine za (λh=>f_ (by decide) (.inr (.inr (.inr (.inl (by rw[zzy];exact h))))) hS) (λh4=>?_);refine Gp ?_;refine za (λh=>f_ (by decide) (.inr (.inr (.inr (.inr (.inl h))))) hS) (λh5=>?_);refine Gp ?_;refine za (λh=>f_ (by decide) (.inr (.inr (.inr (.inr (.inr (.inl h)))))) hS) (λh6=>?_);refine Cc (ZS H v L n aR hv hn) ?_;clear hS;rintro _ post ⟨q,rfl,hq,rfl⟩ w hS;(try simp only[app]at hS);refine Gp ?_
 refine zr (λhe=>?_) (λhe=>?_)
 ·refine f_ (by decide) (.inr (.inr (.inr (.inr (.inr (.inr (.inr (.inr ?_)))))))) hS;by_cases hm:fV L
  ·right;refine Classical.byContradiction λhx=>?_;have:q=true:=hq.2 ⟨hm,λr hr=>by
    refine⟨Int.not_le.1 λh=>hx ⟨r,hr,.inl h⟩,Int.not_lt.1 λh=>hx ⟨r,hr,.inr h⟩⟩⟩
   rw[he]at this;cases this
  exact .inl hm
 obtain⟨hm,b5⟩:=hq.1 he;refine Cc (QY chunk) ?_;clear hS;rintro r post jK w hS;rcases jK with ⟨h7,rfl,rfl⟩|⟨h7,wp,rfl,rfl⟩
 ·(try simp only[app]at hS);refine Gp ?_
  refine Υ ?_;exact f_ (by decide) (.inr (.inr (.inr (.inr (.inr (.inr (by omega))))))) hS
 (try simp only[app]at hS);refine Gp ?_
 refine Χ ?_;refine yQ (cells:=[bH wp]) (by simp[eV,Value.cells,bH]) ?_;refine Cc (ym H v L hv hn) ?_;clear hS;rintro u post rfl w hS;try simp only[app]at hS
 obtain⟨H1,dF,hR,hS⟩:=zW (H:=H) (v:=u) hS Xp;have hu:u.oneCell'=true:=hR.one;refine yQ (cells:=[bH wp,Γ n,Γ late,Γ aR,u]) (by simp[eV,show ∀n,(Γ n).cells = #[Γ n] from λ_=>rfl,show ∀v,(Value.agg #[v]).cells = #[v] from λ_=>rfl,jC hu]) ?_;refine⟨_,rfl,zD hS λmp w hS=>?_⟩;have br:¬vY n late chunk aR L:=by
  rintro (h|h|h|h|h|h|h|h|h|⟨r,hr,h⟩)
  ·exact h1 h
  ·exact h2 h
  ·exact h3 h
  ·rw[zzy]at h;exact h4 h
  ·exact h5 h
  ·exact h6 h
  ·omega
  ·omega
  ·exact h hm
  have:=b5 r hr;omega
 have hS:=fD.put (wp:=wp) ⟨n,late,aR,L,mC chunk⟩ u hR hS Xp;exact⟨_,.inr ⟨br,mp,wp,H1,dF,rfl,rfl⟩,aI hS⟩
section
variable (mp wp:Nat) (H:aX) (m:fv)
def Q8:SP 91 [bH mp] [.ob (fD mp wp H m)] (bj (Γ m.at_) [.ob (fD mp wp H m)]):=by
 refine Enzz λW F w hS=>?_;apply a_9;delta bd;obtain⟨rv,hr,hS⟩:=fD.iff.1 hS;refine Gp ?_;exact⟨_,⟨rfl,rfl⟩,SL.bA (fD.put m rv hr hS Xp) Xi⟩
def Yb:SP 86 [agg [bH wp]] [] (bj (bH wp) []):=by
 refine Enzz λW F w hS=>?_;apply a_3;delta aW;refine zu hS λxb w hS=>?_;refine Gp ?_;exact bt hS
end
def Sl(m:Int × Int):Ξ:=[Γ m.2,Γ m.1]
structure Bg(d:fW)(a:Nat)(ow:Bool)(lf:Int):Prop where
 t:ow=true->d.at_=a/\d.left=lf/\a<d.l.length
 f:ow=false->d.at_=(a:Int)-1/\d.left=0/\a<=d.l.length
structure A6 where
 v:Ε
 a:Nat
 ow:Bool
 lf:Int
abbrev DG(x:A6):Ξ:=[x.v,Γ x.a,.bool x.ow,Γ x.lf]
abbrev wF(v:Ε)(l:List (Int × Int)):Μ:=.ob (aY v 404 2 l.length (l.map Sl).flatten)
def ke(p:Nat)(d:fW):zw:=gi λx:A6=>zG (Bg d x.a x.ow x.lf) [.pt p (DG x) 391,wF x.v d.l]
def ke.iff{W w:Ζ}{l:Β}{p:Nat}{d:fW}:SL W (.ob (ke p d)::l) w↔∃x:A6,Bg d x.a x.ow x.lf/\SL W (.pt p (DG x) 391::wF x.v d.l::l) w:=by
 unfold ke;simp only[SL.ex,SL.fact,zzq,zzp]
def ke.XX{W w:Ζ}{l F:Β}{p:Nat}{d:fW}(v:Ε)(a:Nat)(ow:Bool)(lf:Int)(h:Bg d a ow lf)(hS:SL W l w)(k:eQ [.pt p [v,Γ a,.bool ow,Γ lf] 391,wF v d.l] l F):SL W (.ob (ke p d)::F) w:=ke.iff.2 ⟨⟨v,a,ow,lf⟩,h,hS.pick k⟩
def Qt:SP 208 [] [] (λv post=>∃p:Nat,v= Δ p/\post=[.ob (ke p rz)]):=by
 refine Enzz λW F w hS=>?_;apply aW5;delta ai aZ;refine yQ rfl ?_;refine⟨_,rfl,zD hS λp w hS=>?_⟩;have hS:SL W (wF Θ []::.pt p (DG ⟨Θ,0,false,0⟩) 391::F) w:=aY.nil hS;exact⟨_,⟨p,rfl,rfl⟩,SL.bA (ke.XX (d:=rz) Θ 0 false 0 ⟨(λh=>by cases h),λ_=>⟨rfl,rfl,zzz _⟩⟩ hS Xp) Xi⟩
abbrev sf(sp mp wp gp:Nat)(n:Int):Ξ:=[bH sp,bH mp,bH wp,bH gp,Γ n]
def qS(sp mp wp:Nat)(H:aX)(m:fv)(n:Int):SP 155 [bH sp,bH mp,Γ n] [.ob (fD mp wp H m)] (λv post=>(¬(1<=n/\n<=64)/\v= .tuple #[.pointer none,Γ 1]/\post=[.ob (fD mp wp H m)]) \/
  ((1<=n/\n<=64)/\∃pp gp:Nat,v= .tuple #[bH pp,Γ 0]/\post=[.pt pp (sf sp mp wp gp n) 270,.ob (ke gp rz),.ob (fD mp wp H m)])):=by
 refine Enzz λW F w hS=>?_;apply aWb;delta aF bG ai bC;refine Gp ?_;refine za (λh=>⟨_,.inl ⟨by omega,rfl,rfl⟩,hS⟩) (λh1=>?_);refine Gp ?_;refine za (λh=>⟨_,.inl ⟨by omega,rfl,rfl⟩,hS⟩) (λh2=>?_);obtain⟨rv,hr,hS⟩:=fD.iff.1 hS;refine Gp ?_;refine yl (vs:=[bH wp]) hS Xh rfl (λj v e=>by
  match j,e with
  | 0,e=>exact e) ?_
 refine Cg (Yb wp) λw hS=>?_;refine Cc (Qt) ?_;clear hS;rintro _ post ⟨gp,rfl,rfl⟩ w hS;(try simp only[app]at hS);refine Gp ?_
 refine⟨_,rfl,zD hS λpp w hS=>?_⟩;have hS:=fD.put m rv hr hS Xp;exact⟨_,.inr ⟨by omega,pp,gp,rfl,rfl⟩,aI hS⟩
def O_(dp:Nat)(d:DS)(H:aX)(n:Nat)(f:Int)(r:Ε)(post:Β):Prop:=∃H',H.le H'/\post=[.ob (bk dp d),.mem H']/\match gf d.R n f with
 | none=>∃a b,r= .tuple #[a,b,.bool false]
 | some y=>∃v,sE H' v y.2/\r= .tuple #[Γ y.1,v,.bool true]
def Qw(dp:Nat)(d:DS)(H:aX)(n:Nat)(f:Int){N:Nat}(br:d.Ok N)(hN:N<=140737488355328):
  SP 197 [bH dp,Γ f,Γ (n:Nat)] [.ob (bk dp d),.mem H] (O_ dp d H n f):=by
 refine Enzz λW F w hS=>?_;apply aWu;delta aF bD ai aZ;refine Cc (ZI dp d N br hN f) ?_;clear hS;rintro r post hq w hS;unfold uv at hq;cases hg:cw PF.id d.R f with
 | none=>
  rw[hg]at hq
  obtain⟨rfl,rfl⟩:=hq;have hi:gf d.R n f=none:=by unfold gf;rw[hg]
  (try simp only[app]at hS);refine Gp ?_
  refine zt ?_;refine⟨[.ob (bk dp d),.mem H],⟨H,aX.le_refl H,rfl,?_⟩,aI hS⟩;rw[hi];exact⟨_,_,rfl⟩
 | some x=>
  rw[hg]at hq
  obtain⟨u,rfl,rfl⟩:=hq;have iT:=br.len x (pA hg).1;(try simp only[app]at hS);refine Gp ?_
  refine zs ?_;refine Cc (YS (.ob (aY u 5 1 x.b.length (x.b.map bo))) H u x.b bN.own (by omega)) ?_;clear hS;rintro r post hq w hS;unfold ug at hq;cases hd:iO x.b with
  | none=>
   rw[hd]at hq
   obtain⟨rfl,H',hh,rfl⟩:=hq;have hi:gf d.R n f=none:=by unfold gf;rw[hg];simp only;rw[hd]
   (try simp only[app]at hS);refine Gp ?_
   refine Χ ?_;refine⟨[.ob (bk dp d),.mem H'],⟨H',hh,rfl,?_⟩,aI hS⟩;rw[hi];exact⟨_,_,rfl⟩
  | some y=>
   rw[hd]at hq
   obtain⟨v,H',hh,hT,rfl,rfl⟩:=hq;have hi:gf d.R n f=if y.2.length=n then some y else none:=by unfold gf;rw[hg];simp only;rw[hd]
   (try simp only[app]at hS);refine Gp ?_
   refine Υ ?_;refine Zd hT ?_;refine Gp ?_;refine⟨[.ob (bk dp d),.mem H'],⟨H',hh,rfl,?_⟩,aI hS⟩;rw[hi];by_cases hl:y.2.length=n
   ·rw[zzd hl,zzr (by omega)];exact⟨v,hT,rfl⟩
   rw[zzb hl,zz5 (by omega)];exact⟨_,_,rfl⟩
def loadAt(R:List PF)(n:Nat)(x:mF):Nat->mF
 | 0=>x
 | 1=>eD R n 0 x
 | _=>eD R n 1 (eD R n 0 x)
def Ak{R:List PF}{n:Nat}{f:Int}{y:Int × fz}(h:gf R n f=some y):iz y.1 y.2=true/\y.2.length=n:=by
 unfold gf at h;split at h
 ·cases h
 split at h
 ·cases h
 rename_i hd;split at h
 ·rename_i hl;cases h;exact⟨RT hd,hl⟩
 cases h
def awt{α:Type}{l m:List α}{i:Nat}(hi:i<l.length)(h:m.length=l.length):(l.take i++m.drop i).set i l[i]=l.take (i+1)++m.drop (i+1):=by
 rw[vvi _ _ (by rw[zzn];omega),zzn,show i-min i l.length=0 by omega,yya (by omega:i<m.length),List.set_cons_zero,zzh hi,zze];rfl
def VU{R:List PF}{n:Nat}{x:mF}{j:Nat}(h:j<=1):loadAt R n x (j+1)=eD R n j (loadAt R n x j):=by
 match j,h with
 | 0,_=>rfl
 | 1,_=>rfl
def Mi{R:List PF}{n:Nat}{f:Int}{x:mF}(h:x.2.2.length=n):(eD R n f x).2.2.length=n:=by
 unfold eD;cases hi:gf R n f with
 | none=>exact h
 | some y=>
  simp only;split
  ·exact h
  exact (Ak hi).2
def VT{R:List PF}{n:Nat}{f:Int}{x:mF}(h:0<=x.2.1/\x.2.1<=1099511627776):0<=(eD R n f x).2.1/\(eD R n f x).2.1<=1099511627776:=by
 unfold eD;cases hi:gf R n f with
 | none=>exact h
 | some y=>
  simp only;split
  ·exact h
  have:=(pT.1 (Ak hi).1).1;exact⟨this.1,this.2.1⟩
def QF(sp tp dp lp:Nat)(d:DS)(H:aX)(x0:mF)(n:Nat)(LC:x0.2.2.length=n)(h8:n<=8){N:Nat}(br:d.Ok N)(hN:N<=140737488355328):
  SP 143 [bH sp] [.pt sp (kB tp dp lp x0.1 x0.2.1) 188,.ob (cH tp x0.2.2),.ob (bk dp d),.mem H] (λ_ post=>∃H',H.le H'/\post=[.pt sp (kB tp dp lp (eD d.R n 1 (eD d.R n 0 x0)).1 (eD d.R n 1 (eD d.R n 0 x0)).2.1) 188,.ob (cH tp (eD d.R n 1 (eD d.R n 0 x0)).2.2),.ob (bk dp d),.mem H']):=by
 refine Enzz λW F w hS=>?_;apply aRz;delta aF bd cq ba bG bD ai;refine⟨λus w=>∃(j:Nat) (H':aX),us=[Γ j]/\j<=2/\H.le H'/\(loadAt d.R n x0 j).2.2.length=n/\SL W (.pt sp (kB tp dp lp (loadAt d.R n x0 j).1 (loadAt d.R n x0 j).2.1) 188::.ob (cH tp (loadAt d.R n x0 j).2.2)::.ob (bk dp d)::.mem H'::F) w,
  λus _=>match us with|[.int _ i]=>(2-i).toNat|_=>0,⟨0,H,rfl,by omega,aX.le_refl H,LC,hS⟩,?_⟩
 clear hS;rintro v2 w ⟨j,H',bM,hj,hh,iT,hS⟩;cases bM;refine bw (λh=>?_) (λh=>?_)
 ·have xZ:j<=1:=by omega
  have jx:=VU (R:=d.R) (n:=n) (x:=x0) xZ;have gI:∀{w:Ζ} {H2:aX} (y:mF),eD d.R n j (loadAt d.R n x0 j)=y->H.le H2->SL W (.pt sp (kB tp dp lp y.1 y.2.1) 188::.ob (cH tp y.2.2)::.ob (bk dp d)::.mem H2::F) w ->
    ∃(j':Nat) (H':aX),[Γ ((j+1:Nat):Int)]=[Γ j']/\j'<=2/\H.le H'/\(loadAt d.R n x0 j').2.2.length=n/\SL W (.pt sp (kB tp dp lp (loadAt d.R n x0 j').1 (loadAt d.R n x0 j').2.1) 188::.ob (cH tp (loadAt d.R n x0 j').2.2)::.ob (bk dp d)::.mem H'::F) w:=λy hy ep hS=>by
   refine⟨j+1,_,rfl,by omega,ep,?_,?_⟩
   ·rw[jx];exact Mi iT
   rw[jx,hy];exact hS
  generalize hx:loadAt d.R n x0 j=x at *
  refine Gn λw hS=>?_;refine Cg (yL tp x.2.2) λw hS=>?_;refine Cc (Qw dp d H' x.2.2.length j br hN) ?_;clear hS;rintro r post ⟨H2,cT,rfl,hq⟩ w hS;try simp only[app]at hS
  rw[iT]at hq
  have ep:=aX.le_trans hh cT;cases hi:gf d.R n j with
  | none=>
   rw[hi]at hq
   obtain⟨a,b,rfl⟩:=hq;refine Gp ?_;refine⟨λus w=>False,?_,λw h=>h.elim⟩;refine yb (zt ?_);refine Gp ?_;exact⟨gI x (by unfold eD;rw[hi]) ep (aI hS),by dsimp only;omega⟩
  | some y=>
   rw[hi]at hq
   obtain⟨v,hT,rfl⟩:=hq;obtain⟨Un,j4⟩:=Ak hi;have nQ:=(pT.1 Un).2;refine Gp ?_;refine⟨λus w=>us=[]/\¬(0<=x.1/\y.1<=x.2.1)/\SL W (.pt sp (kB tp dp lp x.1 x.2.1) 188::.ob (cH tp x.2.2)::.ob (bk dp d)::.mem H2::F) w,?_,?_⟩
   ·refine yb (zs ?_);refine bw (λh0=>?_) (λh0=>?_)
    ·refine bw (λh1=>?_) (λh1=>?_)
     ·refine Gp ?_;exact⟨gI x (by unfold eD;rw[hi];simp only;rw[zzd ⟨h0,h1⟩]) ep (aI hS),by dsimp only;omega⟩
     exact⟨rfl,λh=>h1 h.2,aI hS⟩
    exact⟨rfl,λh=>h0 h.1,aI hS⟩
   clear hS;rintro w ⟨-,hc,hS⟩;refine Gn λw hS=>?_;refine Zd hT ?_;have hS:SL W (_::.ob (cH tp (y.2.take 0++x.2.2.drop 0))::_) _:=hS;refine⟨λus w=>∃i:Nat,us=[Γ i]/\i<=y.2.length/\SL W (.ob (cH tp (y.2.take i++x.2.2.drop i))::.pt sp (kB tp dp lp j y.1) 188::.ob (bk dp d)::.mem H2::F) w,
    λus _=>match us with|[.int _ i]=>(y.2.length-i).toNat|_=>0,⟨0,rfl,by omega,aI hS⟩,?_⟩
   clear hS;rintro v54 w ⟨i,bM,bg,hS⟩;cases bM;refine bw (λh=>?_) (λh=>?_)
   ·have bg:i<y.2.length:=by omega
    have pF:=awt (m:=x.2.2) bg (by omega);have Dg:i<(y.2.take i++x.2.2.drop i).length:=by rw[zza,zzn,zz0];omega
    have KD:=nQ _ (zzi bg);refine Qi hS Xh hT bg λu hu=>?_;generalize y.2[i]=C at *
    generalize y.2.take i++x.2.2.drop i=T at *
    refine Gp ?_;refine Cg (qZ tp T H2 u i C Dg hu KD.sorted (by have:=KD.len;omega)) λw hS=>?_;refine⟨⟨i+1,rfl,by omega,?_⟩,by dsimp only;omega⟩;rw[<- pF];exact aI hS
   obtain rfl:i=y.2.length:=by omega
   rw[zz6,yyt (by omega),zz4]at hS
   refine Gp ?_;exact⟨gI (j,y.1,y.2) (by unfold eD;rw[hi];simp only;rw[zzb hc]) ep (aI hS),by dsimp only;omega⟩
 obtain rfl:j=2:=by omega
 exact⟨_,⟨H',hh,rfl⟩,hS⟩
def b7.i_(k:b7):Option fz:=match lj k.ts.length k.image (cr k.g.a_) (cX k.g.a_) k.ts with
 | none=>none
 | some ts=>if k.image<=bF k.g.a_/\cX k.g.a_<=k.image+1 then some ts else none
def Ss{L:List bR}(h:hJ L):bF L-cX L+1=((cr L).length:Int):=by
 by_cases hL:L=[]
 ·subst hL;rfl
 rw[h.head hL];omega
def V5{L:List bR}{N:Nat}(h:∀s∈L,iM s N):1<=cX L/\cX L<=1099511627776:=by
 cases L with
 | nil=>exact⟨yyv _,by show (1:Int)<=_;decide⟩
 | cons s r=>exact⟨(h s (.head _)).n0,(h s (.head _)).n1⟩
def X7{n:Nat}{image:Int}{b:Φ}{r:List Φ}{aR:Int}{ts:fz}:lj n image (b::r) aR ts=match ix b with
  | .error _=>none
  | .ok t=>if t.aR=aR/\(∀c∈t.changes,c.table<(n:Int)) then lj n image r (aR+1) (if image<aR then dV ts t.changes else ts) else none:=rfl
def QP(sp tp dp lp:Nat)(H:aX)(k:b7){N:Nat}(hg:gY k.g N)(hN:N<=1000000000)(hs:∀C∈k.ts,ek C){L0:Nat}(hn:∀C∈k.ts,C.length<=L0)(hL:L0+16*(cr k.g.a_).length<=900000)(l7:0<=k.image/\k.image<=1099511627776):
  SP 144 [bH sp] [.ob (cj sp tp dp lp k),.mem H] (λv post=>∃H',H.le H'/\match k.i_ with
   | none=>v= .bool false/\post=[.mem H']
   | some ts=>v= .bool true/\post=[.ob (cj sp tp dp lp {k with ts:=ts}),.mem H']):=by
 refine Enzz λW F w hS=>?_;apply aR0;delta aF bd aW ba bG bD bc ai aZ;have hF:∀{w:Ζ} {H':aX},k.i_=none->H.le H'->SL W (.mem H'::F) w->∃post,(∃H',H.le H'/\match k.i_ with
   | none=>(.bool false:Ε)= .bool false/\post=[.mem H']
   | some ts=>(.bool false:Ε)= .bool true/\post=[.ob (cj sp tp dp lp {k with ts:=ts}),.mem H'])/\SL W (app post F) w:=λhr hh hS=>by
  rw[hr];exact⟨[.mem _],⟨_,hh,rfl,rfl⟩,hS⟩
 have rN:=Ss hg.seq;have vw:=V5 hg.ok.a_;have K1:=hg.hd;refine Cg (Zo sp tp dp lp k hg hN) λw hS=>?_;refine⟨λus w=>∃(i:Nat) (T:fz) (H2:aX),us=[Γ (cX k.g.a_+i)]/\i<=(cr k.g.a_).length/\lj k.ts.length k.image (cr k.g.a_) (cX k.g.a_) k.ts=lj k.ts.length k.image ((cr k.g.a_).drop i) (cX k.g.a_+i) T/\T.length=k.ts.length/\(∀C∈T,ek C)/\(∀C∈T,C.length<=L0+16*i)/\H.le H2/\SL W (.ob (cj sp tp dp lp {k with ts:=T})::.mem H2::F) w,
  λus _=>match us with|[.int _ i]=>(bF k.g.a_+1-i).toNat|_=>0,⟨0,k.ts,H,by simp,by omega,by simp,rfl,hs,by simpa using hn,aX.le_refl H,aI hS⟩,?_⟩
 clear hS;rintro v3 w ⟨i,T,H2,bM,hi,bU,pB,nQ,rJ,hh,hS⟩;cases bM;refine Cg (yv sp tp dp lp {k with ts:=T} hg hN) λw hS=>?_;refine za (λh=>?_) (λh=>?_)
 ·have h:cX k.g.a_+i<=bF k.g.a_:=h;have bg:i<(cr k.g.a_).length:=by omega
  have vF:=hg.seq.read i;rw[zzc bg]at vF
  rw[yya bg,X7]at bU
  generalize (cr k.g.a_)[i]=bs at *
  have oS:1<=cX k.g.a_+i/\cX k.g.a_+i<=1099511627776:=by omega
  generalize hlq:cX k.g.a_+i=aR at *
  have l9:(match ix bs with
   | .error _=>none
   | .ok t=>if t.aR=aR/\(∀c∈t.changes,c.table<(k.ts.length:Int)) then lj k.ts.length k.image ((cr k.g.a_).drop (i+1)) (aR+1) (if k.image<aR then dV T t.changes else T) else none)=none->k.i_=none:=λh=>by unfold b7.i_;rw[bU,h]
  refine Cc (qT sp tp dp lp {k with ts:=T} hg hN H2 aR (by omega)) ?_;clear hS;rintro r post hq w hS;unfold Bf b7.gM at hq;simp only at hq;rw[vF]at hq
  simp only at hq;cases hd:ix bs with
  | error e=>
   rw[hd]at hq l9
   obtain⟨d_,H3,da,rfl,rfl⟩:=hq;refine Gm λb w hS=>?_;refine za (λ_=>?_) (λh=>absurd d_ h);exact hF (l9 rfl) (aX.le_trans hh da) (aI hS)
  | ok t=>
   rw[hd]at hq l9 bU
   obtain⟨x,H3,da,rfl,hx,rfl⟩:=hq;have iQ:=aX.le_trans hh da;obtain⟨UK,Ad,UL,UM,UN,Ly,UO⟩:=iW (R2 hd);try simp only[app]at hS
   refine Gp ?_;refine zD hS λxb w hS=>?_;refine zO (vs:=fj x) hS Xu rfl rfl (xn (aR:=x.aR) (kind:=x.kind) (mark:=x.mark) hx.cv.one hx.sv.one) λw hS=>?_;unfold fj at hS;rw[hx.aR,hx.kind,hx.mark]at hS
   refine Gn λw hS=>?_;refine Χ ?_;refine bw (λhl=>?_) (λhl=>?_)
   ·exact hF (l9 (by simp only;rw[zzb λh=>hl h.1])) iQ (aI hS)
   have hS:=cj.iff.1 (SL.bA hS (t:=.ob (cj sp tp dp lp {k with ts:=T})::.pt xb [Γ t.aR,Γ t.kind,x.cv,x.sv,Γ t.mark] 106::.mem H3::F) Xi);refine Gp ?_;refine Cg (yL tp T) λw hS=>?_;refine Cg (ZC H3 x.cv t.changes T.length hx.cv (by omega)) λw hS=>?_;rw[pB];refine zr (λhb=>?_) (λhb=>?_)
   ·have hb:=yyj hb;exact hF (l9 (by simp only;rw[zzb λh=>hb h.2])) iQ (aI hS)
   have hb:=zzl hb;have b5:t.changes.all (fK T.length)=true:=zzw.2 λc hc=>zzr ⟨(pS.1 (Ly c hc)).1,by rw[pB];exact hb c hc⟩;simp only at bU;rw[zzd (show t.aR=aR/\∀c∈t.changes,c.table<(k.ts.length:Int) from ⟨by omega,hb⟩)]at bU
   have C5:aR+1=cX k.g.a_+((i+1:Nat):Int):=by omega
   rw[C5]at bU
   refine bw (λgm=>?_) (λgm=>?_)
   ·rw[zzd (show k.image<aR by omega)]at bU
    refine Gn λw hS=>?_;refine Cg (Zv tp T H3 x.cv t.changes hx.cv (by omega) nQ (L0+16*i) rJ (by omega)) λw hS=>?_;rw[zzd b5]at hS
    rw[C5];refine⟨⟨i+1,dV T t.changes,H3,rfl,by omega,bU,by rw[pk];exact pB,wZ nQ λc hc=>zzw.1 b5 c hc,λC hC=>?_,iQ,SL.bA (cj.put {k with ts:=dV T t.changes} hS Xp) Xi⟩,by dsimp only;omega⟩;have:=wY (L0+16*i) (l:=t.changes) rJ (λc hc=>zzw.1 b5 c hc) C hC;omega
   rw[zzb (show ¬k.image<aR by omega)]at bU
   refine Gp ?_;rw[C5];exact⟨⟨i+1,T,H3,rfl,by omega,bU,pB,nQ,λC hC=>by have:=rJ C hC;omega,iQ,SL.bA (cj.put {k with ts:=T} hS Xp) Xi⟩,by dsimp only;omega⟩
 have h:¬cX k.g.a_+i<=bF k.g.a_:=h;obtain rfl:i=(cr k.g.a_).length:=by omega
 rw[vvr]at bU
 have bU:lj k.ts.length k.image (cr k.g.a_) (cX k.g.a_) k.ts=some T:=bU;have hR:k.i_=if k.image<=bF k.g.a_/\cX k.g.a_<=k.image+1 then some T else none:=by unfold b7.i_;rw[bU]
 have hS:SL W (.pt sp (kB tp dp lp k.eZ k.image) 188::.ob (cH tp T)::.ob (bQ lp dp k.g)::_) _:=cj.iff.1 hS;refine Gn λw hS=>?_;have hS:=cj.put {k with ts:=T} hS Xp;refine Cg (yv sp tp dp lp {k with ts:=T} hg hN) λw hS=>?_;have hS:SL W (.pt sp (kB tp dp lp k.eZ k.image) 188::.ob (cH tp T)::.ob (bQ lp dp k.g)::_) _:=cj.iff.1 hS;refine bw (λh1=>?_) (λh1=>?_)
 ·have h1:k.image<=bF k.g.a_:=h1;refine Gp ?_;have hS:=cj.put {k with ts:=T} hS Xp;refine Cg (Zo sp tp dp lp {k with ts:=T} hg hN) λw hS=>?_;have hS:SL W (.pt sp (kB tp dp lp k.eZ k.image) 188::.ob (cH tp T)::.ob (bQ lp dp k.g)::_) _:=cj.iff.1 hS;refine Gp ?_;have hS:=cj.put {k with ts:=T} hS Xp;by_cases h2:cX k.g.a_<=k.image+1
  ·rw[zzr (show cX ({k with ts:=T}:b7).g.a_<=k.image+1 from h2)];refine⟨[.ob (cj sp tp dp lp {k with ts:=T}),.mem H2],⟨H2,hh,?_⟩,aI hS⟩;rw[hR,zzd ⟨h1,h2⟩];exact⟨rfl,rfl⟩
  rw[zz5 (show ¬cX ({k with ts:=T}:b7).g.a_<=k.image+1 from h2)];exact hF (by rw[hR,zzb λh=>h2 h.2]) hh (aI hS)
 exact hF (by rw[hR,zzb λh=>h1 h.1]) hh (aI hS)
def Bd(dp:Nat)(H:aX)(y:DS × Except Int b7)(r:Ε)(post:Β):Prop:=match y.2 with
 | .error e=>e≠0/\∃H',H.le H'/\r= .tuple #[.pointer none,Γ e]/\post=[.ob (bk dp y.1),.mem H']
 | .ok k=>∃sp tp lp H',H.le H'/\r= .tuple #[bH sp,Γ 0]/\post=[.ob (cj sp tp dp lp k),.ob (bk dp y.1),.mem H']
def Mk{R:List PF}{n:Nat}{x:mF}(hx:x.2.2.length=n/\(0<=x.2.1/\x.2.1<=1099511627776)/\∀C∈x.2.2,uy C)(f:Int):(eD R n f x).2.2.length=n/\(0<=(eD R n f x).2.1/\(eD R n f x).2.1<=1099511627776)/\∀C∈(eD R n f x).2.2,uy C:=by
 refine⟨Mi hx.1,VT hx.2.1,?_⟩;unfold eD;cases hi:gf R n f with
 | none=>exact hx.2.2
 | some y=>
  simp only;split
  ·exact hx.2.2
  exact (pT.1 (Ak hi).1).2
def VY(R:List PF)(n:Nat):(lg R n).2.2.length=n/\(0<=(lg R n).2.1/\(lg R n).2.1<=1099511627776)/\∀C∈(lg R n).2.2,uy C:=
 Mk (Mk (x:=(-1,0,List.replicate n [])) ⟨xxd,⟨show (0:Int)<=0 by decide,show (0:Int)<=1099511627776 by decide⟩,λC hC=>by rw[(vv2.1 hC).2];exact⟨List.Pairwise.nil,by simp,by decide⟩⟩ 0) 1
def aw5(H:aX)(dp:Nat)(d:DS)(cV size:Int){N B:Nat}(br:d.Ok B)(hB:B<=140737488355328)(hw:lV d.R 16 N)(hN:N<=900000000)(dH:d.ops<=90000)(hn:∀d' g,eO d 16 size=(d',.ok g)->(cr g.a_).length<=50000):
  SP 116 [bH dp,Γ cV,Γ size] [.ob (bk dp d),.mem H] (Bd dp H (nr d cV size)):=by
 refine Enzz λW F w hS=>?_;apply aRi;delta aF bD ai bC;have hR:=br.NS;refine Cc (qX cV) ?_;clear hS;rintro r post hq w hS;unfold uo at hq;by_cases ht:cV<1\/8<cV
 ·rw[zzd ht]at hq
  obtain⟨rfl,rfl⟩:=hq;have e:nr d cV size=(d,.error 1):=by unfold nr;rw[zzd ht]
  rw[e];(try simp only[app]at hS);refine Gp ?_
  refine Υ ?_;exact⟨_,⟨by decide,H,aX.le_refl H,rfl,rfl⟩,aI hS⟩
 rw[zzb ht]at hq
 obtain⟨tp,rfl,rfl⟩:=hq;obtain⟨n,rfl⟩:∃n:Nat,cV=n:=⟨cV.toNat,by omega⟩;rw[zzy]at hS
 (try simp only[app]at hS);refine Gp ?_
 refine Χ ?_;refine Cc (Nr dp d 16 size br hB hw (by omega) (by omega) (by omega)) ?_;clear hS;rintro r post hq w hS;unfold nr;rw[zzb ht];unfold uq at hq;have KT:=Xg (base:=16) (size:=size) br;cases nW:eO d 16 size with
 | mk d' o=>
  rw[nW]at hq KT
  cases o with
  | error e=>
   obtain⟨he,rfl,rfl⟩:=hq;(try simp only[app]at hS);refine Gp ?_
   refine za (λ_=>?_) (λh=>absurd he h);exact⟨_,⟨he,H,aX.le_refl H,rfl,rfl⟩,aI hS⟩
  | ok g=>
   obtain⟨lp,rfl,rfl⟩:=hq;have hG:=Nq hw (by omega) nW;have bcj:=hn d' g nW;obtain⟨x1,x2,x3⟩:=VY d'.R n;(try simp only[app]at hS);refine Gp ?_
   refine Χ ?_;refine Gp ?_;refine zu hS λsp w hS=>?_;refine Cc (QF sp tp dp lp d' H (-1,0,List.replicate n []) n xxd (by omega) KT hB) ?_;clear hS;rintro _ post ⟨H2,ep,rfl⟩ w hS;try simp only[app]at hS
   have Lc:eD d'.R n 1 (eD d'.R n 0 (-1,0,List.replicate n []))=lg d'.R n:=rfl;rw[Lc]at hS
   simp only[zzy];generalize lg d'.R n=x at *
   obtain⟨nw,im,ts⟩:=x;simp only at x1 x2 x3 hS ⊢;have hS:=cj.lR (d:=d') hS Xp;refine Cc (QP sp tp dp lp H2 ⟨g,d',ts,nw,im⟩ hG (by omega) (λC hC=>(x3 C hC).sorted) (L0:=1000) (λC hC=>(x3 C hC).len) (by show 1000+16*(cr g.a_).length<=900000;omega) x2) ?_;clear hS;rintro r post ⟨H3,da,hq⟩ w hS;have iQ:=aX.le_trans ep da;have hK:b7.i_ ⟨g,d',ts,nw,im⟩=match lj n im (cr g.a_) (cX g.a_) ts with
    | none=>none
    | some ts=>if im<=bF g.a_/\cX g.a_<=im+1 then some ts else none:=by rw[<- x1];rfl
   rw[hK]at hq
   clear hK;cases hr:lj n im (cr g.a_) (cX g.a_) ts with
   | none=>
    rw[hr]at hq
    obtain⟨rfl,rfl⟩:=hq;try simp only[app]at hS
    refine yb (zt ?_);exact⟨_,⟨by decide,H3,iQ,rfl,rfl⟩,aI hS⟩
   | some ts2=>
    rw[hr]at hq
    simp only at hq;by_cases hc:im<=bF g.a_/\cX g.a_<=im+1
    ·rw[zzd hc]at hq
     obtain⟨rfl,rfl⟩:=hq;try simp only[app]at hS
     refine yb (zs ?_);simp only;rw[zzd hc];exact⟨_,⟨sp,tp,lp,H3,iQ,rfl,rfl⟩,aI hS⟩
    rw[zzb hc]at hq
    obtain⟨rfl,rfl⟩:=hq;try simp only[app]at hS
    refine yb (zt ?_);simp only;rw[zzb hc];exact⟨_,⟨by decide,H3,iQ,rfl,rfl⟩,aI hS⟩
def qR(H:aX)(dp:Nat)(d:DS)(cV size:Int){N:Nat}(br:d.Ok N)(hN:N<=900000000)(dH:d.ops<=90000)(hn:∀d' g,eO d 16 size=(d',.ok g)->(cr g.a_).length<=50000):
  SP 116 [bH dp,Γ cV,Γ size] [.ob (bk dp d),.mem H] (Bd dp H (nr d cV size)):=
 aw5 H dp d cV size br (by omega) (lV.all br.len 16) hN dH hn
structure Tm where
 id:Int
 when:Int
deriving DecidableEq
instance:Inhabited Tm:=⟨⟨0,0⟩⟩
def dZ(t:Tm):Ξ:=[Γ t.id,Γ t.when]
def nF(t:Tm):(dZ t).length=2:=rfl
def uV(t:Tm):∀v∈dZ t,v.oneCell'=true:=by simp[dZ,Value.oneCell']
def mS(x:Int):Int:=min (max x 0) 1125899906842624
def ll(a b:Tm):Prop:=a.when<b.when\/(a.when=b.when/\a.id<b.id)
def lO(L:List Tm)(id:Int):List Tm:=L.filter λt=>decide (t.id≠id)
def erase_filter:∀(l:List Tm) (i:Nat) (id:Int),(l.map (·.id)).Nodup->(∃h:i<l.length,l[i].id=id)->lO l id=l.eraseIdx i
 | [],i,id,_,⟨h,_⟩=>by simp at h
 | x::l,0,id,hn,⟨_,he⟩=>by
  simp only[vv6]at he;rw[zzj,wwi]at hn
  unfold lO;rw[ww6 (by simpa using he),List.eraseIdx_cons_zero,xxn];intro y hy;have:y.id≠x.id:=λe=>hn.1 (e▸zz1.2 ⟨y,hy,rfl⟩);simpa [he] using this
 | x::l,i+1,id,hn,⟨h,he⟩=>by
  rw[zzj,wwi]at hn
  have hl:i<l.length:=by simpa using h
  have jk:l[i].id=id:=by simpa using he
  have hx:x.id≠id:=λe=>hn.1 (by rw[e,<- jk];exact zz1.2 ⟨_,zzi hl,rfl⟩);have ih:=erase_filter l i id hn.2 ⟨hl,jk⟩;unfold lO at ih ⊢;rw[ww5 (by simpa using hx),vv3,ih]
def Vu{l:List Tm}{id:Int}(h:∀t∈l,t.id≠id):lO l id=l:=by
 unfold lO;rw[xxn];intro t ht;simpa using h t ht
def Vv{l l':List Tm}(h:l.Perm l')(id:Int):(lO l id).Perm (lO l' id):=h.filter _
def Vt{l:List Tm}(h:(l.map (·.id)).Nodup)(id:Int):((lO l id).map (·.id)).Nodup:=h.sublist (List.filter_sublist.map _)
def xz{α β:Type}(f:α->List β):∀(xs:List α) (s:Nat) (h:s<xs.length) (y:α),∃R,(xs.flatMap f).Perm (f xs[s]++R)/\((xs.set s y).flatMap f).Perm (f y++R)
 | [],s,h,y=>by simp at h
 | x::xs,0,h,y=>⟨xs.flatMap f,by simp,by simp⟩
 | x::xs,s+1,h,y=>by
  obtain⟨R,h1,h2⟩:=xz f xs s (by simpa using h) y;refine⟨f x++R,?_,?_⟩
  ·simp only[List.flatMap_cons,vv9];refine (h1.append_left _).trans ?_;rw[<- zze,<- zze];exact vvh.append_right _
  simp only[List.set_cons_succ,List.flatMap_cons];refine (h2.append_left _).trans ?_;rw[<- zze,<- zze];exact vvh.append_right _
structure mJ(xs:List (Ε × List Tm))(L:List Tm):Prop where
 len:xs.length=16
 at_:∀s (h:s<xs.length),∀t∈xs[s].2,md t.id 16=s
 perm:(xs.flatMap (·.2)).Perm L
 nodup:(L.map (·.id)).Nodup
def mJ.sub{xs:List (Ε × List Tm)}{L:List Tm}(h:mJ xs L)(s:Nat)(hs:s<xs.length):(xs[s].2.map (·.id)).Nodup/\∀t∈xs[s].2,t∈L:=by
 obtain⟨R,h1,_⟩:=xz (·.2) xs s hs xs[s];have hp:=h1.symm.trans h.perm;have hn:=(hp.map (·.id)).nodup_iff.2 h.nodup;rw[zzx]at hn
 exact⟨(List.nodup_append.1 hn).1,λt ht=>hp.subset (yyb.2 (.inl ht))⟩
def mJ.mem{xs:List (Ε × List Tm)}{L:List Tm}(h:mJ xs L){t:Tm}(ht:t∈L):∃hs:md t.id 16<xs.length,t∈xs[md t.id 16].2:=by
 have:=h.perm.symm.subset ht;obtain⟨x,hx,Lz⟩:=List.mem_flatMap.1 this;obtain⟨s,hs,rfl⟩:=yy5.1 hx;have e:=h.at_ s hs t Lz;subst e;exact⟨hs,Lz⟩
def mJ.del{xs:List (Ε × List Tm)}{L:List Tm}(h:mJ xs L){id:Int}{i:Nat}(hs:md id 16<xs.length)(hi:i<(xs[md id 16].2).length)(he:(xs[md id 16].2)[i].id=id)(v:Ε):
  mJ (xs.set (md id 16) (v,(xs[md id 16].2).eraseIdx i)) (lO L id):=by
 obtain⟨hn,tw⟩:=h.sub _ hs;have e:=erase_filter _ i id hn ⟨hi,he⟩;refine⟨by simpa using h.len,λs iR t ht=>?_,?_,Vt h.nodup id⟩
 ·rw[xxr]at ht
  split at ht
  ·rename_i es;subst es;exact h.at_ _ hs t (List.mem_of_mem_eraseIdx ht)
  exact h.at_ s (by simpa using iR) t ht
 obtain⟨R,h1,h2⟩:=xz (·.2) xs (md id 16) hs (v,(xs[md id 16].2).eraseIdx i);refine h2.trans ?_;simp only;rw[<- e];have h3:=Vv (h1.symm.trans h.perm) id;unfold lO at h3 ⊢;rw[xxp]at h3
 have hR:R.filter (λt=>decide (t.id≠id))=R:=by
  rw[xxn];intro t ht;have kZ:=((h1.symm.trans h.perm).map (·.id)).nodup_iff.2 h.nodup;rw[zzx,List.nodup_append]at kZ
  have:=kZ.2.2 id (zz1.2 ⟨_,zzi hi,he⟩) t.id (zz1.2 ⟨t,ht,rfl⟩);simpa using λe=>this e.symm
 rw[hR]at h3
 exact h3
def mJ.gone{xs:List (Ε × List Tm)}{L:List Tm}(h:mJ xs L){id:Int}(hs:md id 16<xs.length)(hn:∀t∈xs[md id 16].2,t.id≠id):∀t∈L,t.id≠id:=λt ht e=>by
 obtain⟨_,hm⟩:=h.mem ht;subst e;exact hn t hm rfl
def S0{l:List Tm}{id:Int}{i:Nat}(h:l.findIdx? (λt=>decide (t.id=id))=some i):∃hi:i<l.length,l[i].id=id:=by
 obtain⟨hi,h1,_⟩:=wwu.1 h;exact⟨hi,by simpa using h1⟩
def S1{l:List Tm}{id:Int}(h:l.findIdx? (λt=>decide (t.id=id))=none):∀t∈l,t.id≠id:=λt ht=>by
 have:=vvt.1 h t ht;simpa using this
set_option maxRecDepth 100000
open Go.RowKit
abbrev jt(p:Ε × List Tm):zw:=aY p.1 353 2 p.2.length (p.2.map dZ).flatten
def gr(xs:List (Ε × List Tm))(now:Int):Ξ:=xs.map (·.1)++[Γ now]
abbrev uC(wp:Nat)(xs:List (Ε × List Tm))(now:Int):Β:=[.pt wp (gr xs now) 178,.ob (ze jt xs)]
def fY(wp:Nat)(L:List Tm)(now:Int):zw:=gi λxs:List (Ε × List Tm)=>zG (mJ xs L) (uC wp xs now)
def fY.iff{W w:Ζ}{wp:Nat}{L:List Tm}{now:Int}{l:Β}:SL W (.ob (fY wp L now)::l) w↔∃xs,mJ xs L/\SL W (.pt wp (gr xs now) 178::.ob (ze jt xs)::l) w:=by
 unfold fY uC;simp only[SL.ex,SL.fact,zzq,zzp]
def EC{xs:List (Ε × List Tm)}{now:Int}{s o:Nat}{p:Ε × List Tm}(h:xs[s]?=some p)(ho:o=s):(gr xs now)[o]?=some p.1:=by
 subst ho;have hl:=(zzf.1 h).1;unfold gr;rw[zzs (by simpa using hl),vvk,h];rfl
def wA{xs:List (Ε × List Tm)}{now:Int}(h:xs.length=16):(gr xs now)[0+16]?=some (Γ now):=by
 unfold gr;rw[zz3 (by simp[h])];simp[h]
def bam{xs:List (Ε × List Tm)}{now:Int}{s o:Nat}(hs:s<xs.length)(ho:o=s)(v:Ε)(l:List Tm):(gr xs now).set o v=gr (xs.set s (v,l)) now:=by
 subst ho;unfold gr;rw[wwe _ _ (by simpa using hs),vvo]
def ban{xs:List (Ε × List Tm)}{now n2:Int}(h:xs.length=16):(gr xs now).set (0+16) (Γ n2)=gr xs n2:=by
 unfold gr;rw[vvi _ _ (by simp[h])];simp[h]
def Z5(x:Int):SP 115 [Γ x] [] (bj (Γ (mS x)) []):=by
 refine Enzz λW F w hS=>?_;apply aRh;delta ai;refine Gp ?_;(exact bt hS)
def ZQ(v:Int):SP 298 [Γ v] [] (bj (Γ (md v 16:Int)) []):=by
 refine Enzz λW F w hS=>?_;apply aYj;have hv:0<=IntKind.u64.wrap v:=by rw[ww7];omega
 refine zK ?_;refine ZM (by omega) ?_;have e:(IntKind.u64.wrap v).tmod 16=(md v 16:Int):=by
  rw[xx1 hv];unfold md;have:=vvx (IntKind.u64.wrap v) (show (16:Int)≠0 by omega);omega
 rw[e];have:=iX v 16 (by decide);refine ya (by omega) ?_;(exact bt hS)
def QJ(x:Int):SP 79 [Γ x] [] (λv post=>∃wp:Nat,v= Δ wp/\post=[.ob (fY wp [] (mS x))]):=by
 refine Enzz λW F w hS=>?_;apply a_x;delta ai aZ;refine Cg (Z5 x) λw hS=>?_;refine⟨_,rfl,zD hS ?_⟩;clear hS;intro wp w hS;have hS:SL W (.pt wp (gr (List.replicate 16 (.slice none 0 0,[])) (mS x)) 178::F) w:=hS;refine⟨_,⟨wp,rfl,rfl⟩,?_⟩;refine fY.iff.2 ⟨List.replicate 16 (.slice none 0 0,[]),⟨by simp,λs h t ht=>(by rw[List.getElem_replicate]at ht;cases ht),by simp[List.replicate],by simp⟩,?_⟩;have hn:∀k,SL W (.ob (ze jt (List.replicate k (.slice none 0 0,[])))::.pt wp (gr (List.replicate 16 (.slice none 0 0,[])) (mS x)) 178::F) w:=by
  intro k;induction k with
  | zero=>exact ze.nil hS
  | succ k ih=>
   refine ze.iff.2 ?_;have:=ze.iff.1 ih;exact aY.nil this
 exact (hn 16).perm (.swap _ _ _)
def y7(wp:Nat)(L:List Tm)(now:Int):SP 90 [Δ wp] [.ob (fY wp L now)] (bj (Γ now) [.ob (fY wp L now)]):=by
 refine Enzz λW F w hS=>?_;apply a_8;delta bd;obtain⟨xs,hx,hS⟩:=fY.iff.1 hS;refine Gp ?_;refine zT hS Xh (wA hx.len) ?_;exact⟨_,⟨rfl,rfl⟩,fY.iff.2 ⟨xs,hx,hS⟩⟩
def YT(b:Nat)(id:Int)(t:Tm):SP 344 ([agg (dZ t)]++(#[Δ b]:Array Ε).toList) [.pt b [Γ id] 3] (bj (.bool (decide (t.id=id))) [.pt b [Γ id] 3]):=by
 refine Enzz λW F w hS=>?_;apply aZa;delta aW;refine⟨_,rfl,zD hS ?_⟩;clear hS;intro b2 w hS;refine Gp ?_;exact bt hS
def qj(wp:Nat)(xs:List (Ε × List Tm))(now id:Int)(p:Ε × List Tm)(hp:xs[md id 16]?=some p)(rH:xs.length=16)(hn:p.2.length<=1000000):
  SP 297 [Δ wp,Γ id] (uC wp xs now) (bj (Γ (vO (p.2.findIdx? λt=>decide (t.id=id)))) (uC wp xs now)):=by
 refine Enzz λW F w hS=>?_;apply aYi;delta bG;refine⟨rfl,zD hS ?_⟩;clear hS;intro b w hS;refine Gn λw hS=>?_;refine Cg (ZQ id) λw hS=>?_;have hm:=iX id 16 (by decide);refine yu hm ?_;refine zT hS Xh (EC hp (by omega)) ?_;have hS:=ze.take (SL.bA hS (t:=.ob (ze jt xs)::.pt b [Γ id] 3::.pt wp (gr xs now) 178::F) Xi) hp;have hC:=U8 (t:=353) nF rfl (λv0 v1 w R h=>aY9 v0 v1 w R h) (λt=>YT b id t) p.1 p.2 (by omega);simp only[zzq,zzp]at hC;refine Cc (hC) ?_;clear hS;rintro v post ⟨rfl,rfl⟩ w hS;try simp only[app]at hS
 have hS:=ze.put (y:=p) (SL.bA hS (t:=.ob (jt p)::.ob (ze jt (xs.eraseIdx (md id 16)))::.pt wp (gr xs now) 178::F) Xi) (by omega);have e:xs.set (md id 16) p=xs:=by
  obtain⟨h1,h2⟩:=zzf.1 hp;rw[<- h2];simp
 rw[e]at hS
 (exact bt hS)
def Qs(wp:Nat)(L:List Tm)(now id:Int)(hn:L.length<=1000000):SP 248 [Δ wp,Γ id] [.ob (fY wp L now)]
  (bj (.bool (decide (∃t∈L,t.id=id))) [.ob (fY wp (lO L id) now)]):=by
 refine Enzz λW F w hS=>?_;apply aXn;delta aF bG bc ai;obtain⟨xs,hx,hS⟩:=fY.iff.1 hS;have hm:=iX id 16 (by decide);have hs:md id 16<xs.length:=by rw[hx.len];exact hm
 have hp:xs[md id 16]?=some xs[md id 16]:=by simp[hs]
 obtain⟨hnd,tw⟩:=hx.sub _ hs;have gn:(xs[md id 16].2).length<=1000000:=by
  obtain⟨R,h1,_⟩:=xz (·.2) xs _ hs xs[md id 16];have:=(h1.symm.trans hx.perm).length_eq;rw[zza]at this;omega
 have UW:=λi (hi:i<(xs[md id 16].2).length) he v=>hx.del hs (i:=i) hi he v;have T9:=hx.gone hs;generalize xs[md id 16]=p at *
 refine Cc (qj wp xs now id p hp hx.len gn) ?_;clear hS;rintro v post ⟨rfl,rfl⟩ w hS;try simp only[app]at hS
 cases hf:p.2.findIdx? (λt=>decide (t.id=id)) with
 | none=>
  have cU:=T9 (S1 hf);simp only[vO];refine Gp ?_;refine Υ ?_;have e:decide (∃t∈L,t.id=id)=false:=by
   rw[yyq];rintro ⟨t,ht,he⟩;exact cU t ht he
  rw[e,Vu cU];exact⟨_,⟨rfl,rfl⟩,fY.iff.2 ⟨xs,hx,aI hS⟩⟩
 | some i=>
  obtain⟨hi,he⟩:=S0 hf;simp only[vO];refine Gp ?_;refine Χ ?_;refine Cg (ZQ id) λw hS=>?_;refine yu hm ?_;refine zT hS Xh (EC hp (by omega)) ?_;refine Gp ?_;have hS:=ze.take (SL.bA hS (t:=.ob (ze jt xs)::.pt wp (gr xs now) 178::F) Xi) hp;refine Cc (JR (sz:=2) (fH:=16) (z:=[Γ 0,Γ 0]) (zv:=.agg #[Γ 0,Γ 0]) (λv0 v1 v2 w R h=>aYk v0 v1 v2 w R h) underlying175 (λw=>by kernel_rfl) rfl rfl (by simp[Value.oneCell']) p.1 p.2.length i (p.2.map dZ).flatten hi (tR uV _) (by omega) (by omega)) ?_;clear hS;rintro v post rfl w hS;try simp only[app]at hS
  refine yu hm ?_;have o1:v.oneCell'=true:=aY.one hS;refine ZN hS Xu (EC hp (by omega)) o1 ?_;clear hS;intro w hS;have ef:List.take (i*2) (p.2.map dZ).flatten++List.drop ((i+1)*2) (p.2.map dZ).flatten=((p.2.eraseIdx i).map dZ).flatten:=by
   rw[u9 nF,u7 nF,List.eraseIdx_eq_take_drop_succ];simp
  have el:p.2.length-1=(p.2.eraseIdx i).length:=by rw[List.length_eraseIdx,zzd hi]
  rw[ef,el,bam hs (by omega) v (p.2.eraseIdx i)]at hS
  have hS:=ze.put (y:=(v,p.2.eraseIdx i)) (SL.bA hS (t:=.ob (jt (v,p.2.eraseIdx i))::.ob (ze jt (xs.eraseIdx (md id 16)))::.pt wp (gr (xs.set (md id 16) (v,p.2.eraseIdx i)) now) 178::F) Xi) hs;have e:decide (∃t∈L,t.id=id)=true:=by
   rw[vv0];exact⟨_,tw _ (zzi hi),he⟩
  rw[e];exact⟨_,⟨rfl,rfl⟩,fY.iff.2 ⟨_,UW i hi he v,aI hS⟩⟩
def PR{K:Ε->Prop}{w:Ζ}{xs:List (Ε × List Tm)}{k:Nat}{p:Ε × List Tm}(hp:xs[k]?=some p)(rH:k<16)(h:K p.1):dC prog (Instr.index 176 (.agg (xs.map (·.1)).toArray) (Γ (k:Int))) w K:=
 q8 underlying176 (λw=>by kernel_rfl) (λw=>by kernel_rfl) rH (by rw[vvk,hp];rfl) h
def bal{xs:List (Ε × List Tm)}{now:Int}(h:xs.length=16):∀j v,(xs.map (·.1))[j]?=some v->(gr xs now)[0+0+j]?=some v:=λj v e=>by
 unfold gr;rw[zzs (by have:=(zzf.1 e).1;omega),show 0+0+j=j by omega];exact e
def gT(now:Int)(L:List Tm):List Tm:=L.filter λt=>decide (t.when<=now)
def Q5(wp:Nat)(xs:List (Ε × List Tm))(now:Int)(rH:xs.length=16)(hn:(xs.flatMap (·.2)).length<=1000000):SP 242 [Δ wp] (uC wp xs now)
  (λv post=>post=[.pt wp (gr xs now) 178,.ob (ze jt xs),.ob (aY v 353 2 (gT now (xs.flatMap (·.2))).length ((gT now (xs.flatMap (·.2))).map dZ).flatten)]):=by
 refine Enzz λW F w hS=>?_;apply aXj;delta aF bd aW bG ai aZ;refine Gp ?_;refine yl (vs:=xs.map (·.1)) hS Xh (by simp[rH]) (bal rH) ?_;have hf:∀k (h:k<xs.length),(xs.take (k+1)).flatMap (·.2)=(xs.take k).flatMap (·.2)++xs[k].2:=λk h=>by
  rw[zzh h,vvw];simp
 have b5:∀k,((xs.take k).flatMap (·.2)).length<=1000000:=λk=>by
  have:xs=xs.take k++xs.drop k:=by simp
  rw[this,vvw,zza]at hn;omega
 refine⟨λus w=>∃(k:Nat) (v:Ε),us=[v,Γ k]/\k<=16/\SL W (.ob (aY v 353 2 (gT now ((xs.take k).flatMap (·.2))).length ((gT now ((xs.take k).flatMap (·.2))).map dZ).flatten)::.pt wp (gr xs now) 178::.ob (ze jt xs)::F) w,
  λus _=>match us with|[_,.int _ k]=>(16-k).toNat|_=>0,⟨0,_,rfl,by omega,aY.nil hS⟩,?_⟩
 clear hS;rintro v3 v10 w ⟨k,v,hv,hk,hS⟩;cases hv;refine bw (λh=>?_) (λh=>?_)
 ·have x8:k<xs.length:=by omega
  have hp:xs[k]?=some xs[k]:=by simp[x8]
  have h1:=hf k x8;have h2:=b5 (k+1);refine PR hp (by omega) ?_;rw[h1,zza]at h2
  have kV:∀(v:Ε) (w:Ζ),SL W (.ob (aY v 353 2 (gT now ((xs.take (k+1)).flatMap (·.2))).length ((gT now ((xs.take (k+1)).flatMap (·.2))).map dZ).flatten)::.pt wp (gr xs now) 178::.ob (ze jt xs)::F) w ->
    (∃(k':Nat) (v':Ε),([v,Γ (k+1:Nat)]:Ξ)=[v',Γ k']/\k'<=16/\SL W (.ob (aY v' 353 2 (gT now ((xs.take k').flatMap (·.2))).length ((gT now ((xs.take k').flatMap (·.2))).map dZ).flatten)::.pt wp (gr xs now) 178::.ob (ze jt xs)::F) w) /\
    ((16:Int)-((k+1:Nat):Int)).toNat<((16:Int)-(k:Int)).toNat:=λv w hS=>⟨⟨k+1,v,rfl,by omega,hS⟩,by omega⟩
  rw[h1]at kV
  have hT:=λ{A:Β} {w:Ζ} (hS:SL W (.ob (ze jt xs)::A) w)=>ze.take hS hp;generalize xs[k]=p at *
  generalize (xs.take k).flatMap (·.2)=A at *
  have vi:=hT (SL.bA hS (t:=.ob (ze jt xs)::F) Xi);refine zB vi .hd ?_;clear vi;refine⟨λus w=>∃(j:Nat) (v:Ε),us=[v,Γ j]/\j<=p.2.length/\SL W (.ob (aY v 353 2 (gT now (A++p.2.take j)).length ((gT now (A++p.2.take j)).map dZ).flatten)::.pt wp (gr xs now) 178::.ob (ze jt xs)::F) w,
   λus _=>match us with|[_,.int _ j]=>(p.2.length-j).toNat|_=>0,⟨0,_,rfl,by omega,by simpa using hS⟩,?_⟩
  clear hS;rintro v4 v17 w ⟨j,v,hv,hj,hS⟩;cases hv;refine bw (λh=>?_) (λh=>?_)
  ·have l8:j<p.2.length:=by omega
   have vi:=hT (SL.bA hS (t:=.ob (ze jt xs)::F) Xi);refine yK vi .hd nF (x:=p.2[j]) (by simp[l8]) l8 ?_;clear vi;have jx:gT now (A++p.2.take (j+1))=if p.2[j].when<=now then gT now (A++p.2.take j)++[p.2[j]] else gT now (A++p.2.take j):=by
    unfold gT;rw[zzh l8,<- zze,xxp (l₁:=A++p.2.take j)];by_cases hw:p.2[j].when<=now<;>simp[hw]
   have l6:(gT now (A++p.2.take j)).length<=1000000:=by
    refine xx3 (xx8 _ _) ?_;rw[zza,zzn];omega
   generalize p.2[j]=t at jx;refine zD hS ?_;clear hS;intro b w hS;refine zO (vs:=dZ t) hS .hd rfl rfl (uV _) ?_;clear hS;intro w hS;refine Gn λw hS=>?_;refine zT hS Xh (wA rH) ?_;refine bw (λhw=>?_) (λhw=>?_)
   ·refine zH hS .hd rfl ?_;refine zA (cells:=dZ t) hS (by simp[eV,bq,Value.cells,dZ]) ?_;clear hS;intro b2 w hS;rw[zzd hw]at jx
    refine zx (m:=1) hS Xr (fC (cs:=dZ t) hS .hd rfl) rfl rfl (uV _) (by omega) (by omega) ?_;clear hS;intro v' w hS;refine Gp ?_;refine⟨⟨j+1,v',by simp,by omega,?_⟩,by dsimp only;omega⟩;rw[jx,rD,zza,yyg];exact aI hS
   rw[zzb hw]at jx
   refine Gp ?_;refine⟨⟨j+1,v4,by simp,by omega,?_⟩,by dsimp only;omega⟩;rw[jx];exact aI hS
  have Ud:j=p.2.length:=by omega
  subst Ud;rw[zz6]at hS
  refine Gp ?_;exact kV v4 w hS
 have x8:k=16:=by omega
 subst x8;have e:xs.take 16=xs:=by rw[<- rH,zz6]
 rw[e]at hS
 exact⟨_,rfl,aI hS⟩
