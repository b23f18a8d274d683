/- Part. -/
import Derived.Test.YtmkllimamejcgaaGreatJ11
import Derived.Lib.ConvBytes
import Derived.Laws.AppendOwn
namespace Go.Proofs.YtmkllimamejcgaaGreat
set_option linter.all false
open Go.RowKit
section
variable {W w:Ζ} {l:Β} {P:Program}
def Yf{src dst e:Ι}{u:TypeDesc}{bs:Φ}{K:Ε->Ζ->Prop}(hS:SL W l w)(h1:P.underlying src=some u)(h2:P.underlying dst=some (.slice e))(h3:P.underlying e=some (.int .u8))
  (h:∀v w',SL W (.ob (bR v e 1 bs.length (bs.map cX))::l) w'->K v w'):zR P (convert src dst (.string (dY bs))) w K:=by
 refine⟨_,_,Lib.run_convert_string_bytes w src dst e (dY bs) h1 h2 h3,h _ _ ?_⟩;have hg:(dY bs).size<=grownCap w (dY bs).size 0 e:=grownCap_ge _ _ _ _;have e1:(Lib.bytesCells w e (dY bs)).toList=bs.map cX++List.replicate (grownCap w bs.length 0 e-bs.length) (.int .u8 0):=by
  unfold Lib.bytesCells;rw[mV];simp[dY,cX]
 have hn:SL W (.pt w.heap.size (Lib.bytesCells w e (dY bs)).toList e::l) (w.drew.alloc (.cells (Lib.bytesCells w e (dY bs)) e)):=by
  have:=(hS.drew).new (cs:=(Lib.bytesCells w e (dY bs)).toList) (t:=e);simpa using this
 have hm:=hn.mark (n:=(Lib.bytesCells w e (dY bs)).size) .hd (by simp);rw[e1]at hm
 rw[mV]at hg ⊢
 exact bR.mk hg (by simp) (by simp) hm
end
structure rW(H:bw)(vs:List iD)(zs:List cD):Prop where
 len:vs.length=zs.length
 at_:∀j (h:j<vs.length) (h':j<zs.length),ie H vs[j] zs[j]
def rW.mono{H H':bw}(hh:H.le H'){vs:List iD}{zs:List cD}(h:rW H vs zs):rW H' vs zs:=⟨h.len,λj a b=>(h.at_ j a b).mono hh⟩
def rW.snoc{H:bw}{vs:List iD}{zs:List cD}(h:rW H vs zs){x:iD}{z:cD}(hx:ie H x z):rW H (vs++[x]) (zs++[z]):=by
 have hl:=h.len;refine⟨by simp[hl],λj a b=>?_⟩;by_cases hj:j<vs.length
 ·rw[www hj,www (by omega)];exact h.at_ j hj (by omega)
 have e:j=vs.length:=by rw[zza,yya]at a;omega
 subst e;rw[vvd (zzj _),vvd (by omega)];simpa [hl] using hx
set_option maxRecDepth 100000
def iB(x:cD):Η:=dY (gl x)
def WC:∀{l:List cD} {b:Int} {i:Nat} (h:fK b l) (hi:i<l.length),iR b (l.take i)<l[i].aw
 | [],_,_,_,hi=>absurd hi (by simp)
 | x::l,b,0,h,_=>h.1
 | x::l,b,i+1,h,hi=>WC (l:=l) (b:=x.aw) h.2 (by simpa using hi)
structure B4(cO:Nat)(zs:List cD):Prop where
 it:∀x∈zs,vd cO x
 jR:fK 0 zs
 le:zs.length<=64
def B4.at{cO:Nat}{zs:List cD}(h:B4 cO zs)(i:Nat)(hi:i<=zs.length):nA cO (j8 (zs.take i)) i:=by
 have:=Dy (n:=cO) (l:=zs.take i) (λx hx=>h.it x (yyr hx)) (h.jR.take i);rw[zzg,xxu hi]at this
 exact this
def B4.lt{cO:Nat}{zs:List cD}(h:B4 cO zs){i:Nat}(hi:i<zs.length):(j8 (zs.take i)).aw<zs[i].aw:=by
 rw[U8];exact WC h.jR hi
def nC.add{W w:Ζ}{l:Β}{v:Ε}{A B:List gr}(h:SL W (.ob (bR v 390 5 (A.length+B.length) ((A.map jF).flatten++(B.map jF).flatten))::l) w):SL W (nC v (A++B)::l) w:=by
 rw[show nC v (A++B)= .ob (bR v 390 5 (A.length+B.length) ((A.map jF).flatten++(B.map jF).flatten)) by simp[nC]];exact h
def nB.add{W w:Ζ}{l:Β}{v:Ε}{A B:List ix}(h:SL W (.ob (bR v 393 7 (A.length+B.length) ((A.map kO).flatten++(B.map kO).flatten))::l) w):SL W (nB v (A++B)::l) w:=by
 rw[show nB v (A++B)= .ob (bR v 393 7 (A.length+B.length) ((A.map kO).flatten++(B.map kO).flatten)) by simp[nB]];exact h
def cn2(A:List gr):∀v∈(A.map jF).flatten,v.oneCell'=true:=λv hv=>by
 obtain⟨l,hl,h⟩:=wwe.1 hv;obtain⟨o,_,rfl⟩:=zzx.1 hl;exact Cv o v h
def b_2(A:List ix):∀v∈(A.map kO).flatten,v.oneCell'=true:=λv hv=>by
 obtain⟨l,hl,h⟩:=wwe.1 hv;obtain⟨o,_,rfl⟩:=zzx.1 hl;exact HY o v h
def QJ(H:bw)(v:Ε)(vs:List iD)(zs:List cD)(hv:dq H 3 v vs.length (vs.map eP).flatten)(hi:rW H vs zs){cO:Nat}(hj:B4 cO zs)(dQ:zs≠[]):
  SP 300 [v] [.mem H] (λu post=>∃xv H',H.le H'/\u= .tuple #[agg (eP xv),Γ 0]/\ie H' xv (j8 zs)/\post=[.mem H']):=by
 refine Enzz λW F w hS=>?_;apply cI7;delta Ov aI a_ cL Ci ai cQ bI;have hlen:=hi.len;have Is:=hj.le;refine Gb λrb w hS=>?_;refine Gb λob w hS=>?_;refine zo hv ?_;have hS:=bR.nil (t:=390) (sz:=5) hS;have hS:=bR.nil (t:=393) (sz:=7) hS;have hS:SL W (nB Θ (j8 (zs.take 0)).notes::nC Θ (j8 (zs.take 0)).ops::.pt ob [Γ (j8 (zs.take 0)).aw,Θ,Θ] 214::_) _:=hS;refine⟨λus w=>∃(i:Nat) (ov nv:Ε),us=[.bool true,Γ i]/\i<=zs.length/\SL W (nC ov (j8 (zs.take i)).ops::nB nv (j8 (zs.take i)).notes::.pt ob [Γ (j8 (zs.take i)).aw,ov,nv] 214::.pt rb [Γ 0,Θ,Θ] 214::.mem H::F) w,
  λus _=>match us with|[_,.int _ i]=>(zs.length-i).toNat|_=>0,⟨0,Θ,Θ,rfl,zz9 _,aW hS⟩,?_⟩
 clear hS;rintro v5 v10 w ⟨i,ov,nv,cP,cz,hS⟩;cases cP;refine Gp ?_;have i_:=hj.at i cz;refine za (λh=>?_) (λh=>?_)
 ·have tB:i<vs.length:=by omega
  have mH:i<zs.length:=by omega
  have hx:=hi.at_ i tB mH;have hw:=hj.it _ (zzh mH);have de:=hj.lt mH;refine zD hS Xh bFf hv (zzc tB) tB ?_;have ht:=bX9 mH;generalize zs[i]=z at *
  generalize vs[i]=x at *
  have hex:eP x=[Γ z.aw,x.ov,x.nv]:=by unfold eP;rw[hx.aw]
  refine Gb λxb w hS=>?_;refine zr hS Xu rfl rfl (mD hx) λw hS=>?_;refine zA hS Xh rfl ?_;refine Cc (zZ H x z hx) ?_;clear hS;rintro _ post ⟨rfl,rfl⟩ w hS;try simp only[app]at hS
  rw[hw.may];refine Gp ?_;refine zp ?_;rw[hex]at hS
  have hz5:=hw.ops;have UG:=hw.iS;have gS:=i_.len;have IY:=i_.iS;generalize hP:j8 (zs.take i)=P at *
  refine⟨λus w=>us=[.bool true]/\SL W (.pt xb [Γ z.aw,x.ov,x.nv] 214::nC ov P.ops::nB nv P.notes::.pt ob [Γ P.aw,ov,nv] 214::.pt rb [Γ 0,Θ,Θ] 214::.mem H::F) w,?_,?_⟩
  ·refine Gp ?_;rw[zzm de];exact⟨rfl,aW hS⟩
  clear hS;rintro _ w ⟨cP,hS⟩;cases cP;refine Gn λw hS=>?_;refine zI (n:=P.ops.length) (m:=z.ops.length) hS Xr (KE hS Xh hx.ops) (by rw[CH wV]) rfl (cn2 _) (by omega) (by omega) λKd w hS=>?_;have hS:=nC.add hS;have o1:=bR.one hS;refine Gn λw hS=>?_;refine zI (n:=P.notes.length) (m:=z.notes.length) hS Xr (KE hS Xh hx.iS) (by rw[CH wU]) rfl (b_2 _) (by omega) (by omega) λJ4 w hS=>?_;have hS:=nB.add hS;have o2:=bR.one hS;refine Gn λw hS=>?_;refine⟨⟨i+1,Kd,J4,rfl,by omega,?_⟩,by dsimp only;omega⟩;rw[ht];show SL W (nC Kd (P.ops++z.ops)::nB J4 (P.notes++z.notes)::.pt ob [Γ z.aw,Kd,J4] 214::_) w;exact aW hS
 have jO:i=zs.length:=by omega
 subst jO;have vP:0<zs.length:=xx9.2 dQ;rw[zz4]at hS i_
 have gS:=i_.len;have IY:=i_.iS;generalize j8 zs=P at *
 refine zo hv ?_;refine Gp ?_;refine za (λh0=>by omega) (λh0=>?_);refine Gp ?_;refine zu hS (v:=ov) (t:=390) (sz:=5) (n:=P.ops.length) (cells:=(P.ops.map jF).flatten) Xh ?_;refine Gp ?_;refine za (λh0=>by omega) (λh0=>?_);refine Gp ?_;refine zu hS (v:=nv) (t:=393) (sz:=7) (n:=P.notes.length) (cells:=(P.notes.map kO).flatten) Xh ?_;refine Gp ?_;refine za (λh1=>by omega) (λh1=>?_);refine Gp ?_;refine zp ?_;have o1:=bR.one (Has.front (c:=nC ov P.ops) hS Xr);have o2:=bR.one (Has.front (c:=nB nv P.notes) hS Xr);obtain⟨H1,dj,jG,hS⟩:=zz (H:=H) (v:=ov) hS Xp;obtain⟨H2,dU,pQ,hS⟩:=zz (H:=H1) (v:=nv) hS Xp;refine zA hS Xh rfl ?_;refine zr (vs:=[Γ P.aw,ov,nv]) hS Xu rfl rfl (mD (x:=⟨P.aw,ov,nv⟩) (t:=P) ⟨rfl,jG.mono dU,pQ⟩) λw hS=>?_;refine zA hS Xh rfl ?_;exact⟨_,⟨⟨P.aw,ov,nv⟩,H2,bw.le_trans dj dU,rfl,⟨rfl,jG.mono dU,pQ⟩,rfl⟩,aW hS⟩
structure s7 where
 wp:Nat
 kp:Nat
 gp:Nat
 dp:Nat
 lp:Nat
 pp:Nat
 qp:Nat
 qb:Nat
 rp:Nat
abbrev oK(kp qp rp cJ:Nat)(l:Int)(ov nv:Ε)(n:Nat):Ξ:=[iL kp,iL qp,iL rp,Γ cJ,Γ l,ov,nv,Γ n]
def du(p:s7)(c:dM)(H:bw)(s:eX):zB:=jK λh:Ε × Ε=>zG (ie H ⟨s.held.aw,h.1,h.2⟩ s.held)
 [.pt p.wp (oK p.kp p.qp p.rp c.cJ s.held.aw h.1 h.2 s.n) 216,.ob (db p.kp p.gp p.dp p.lp p.pp H s.k),.ob (Gate p.qp p.qb c.cap s.out (s.L.map iB)),kq p.rp c.b c.m c.j s.fL s.eI]
section
variable {W w:Ζ} {l F:Β} {p:s7} {c:dM} {H:bw} {s:eX}
def du.iff:SL W (.ob (du p c H s)::l) w↔∃ov nv,ie H ⟨s.held.aw,ov,nv⟩ s.held/\SL W (.pt p.wp (oK p.kp p.qp p.rp c.cJ s.held.aw ov nv s.n) 216::.ob (db p.kp p.gp p.dp p.lp p.pp H s.k)::.ob (Gate p.qp p.qb c.cap s.out (s.L.map iB))::kq p.rp c.b c.m c.j s.fL s.eI::l) w:=by
 unfold du;simp only[SL.ex,SL.fact,zzv,zzr];exact⟨λ⟨x,h⟩=>⟨x.1,x.2,h⟩,λ⟨a,b,h⟩=>⟨(a,b),h⟩⟩
def du.open(hS:SL W l w)(r:gd (.ob (du p c H s)) l F):∃ov nv,ie H ⟨s.held.aw,ov,nv⟩ s.held/\SL W (.pt p.wp (oK p.kp p.qp p.rp c.cJ s.held.aw ov nv s.n) 216::.ob (db p.kp p.gp p.dp p.lp p.pp H s.k)::.ob (Gate p.qp p.qb c.cap s.out (s.L.map iB))::kq p.rp c.b c.m c.j s.fL s.eI::F) w:=du.iff.1 (hS.perm r.perm)
def du.put(s:eX){ov nv:Ε}(hS:SL W l w)(hi:ie H ⟨s.held.aw,ov,nv⟩ s.held)(k:gC [.pt p.wp (oK p.kp p.qp p.rp c.cJ s.held.aw ov nv s.n) 216,.ob (db p.kp p.gp p.dp p.lp p.pp H s.k),.ob (Gate p.qp p.qb c.cap s.out (s.L.map iB)),kq p.rp c.b c.m c.j s.fL s.eI] l F):SL W (.ob (du p c H s)::F) w:=du.iff.2 ⟨ov,nv,hi,hS.pick k⟩
def du.eS{k:cM}{L:List cD}{out n:Nat}{fL eI:Int}{held:cD}{ov nv:Ε}(hS:SL W l w)(hi:ie H ⟨held.aw,ov,nv⟩ held)(q:gC [.pt p.wp (oK p.kp p.qp p.rp c.cJ held.aw ov nv n) 216,.ob (db p.kp p.gp p.dp p.lp p.pp H k),.ob (Gate p.qp p.qb c.cap out (L.map iB)),kq p.rp c.b c.m c.j fL eI] l F):SL W (.ob (du p c H ⟨k,L,out,fL,eI,held,n⟩)::F) w:=du.iff.2 ⟨ov,nv,hi,hS.pick q⟩
def du.mono{H':bw}(hh:H.le H')(h:SL W (.ob (du p c H s)::l) w):SL W (.ob (du p c H' s)::l) w:=by
 obtain⟨ov,nv,hi,hS⟩:=du.iff.1 h;have hS:=db.je hh hS Xr;exact du.put s hS (hi.mono hh) Xp
def du.je{H':bw}(hh:H.le H')(hS:SL W l w)(r:gd (.ob (du p c H s)) l F):SL W (.ob (du p c H' s)::F) w:=du.mono hh (hS.perm r.perm)
def Gate.cw1{g b cap out:Nat}{L:Ψ}(hS:SL W l w)(hA:L.length+out<=cap/\cap<=64)(k:gC [.pt g [Δ b,Γ out] 125,.ob (Ring b cap L)] l F):SL W (.ob (Gate g b cap out L)::F) w:=Gate.close hA (hS.pick k)
def bI0{g b cap out:Nat}{L:Ψ}(hS:SL W l w)(r:gd (.ob (Gate g b cap out L)) l F):(L.length+out<=cap/\cap<=64)/\SL W (.pt g [Δ b,Γ out] 125::.ob (Ring b cap L)::F) w:=Gate.open (hS.perm r.perm)
end
def cMl(kp qp rp n:Nat)(h1:1<=n)(h2:n<=64):SP 149 [iL kp,iL qp,iL rp,Γ n] [] (λv post=>∃p:Nat,v= .tuple #[iL p,Γ 0]/\post=[.pt p (oK kp qp rp n 0 Θ Θ 0) 216]):=by
 refine Enzz λW F w hS=>?_;apply cFf;delta Md aI ai cT bI;refine Gp ?_;refine za (λh=>by omega) (λ_=>?_);refine Gp ?_;refine za (λh=>by omega) (λ_=>?_);refine Gp ?_;refine⟨_,rfl,zC hS λp w hS=>?_⟩;exact⟨_,⟨p,rfl,rfl⟩,hS⟩
def ZN(p:s7)(c:dM)(H:bw)(s:eX)(now:Int):SP 65 [iL p.wp,Γ now] [.ob (du p c H s)] (cE (.bool (s.ready now)) [.ob (du p c H s)]):=by
 refine Enzz λW F w hS=>?_;apply cLg;delta PH aI bU ai;obtain⟨ov,nv,hi,hS⟩:=du.iff.1 hS;refine Gp ?_;unfold eX.ready;refine za (λh=>?_) (λh=>?_)
 ·rw[zzd (by omega)];refine Gp ?_;refine Cg (qX p.rp c.b c.m c.j s.fL s.eI now) λw hS=>?_;have hS:=du.put s hS hi Xp;(exact cC hS)
 rw[zzb (by omega)];refine Gp ?_;obtain⟨hg,hS⟩:=bI0 hS Xr;refine Gp ?_;refine Cg (yu p.qb c.cap (s.L.map iB)) λw hS=>?_;rw[zzn];have hS:=Gate.cw1 hS hg Xp;have hS:=du.put s hS hi Xp;have e:decide ((0:Int)<(s.L.length:Int))=decide (0<s.L.length):=by rw[yyi];omega
 rw[e];(exact cC hS)
def cCf{x:cD}(h:eC x=true):nH (gl x)= .ok x:=Ry h
def bX5{H:bw}{vs:List iD}{L:List cD}{i:Nat}(h:rW H vs (L.take i))(hi:i<L.length){x:iD}(hx:ie H x L[i]):rW H (vs++[x]) (L.take (i+1)):=by
 rw[zze hi];exact h.snoc hx
def cMi(p:s7)(c:dM)(H:bw)(s:eX){cO f:Nat}(hI:pC c cO s f)(hn:s.n=0)(hL:0<s.L.length):
  SP 237 [iL p.wp] [.ob (du p c H s),.mem H] (λv post=>v= Γ 0/\∃H',H.le H'/\post=[.ob (du p c H' (s.hold c.cJ)),.mem H']):=by
 refine Enzz λW F w hS=>?_;apply cHu;delta NG aI bU cV bV cL ai bI;obtain⟨ov,nv,hi,hS⟩:=du.iff.1 hS;have gF:=hI.vW;have jY:=hI.cJ;have Bd:=hI.room;have o_:=hI.cap;obtain⟨F2,uv⟩:∃F2,F2=kq p.rp c.b c.m c.j s.fL s.eI::F:=⟨_,rfl⟩;have hS:=SL.b_ hS (t:=.pt p.wp (oK p.kp p.qp p.rp c.cJ s.held.aw ov nv s.n) 216::.ob (db p.kp p.gp p.dp p.lp p.pp H s.k)::.ob (Gate p.qp p.qb c.cap s.out (s.L.map iB))::.mem H::kq p.rp c.b c.m c.j s.fL s.eI::F) Xi;rw[<- uv]at hS
 have gG:s.hold c.cJ=⟨s.k,s.L.drop (min c.cJ s.L.length),s.out+min c.cJ s.L.length,s.fL,s.eI,j8 (s.L.take (min c.cJ s.L.length)),min c.cJ s.L.length⟩:=by
  unfold eX.hold;rw[zzd hn];rcases Nat.le_total c.cJ s.L.length with h|h
  ·rw[xxu h]
  rw[Nat.min_eq_right h,yy6 h,zz6 h,yy6 (zzj _),zz6 (zzj _)]
 have hm:∃m,m=min c.cJ s.L.length:=⟨_,rfl⟩;obtain⟨m,hm⟩:=hm;rw[<- hm]at gG
 refine⟨λus w=>∃(lv:Ε) (vs:List iD) (H2:bw),us=[lv]/\H.le H2/\rW H2 vs (s.L.take m)/\SL W (.ob (bR lv 214 3 vs.length (vs.map eP).flatten)::.pt p.wp (oK p.kp p.qp p.rp c.cJ s.held.aw ov nv s.n) 216::.ob (db p.kp p.gp p.dp p.lp p.pp H2 s.k)::.ob (Gate p.qp p.qb c.cap (s.out+m) ((s.L.drop m).map iB))::.mem H2::F2) w,?_,?_⟩
 ·have hS:=bR.nil (t:=214) (sz:=3) hS;have hS:SL W (.ob (bR Θ 214 3 ([]:List iD).length (([]:List iD).map eP).flatten)::.pt p.wp (oK p.kp p.qp p.rp c.cJ s.held.aw ov nv s.n) 216::.ob (db p.kp p.gp p.dp p.lp p.pp H s.k)::.ob (Gate p.qp p.qb c.cap (s.out+0) ((s.L.drop 0).map iB))::.mem H::F2) w:=hS;refine⟨λus w=>∃(i:Nat) (lv:Ε) (vs:List iD) (H2:bw),us=[lv]/\vs.length=i/\i<=c.cJ/\i<=s.L.length/\H.le H2/\rW H2 vs (s.L.take i)/\SL W (.ob (bR lv 214 3 vs.length (vs.map eP).flatten)::.pt p.wp (oK p.kp p.qp p.rp c.cJ s.held.aw ov nv s.n) 216::.ob (db p.kp p.gp p.dp p.lp p.pp H2 s.k)::.ob (Gate p.qp p.qb c.cap (s.out+i) ((s.L.drop i).map iB))::.mem H2::F2) w,
   λus _=>match us with|[.slice _ n _]=>c.cJ-n|_=>0,⟨0,Θ,[],H,rfl,rfl,by omega,by omega,bw.le_refl H,⟨rfl,λj h=>by simp at h⟩,hS⟩,?_⟩
  clear hS;rintro lv w ⟨i,_,vs,H2,cP,Jr,lJ,cz,e_,AV,hS⟩;cases cP;obtain⟨a,cp,rfl,_⟩:=bR.at hS .hd;subst Jr;refine bZ (λh=>?_) (λh=>?_)
  ·refine Gp ?_;by_cases jO:vs.length=s.L.length
   ·have e0:s.L.drop vs.length=[]:=yy6 (by omega);rw[e0,yy7]at hS
    refine Cg (bRb p.qp p.qb c.cap (s.out+vs.length)) λw hS=>?_;refine zq ?_;have nO:m=vs.length:=by omega
    subst nO;have e1:([]:Ψ)=(s.L.drop vs.length).map iB:=by rw[e0];rfl
    rw[e1]at hS
    exact⟨_,vs,H2,rfl,e_,AV,aW hS⟩
   have mH:vs.length<s.L.length:=by omega
   have hw:=hI.it _ (zzh mH);have bR5:=λ{H3:bw} (fE:H2.le H3) {x:iD} (hx:ie H3 x s.L[vs.length])=>bX5 (AV.mono fE) mH hx;rw[yyq mH,zzo]at hS
   generalize s.L[vs.length]=z at *
   refine Cg (bRc p.qp p.qb c.cap (s.out+vs.length) (iB z) ((s.L.drop (vs.length+1)).map iB)) λw hS=>?_;refine zp ?_;refine Yf (bs:=gl z) hS yy5 xxt wwt λbv w hS=>?_;refine Cc (YK (.ob (bR bv 5 1 (gl z).length ((gl z).map cX))) H2 bv (gl z) dS.own) ?_;clear hS;rintro r post hq w hS;unfold wm at hq;rw[cCf hw.may]at hq
   obtain⟨x,H3,fE,rfl,hx,rfl⟩:=hq;try simp only[app]at hS
   have hS:=db.je fE hS Xr;refine Gm λb w hS=>?_;refine zr hS Xu rfl rfl (mD hx) λw hS=>?_;refine Gp ?_;refine za (λh=>absurd rfl h) (λ_=>?_);refine zA hS Xh rfl ?_;refine Gb λyb w hS=>?_;refine zI (n:=vs.length) (m:=1) hS Xr (kf (cs:=eP x) hS Xh rfl) rfl rfl (mD hx) (by omega) (by omega) λlv2 w hS=>?_;rw[<- vt]at hS
   rw[show s.out+vs.length+1=s.out+(vs.length+1) by omega]at hS
   have hS:=hS.p8 (xs:=vs) (x:=x);obtain⟨a2,cp2,rfl,_⟩:=bR.at hS .hd;refine⟨⟨vs.length+1,_,vs++[x],H3,rfl,by simp,by omega,by omega,bw.le_trans e_ fE,bR5 fE hx,aW hS⟩,?_⟩;simp only[zza,yya];omega
  have nO:m=vs.length:=by omega
  subst nO;exact⟨_,vs,H2,rfl,e_,AV,aW hS⟩
 clear hS;rintro lv w ⟨_,vs,H2,cP,e_,AV,hS⟩;cases cP;obtain⟨H3,fE,hR,hS⟩:=zz (H:=H2) (v:=lv) hS Xp;have hS:=db.je fE hS Xr;have dQ:s.L.take m≠[]:=λh=>by
  have:=yyt List.length h;rw[zzg,yym]at this
  omega
 have Jr:vs.length=m:=by have:=AV.len;rw[zzg]at this;omega
 refine Cc (QJ H3 lv vs (s.L.take m) hR (AV.mono fE) (cO:=cO) ⟨λx hx=>hI.it x (yyr hx),hI.jR.take _,by rw[zzg];omega⟩ dQ) ?_;clear hS;rintro _ post ⟨xv,H4,vx,rfl,hx,rfl⟩ w hS;try simp only[app]at hS
 have hS:=db.je vx hS Xr;have j7:=hx.aw;obtain⟨xl,xo,xn⟩:=xv;simp only at j7;subst j7;refine Gm λb w hS=>?_;refine zr hS Xu rfl rfl (mD hx) λw hS=>?_;refine Gp ?_;refine za (λ_=>?_) (λh=>absurd rfl h);refine zA hS Xh rfl ?_;refine zo hR ?_;rw[Jr];refine Gp ?_;refine Ye (o:=4) (vs:=eP ⟨(j8 (s.L.take m)).aw,xo,xn⟩) hS Xu rfl (by show 7<=8;decide) (mD hx) λw hS=>?_;simp only[eP,List.take,List.drop,zzv,zzr]at hS;refine Gn λw hS=>?_;rw[gG];rw[uv]at hS
 have hS:=du.eS (p:=p) (c:=c) (held:=j8 (s.L.take m)) (n:=m) hS hx Xp;exact⟨_,⟨rfl,H4,bw.le_trans e_ (bw.le_trans fE vx),rfl⟩,aW hS⟩
def cMh(kp gp dp lp pp:Nat)(H:bw)(k:cM)(x:iD)(t:cD)(hx:ie H x t)(hi:B3 t)(xB:∀o∈t.ops,lr o.key){N m:Nat}(hk:B5 k N m):
  SP 238 [agg [iL kp],agg (eP x)] [.ob (db kp gp dp lp pp H k),.mem H] (Al kp gp dp lp pp H (k.fx t)):=by
 refine Enzz λW F w hS=>?_;apply cHv;delta NH a_;refine zw hS λab w hS=>?_;refine zw hS λxb w hS=>?_;refine Gp ?_;refine Cc (YW kp gp dp lp pp H k x t hx hi xB hk) ?_;clear hS;rintro v post ⟨rfl,H',hh,rfl⟩ w hS;try simp only[app]at hS
 exact⟨_,⟨rfl,H',hh,rfl⟩,aW hS⟩
def aww(O:bw->eX->Μ)(H:bw)(y:eX × Int × Int)(v:Ε)(post:Β):Prop:=v= .tuple #[Γ y.2.1,Γ y.2.2]/\∃H',H.le H'/\post=[O H' y.1,.mem H']
def pC.iok{c:dM}{cO f:Nat}{s:eX}(h:pC c cO s f)(hn:0<s.n):eC s.held=true/\B3 s.held/\∀o∈s.held.ops,lr o.key:=by
 have h1:=h.room;have h2:=h.out;have h3:=h.cap;rcases h.held with ⟨h4,_⟩|⟨_,h4⟩
 ·omega
 have hm:=(h4.may hn (by omega)).1;exact⟨hm,JQ hm⟩
def bX1{a b c d:Ε}{l:Int}{ov nv e:Ε}:∀j v,([Γ l,ov,nv]:Ξ)[j]?=some v->[a,b,c,d,Γ l,ov,nv,e][4+j]?=some v
 | 0,v,h=>h
 | 1,v,h=>h
 | 2,v,h=>h
 | j+3,v,h=>by simp at h
def cMt(p:s7)(c:dM)(H:bw)(s:eX)(now draw:Int){cO f N m:Nat}(hI:pC c cO s f)(hf:f<=1000000)(hk:B5 s.k N m):
  SP 176 [iL p.wp,Γ now,Γ draw] [.ob (du p c H s),.mem H] (aww (λH s=>.ob (du p c H s)) H (s.step c now draw)):=by
 refine Enzz λW F w hS=>?_;apply cF8;delta MG aI bU cV bV cL ai bI;refine Cc (ZN p c H s now) ?_;clear hS;rintro _ post ⟨rfl,rfl⟩ w hS;try simp only[app]at hS
 unfold eX.step;cases hr:s.ready now with
 | false=>
  rw[zzb (by decide)];refine Gp ?_;refine zq ?_;exact⟨_,⟨rfl,H,bw.le_refl H,rfl⟩,aW hS⟩
 | true=>
 rw[zzd rfl];refine Gp ?_;refine zp ?_;obtain⟨Ix,nf⟩:=hI.hold hr;have nN:(s.hold c.cJ).k=s.k:=by unfold eX.hold;split<;>rfl
 refine⟨λus w=>∃H2,us=[]/\H.le H2/\SL W (.ob (du p c H2 (s.hold c.cJ))::.mem H2::F) w,?_,?_⟩
 ·obtain⟨ov,nv,hi,hS⟩:=du.open hS Xr;refine Gp ?_;have hS:=du.put s hS hi Xp;refine za (λh=>?_) (λh=>?_)
  ·have hL:0<s.L.length:=by
    unfold eX.ready at hr;rw[zzb (by omega),zzw]at hr
    exact hr
   refine Cc (cMi p c H s hI (by omega) hL) ?_;clear hS;rintro _ post ⟨rfl,H2,e_,rfl⟩ w hS;(try simp only[app]at hS);refine Gp ?_
   refine za (λh=>absurd rfl h) (λ_=>?_);exact⟨H2,rfl,e_,aW hS⟩
  have e:s.hold c.cJ=s:=by unfold eX.hold;rw[zzb (by omega)]
  rw[e];exact⟨H,rfl,bw.le_refl H,aW hS⟩
 clear hS;rintro w ⟨H2,-,e_,hS⟩;rw[<- nN]at hk
 clear hI nN hr;generalize s.hold c.cJ=s1 at *
 obtain⟨ov,nv,hi,hS⟩:=du.open hS Xr;obtain⟨hm,IV,xB⟩:=Ix.iok nf;have uA:=Ix.f0;have A0:=Ix.f1;have hg:=S4 s1.n s1.out;refine Gn λw hS=>?_;refine yG (vs:=[iL p.kp]) hS Xh rfl (λj v h=>?_) ?_
 ·match j,h with
  | 0,h=>exact h
  | j+1,h=>simp at h
 refine Gp ?_;refine yG (vs:=[Γ s1.held.aw,ov,nv]) hS Xh rfl bX1 ?_;have hI2:ie H2 ⟨s1.held.aw,ov,nv⟩ s1.held:=hi;refine Cc (cMh p.kp p.gp p.dp p.lp p.pp H2 s1.k ⟨s1.held.aw,ov,nv⟩ s1.held hI2 IV xB hk) ?_;clear hS;rintro _ post ⟨rfl,H3,fE,rfl⟩ w hS;try simp only[app]at hS
 have oX:=bw.le_trans e_ fE;have TO:=hi.mono fE;unfold eX.hand;generalize s1.k.fx s1.held=y at *
 obtain⟨k',e⟩:=y;simp only at hS ⊢;refine bZ (λh0=>?_) (λh0=>?_)
 ·rw[zzd h0];refine Gn λw hS=>?_;refine Cg (Qw s1.n p.qp p.qb c.cap s1.out (s1.L.map iB)) λw hS=>?_;refine Cg (Q6 p.rp c.b c.m c.j s1.fL s1.eI) λw hS=>?_;refine Ye (o:=4) (vs:=[Γ 0,Θ,Θ]) hS Xu rfl (by show 7<=8;decide) (by simp[Value.oneCell']) λw hS=>?_;simp only[List.take,List.drop,zzv,zzr]at hS;refine Gn λw hS=>?_;have hS:SL W (_::_::_::_::.pt p.wp (oK p.kp p.qp p.rp c.cJ nR.aw Θ Θ 0) 216::_) w:=hS;have hS:=du.eS (p:=p) (c:=c) (H:=H3) (L:=s1.L) (held:=nR) (n:=0) (ov:=Θ) (nv:=Θ) hS ⟨rfl,dq.nil _ _,dq.nil _ _⟩ Xp;exact⟨_,⟨rfl,H3,oX,rfl⟩,aW hS⟩
 rw[zzb h0];refine bZ (λh9=>?_) (λh9=>?_)
 ·rw[zzd h9];refine Gp ?_;refine Cg (Q8 p.rp c.b c.m c.j s1.fL s1.eI now draw (by omega)) λw hS=>?_;have hS:=du.eS (p:=p) (c:=c) (H:=H3) (L:=s1.L) (held:=s1.held) hS TO Xp;exact⟨_,⟨rfl,H3,oX,rfl⟩,aW hS⟩
 rw[zzb h9];have hS:=du.eS (p:=p) (c:=c) (H:=H3) (L:=s1.L) (held:=s1.held) hS TO Xp;exact⟨_,⟨rfl,H3,oX,rfl⟩,aW hS⟩
def aRn(s:Η):s=dY s.data.toList:=by cases s;simp[dY]
def aRm(l:Φ):(dY l).data.toList=l:=by simp[dY]
def WU{l:Φ}{k:Nat}{kk:IntKind}{K:Ε->Prop}(hk:k<=l.length)(h:K (.string (dY (l.take k)))):Zq (.string (dY l)) none (some (.int kk (k:Int))) K:=by
 refine⟨dY l,0,k,rfl,⟨kk,rfl⟩,rfl,zz9 _,by rw[mV];exact hk,?_⟩;have:(dY l).extract 0 k=dY (l.take k):=by apply ByteArray.ext;simp[dY,ByteArray.data_extract]
 rw[this];exact h
def WV{l:Φ}{k:Nat}{kk:IntKind}{K:Ε->Prop}(hk:k<=l.length)(h:K (.string (dY (l.drop k)))):Zq (.string (dY l)) (some (.int kk (k:Int))) none K:=by
 refine⟨dY l,k,(dY l).size,rfl,rfl,⟨kk,rfl⟩,by rw[mV];exact hk,zzj _,?_⟩;have:(dY l).extract k (dY l).size=dY (l.drop k):=by
  apply ByteArray.ext;rw[mV];simp[dY,ByteArray.data_extract];rw[zz6 (by rw[zzq];omega)]
 rw[this];exact h
def Gv{P:Program}{w:Ζ}{t:Ι}{l:Φ}{j:Nat}{k:IntKind}{K:Ε->Prop}(ht:P.underlying t=some .string)(hj:j<l.length)(h:K (.int .u8 (l[j]).toNat)):ff P (Instr.index t (.string (dY l)) (.int k (j:Int))) w K:=by
 have e:(dY l)[j]'(by rw[mV];exact hj)=l[j]:=by simp[dY,ByteArray.getElem_eq_getElem_data]
 exact WW ht (by rw[mV];exact hj) (by rw[e];exact h)
def ZY(l p:Φ):SP 314 [.string (dY l),.string (dY p)] [] (cE (.bool (decide (l.take p.length=p))) []):=by
 refine Enzz λW F w hS=>?_;apply cJg;delta OD aI bY;refine Gp ?_;rw[mV,mV];refine za (λh=>?_) (λh=>?_)
 ·refine Gp ?_;rw[mV];refine WU (by omega) ?_;refine Gp ?_;rw[show decide (dY (l.take p.length)=dY p)=decide (l.take p.length=p) by rw[yyi];exact Rx];(exact cC hS)
 rw[zz2 λe=>by
  have:=yyt List.length e;rw[zzg]at this
  omega]
 (exact cC hS)
def ZO(l p:Φ):SP 255 [.string (dY l),.string (dY p)] [] (cE (.tuple #[.string (dY (if l.take p.length=p then l.drop p.length else l)),.bool (decide (l.take p.length=p))]) []):=by
 refine Enzz λW F w hS=>?_;apply cH8;delta NU cL;refine Cg (ZY l p) λw hS=>?_;refine zt (λh=>?_) (λh=>?_)
 ·have h:=yy0 h;rw[zzb h,zz2 h];(exact cC hS)
 have h:=zzp h;rw[zzd h,zzm h];refine Gp ?_;rw[mV];refine WV ?_ ?_
 ·have:=yyt List.length h;rw[zzg]at this
  omega
 (exact cC hS)
def ZV(l p:Φ):SP 187 [.string (dY l),.string (dY p)] [] (cE (.tuple #[.string (dY (if l.take p.length=p then l.drop p.length else l)),.bool (decide (l.take p.length=p))]) []):=by
 refine Enzz λW F w hS=>?_;apply cGj;unfold MR;refine Cg (ZO l p) λw hS=>?_;(exact cC hS)
def bIj(l:Φ)(c:Κ):firstIdx (dY l) c=lq (l.findIdx? λx=>decide (x=c)):=by
 have il:∀i,i<l.length->(dY l)[i]! = l[i]!:=λi hi=>by
  have h2:i<(dY l).size:=by rw[mV];exact hi
  rw[wwu (dY l) i h2,wwu l i hi];simp[dY,ByteArray.getElem_eq_getElem_data]
 unfold firstIdx;rw[mV];cases hf:l.findIdx? (λx=>decide (x=c)) with
 | none=>
  have h1:=xxs.1 hf;have:(List.range l.length).find? (λi=>(dY l)[i]! == c)=none:=by
   rw[List.find?_range_eq_none];intro i hi;rw[il i hi,wwu l i hi];have:=yy0 (h1 _ (zzh hi));simpa using this
  rw[this];rfl
 | some j=>
  obtain⟨hj,hk,ry⟩:=yyn.1 hf;have:(List.range l.length).find? (λi=>(dY l)[i]! == c)=some j:=by
   rw[List.find?_range_eq_some];refine⟨?_,List.mem_range.2 hj,λi hi=>?_⟩
   ·rw[il j hj,wwu l j hj];simpa using hk
   rw[il i (by omega),wwu l i (by omega)];have:=ry i hi;simpa using this
  rw[this];rfl
def Z0(l:Φ)(c:Κ):SP 361 [.string (dY l),.int .u8 c.toNat] [] (cE (Γ (lq (l.findIdx? λx=>decide (x=c)))) []):=by
 refine Enzz λW F w hS=>?_;apply cKe;unfold O7;refine⟨Γ (lq (l.findIdx? λx=>decide (x=c))),w,?_,?_⟩
 ·have:=run_callFunc_extern Tryz.func390 (by kernel_rfl) (by kernel_rfl) (by kernel_rfl) (e:=Extern.BytealgIndexByte.indexByte) (by kernel_rfl) #[.string (dY l),.int .u8 c.toNat] w;rw[this,run_indexByte_string,bIj,show ((c.toNat:Int).toNat.toUInt8)=c by simp];rfl
 (exact cC hS)
def qy(l:Φ)(c:Κ):SP 315 [.string (dY l),.string (dY [c])] [] (cE (Γ (lq (l.findIdx? λx=>decide (x=c)))) []):=by
 refine Enzz λW F w hS=>?_;apply cJh;delta OE aI ai;refine Gp ?_;refine⟨λ_ _=>False,?_,λw h=>h.elim⟩;rw[mV];refine Gp ?_;refine za (λh=>absurd h (by simp)) (λ_=>?_);refine bZ (λh=>?_) (λ_=>?_)
 ·have h:=Rx.1 h;rw[<- h];exact⟨_,⟨by simp[lq],rfl⟩,hS⟩
 refine Gp ?_;refine za (λ_=>?_) (λh=>absurd (by simp) h);refine Gv (j:=0) yy5 (by simp) ?_;refine Cg (Z0 l c) λw hS=>?_;(exact cC hS)
def l7(l:Φ)(c:Κ):Φ × Φ × Bool:=match l.findIdx? (λx=>decide (x=c)) with
 | none=>(l,[],false)
 | some i=>(l.take i,l.drop (i+1),true)
def a_k(l:Φ)(c:Κ)(hl:l.length<=4611686018427387904):SP 256 [.string (dY l),.string (dY [c])] [] (cE (.tuple #[.string (dY (l7 l c).1),.string (dY (l7 l c).2.1),.bool (l7 l c).2.2]) []):=by
 refine Enzz λW F w hS=>?_;apply cH9;delta NV aI ai;refine Cg (qy l c) λw hS=>?_;unfold l7;cases hf:l.findIdx? (λx=>decide (x=c)) with
 | none=>
  simp only[lq];refine za (λh=>absurd h (by decide)) (λ_=>?_);exact⟨_,⟨rfl,rfl⟩,hS⟩
 | some i=>
  have hi:=(yyn.1 hf).1;simp only[lq];refine za (λ_=>?_) (λh=>by omega);refine Gn λw hS=>?_;refine WU (by omega) ?_;refine Gp ?_;rw[mV];have e:([c]:Φ).length=1:=rfl;rw[e];refine Gp ?_;refine WV (by omega) ?_;exact⟨_,⟨rfl,rfl⟩,hS⟩
def a_j(l:Φ)(c:Κ)(hl:l.length<=4611686018427387904):SP 188 [.string (dY l),.string (dY [c])] [] (cE (.tuple #[.string (dY (l7 l c).1),.string (dY (l7 l c).2.1),.bool (l7 l c).2.2]) []):=by
 refine Enzz λW F w hS=>?_;apply cGk;unfold MT;refine Cg (a_k l c hl) λw hS=>?_;(exact cC hS)
def nI(l:Φ)(a b:Nat):Int:=match l with
 | [d]=>if a<=d.toNat/\d.toNat<=b then (d.toNat:Int)-48 else -1
 | _=>-1
def cCi:∀n:Fin 256,48<=n.1->IntKind.i64.wrap (IntKind.u8.wrap ((n.1:Int)-48))=(n.1:Int)-48:=by decide
def cA7{d:Κ}{K:Ε->Prop}(hd:48<=d.toNat)(h:K (Γ ((d.toNat:Int)-48))):zc .sub (.int .u8 d.toNat) (.int .u8 48) λv=>zK .i64 v K:=by
 refine⟨_,rfl,_,_,rfl,?_⟩;rw[cCi ⟨d.toNat,d.toNat_lt⟩ hd];exact h
def ZW(l:Φ)(a b:Nat)(ha:48<=a):SP 189 [.string (dY l),.int .u8 a,.int .u8 b] [] (cE (Γ (nI l a b)) []):=by
 refine Enzz λW F w hS=>?_;apply cGl;delta MU aI ai;refine Gp ?_;rw[mV];refine za (λh=>?_) (λh=>?_)
 ·have e:nI l a b = -1:=by
   unfold nI;split
   ·simp at h
   rfl
  rw[e];(exact cC hS)
 obtain⟨d,rfl⟩:∃d,l=[d]:=List.length_eq_one_iff.1 (by omega);refine Gv (j:=0) yy5 (by simp) ?_;show zc .lss (.int .u8 d.toNat) (.int .u8 a) _;refine bZ (λh1=>?_) (λh1=>?_)
 ·rw[show nI [d] a b = -1 from zzb (by omega)];(exact cC hS)
 refine Gv (j:=0) yy5 (by simp) ?_;show zc .gtr (.int .u8 d.toNat) (.int .u8 b) _;refine bZ (λh2=>?_) (λh2=>?_)
 ·rw[show nI [d] a b = -1 from zzb (by omega)];(exact cC hS)
 refine Gv (j:=0) yy5 (by simp) ?_;refine cA7 (d:=d) (by omega) ?_;rw[show nI [d] a b=(d.toNat:Int)-48 from zzd (by omega)];(exact cC hS)
def Sh{l:Φ}{a b:Nat}(h:l.length≠1):nI l a b = -1:=by
 unfold nI;split
 ·simp at h
 rfl
def HU{d:Κ}{a b:Nat}(h:48<=a):nI [d] a b<0↔¬(a<=d.toNat/\d.toNat<=b):=by
 show (if a<=d.toNat/\d.toNat<=b then (d.toNat:Int)-48 else -1)<0↔_;split<;>omega
def BD(r:Φ):Option (Int × Int):=
 let c:=l7 r 32
 if nI c.1 48 55<0\/(if c.2.2=true then nI c.2.1 49 56 else 1)<0 then none else some (nI c.1 48 55,if c.2.2=true then nI c.2.1 49 56 else 1)
def EK{d:Κ}{a b:Nat}(h:a<=d.toNat/\d.toNat<=b):nI [d] a b=(d.toNat:Int)-48:=zzd h
def XK{d:Κ}:d.toNat=32↔d=32:=⟨λh=>UInt8.toNat_inj.1 h,λh=>by rw[h];rfl⟩
def DM{r:Φ}(h:(l7 r 32).1.length≠1\/((l7 r 32).2.2=true/\(l7 r 32).2.1.length≠1)):BD r=none:=by
 unfold BD;simp only;rw[zzd];rcases h with h|⟨h,h2⟩
 ·left;rw[Sh h];decide
 right;rw[zzd h,Sh h2];decide
def ta(d:Κ)(r:Φ):l7 (d::r) 32=if d=32 then ([],r,true) else (d::(l7 r 32).1,(l7 r 32).2.1,(l7 r 32).2.2):=by
 unfold l7;rw[List.findIdx?_cons];by_cases hd:d=32
 ·simp[hd]
 rw[zzb (by simpa using hd),zzb hd];cases r.findIdx? (λx=>decide (x=32))<;>simp
def cwe(r:Φ):wa r=BD r:=by
 match r with
 | []=>rw[DM (.inl (by decide))];rfl
 | [d]=>
  by_cases hd:d=32
  ·subst hd;decide
  have hc:l7 [d] 32=([d],[],false):=by rw[ta,zzb hd];rfl
  unfold BD wa;rw[hc];simp only;have:=HU (d:=d) (a:=48) (b:=55) (by decide);by_cases h:48<=d.toNat/\d.toNat<=55
  ·rw[zzd h,zzb (λx=>x.elim (λh2=>by rw[EK h]at h2;omega) (λh2=>absurd h2 (by decide))),EK h];rfl
  rw[zzb h,zzd (.inl (this.2 h))]
 | [d,s]=>
  have e:wa [d,s]=none:=rfl;rw[e,DM];rw[ta];by_cases hd:d=32
  ·rw[zzd hd];left;simp
  rw[zzb hd,ta];by_cases hs:s=32
  ·rw[zzd hs];right;exact⟨rfl,by simp⟩
  rw[zzb hs];left;simp
 | [d,s,e]=>
  by_cases hd:d=32
  ·have e1:wa [d,s,e]=none:=zzb (by rw[hd];simp);rw[e1,DM];rw[ta,zzd hd];left;simp
  by_cases hs:s=32
  ·have hc:l7 [d,s,e] 32=([d],[e],true):=by rw[ta,zzb hd,ta,zzd hs]
   unfold BD wa;rw[hc];simp only[wwj];have h1:=HU (d:=d) (a:=48) (b:=55) (by decide);have h2:=HU (d:=e) (a:=49) (b:=56) (by decide);by_cases h:(48<=d.toNat/\d.toNat<=55)/\49<=e.toNat/\e.toNat<=56
   ·rw[zzd ⟨h.1,XK.2 hs,h.2⟩,zzb (by omega),EK h.1,EK h.2]
   rw[zzb (λx=>h ⟨x.1,x.2.2⟩),zzd (by omega)]
  have e1:wa [d,s,e]=none:=zzb (λx=>hs (XK.1 x.2.1));rw[e1,DM];rw[ta,zzb hd,ta,zzb hs];left;simp
 | d::s::e::f::t=>
  have e1:wa (d::s::e::f::t)=none:=rfl;rw[e1,DM];rw[ta];by_cases hd:d=32
  ·rw[zzd hd];left;simp
  rw[zzb hd,ta];by_cases hs:s=32
  ·rw[zzd hs];right;exact⟨rfl,by simp⟩
  rw[zzb hs];left;simp
def GC(o:Option (Int × Int)):Ε:=.tuple #[agg [Γ (o.getD (0,0)).1,Γ (o.getD (0,0)).2],.bool o.isSome]
def Z3(s:Η)(hs:s.size<=4611686018427387904):SP 124 [.string s] [] (cE (GC (z_ s)) []):=by
 refine Enzz λW F w hS=>?_;apply cEz;delta LS aI a_ cL Ej ai;rw[aRn s]at hs ⊢
 generalize hl:s.data.toList=l at *
 rw[mV]at hs
 unfold z_;rw[aRm];refine Gb λrb w hS=>?_;refine Cg (ZV l u0) λw hS=>?_;by_cases hp:l.take u0.length=u0
 ·rw[zzd hp,zzm hp,show l.take 9=u0 from hp,zzd rfl];refine zp ?_;refine Cg (a_j (l.drop u0.length) 32 (by rw[zzq];omega)) λw hS=>?_;rw[cwe,show l.drop 9=l.drop u0.length from rfl];generalize l.drop u0.length=r at *
  unfold BD;generalize l7 r 32=c at *
  obtain⟨A,B,q⟩:=c;simp only at hS ⊢;refine Cc (ZW A 48 55 (by decide)) ?_;clear hS;rintro _ post ⟨rfl,rfl⟩ w hS;try simp only[app]at hS
  refine Gm λnb w hS=>?_;refine⟨λus w=>us=[]/\SL W (.pt nb [Γ (nI A 48 55),Γ (if q=true then nI B 49 56 else 1)] 227::.pt rb [Γ 0,Γ 0] 227::F) w,?_,?_⟩
  ·refine yT (λhq=>?_) (λhq=>?_)
   ·rw[zzd hq];refine Cg (ZW B 49 56 (by decide)) λw hS=>?_;(first|exact aW hS|exact⟨rfl,aW hS⟩)
   rw[zzb (by simp[hq])];exact⟨rfl,aW hS⟩
  clear hS;rintro w ⟨-,hS⟩;refine bZ (λh=>?_) (λh=>?_)
  ·rw[zzd (.inl h)];refine Gn λw hS=>?_;exact cC hS
  refine bZ (λh2=>?_) (λh2=>?_)
  ·rw[zzd (.inr h2)];refine Gn λw hS=>?_;exact cC hS
  rw[zzb (by omega)];refine Gn λw hS=>?_;exact cC hS
 rw[zz2 hp,zzb (show ¬l.take 9=u0 from hp)];refine zq ?_;refine Gn λw hS=>?_;exact cC hS
def bXn{P:Program}{T:List Bool}{f g:FuncId}{sz:Nat}{α:Type}{enc:α->Ξ}(hn:∀x,(enc x).length=sz)(hT:T.getD g false=true){cap:Array Ε}{c:Μ}{q:α->Bool}{H:bw}
  (vc:∀v0 v1 w R,Eg P T sz v0 v1 w R->zQ P f [v0,v1] w R) (one:∀x,Spec P g ([agg (enc x)]++cap.toList) [c] (cE (.bool (q x)) [c]))
  (v:Ε) (xs:List α) (hv:dq H sz v xs.length (xs.map enc).flatten) (hl:xs.length<=9223372036854775806) :
  Spec P f [v,.func (.func g) #[] cap] [c,.mem H] (cE (Γ (lq (xs.findIdx? q))) [c,.mem H]):=by
 intro W F w hS;apply vc;unfold Eg;have hS:SL W (c::.mem H::F) w:=hS;refine zo hv ?_;refine⟨λvs w=>∃k:Nat,vs=[Γ k]/\k<=xs.length/\(∀j (h:j<xs.length),j<k->q xs[j]=false)/\SL W (c::.mem H::F) w,λvs _=>match vs with|[.int _ k]=>(xs.length-k).toNat|_=>0,⟨0,rfl,by omega,λj h hj=>by omega,hS⟩,?_⟩;clear hS;rintro v8 w ⟨k,hv,hk,hq,hS⟩;cases hv;refine bZ (λh=>?_) (λh=>?_)
 ·have mf:k<xs.length:=by omega
  refine zD hS Xh hn ‹_› (x:=xs[k]) (by simp[mf]) mf ?_;refine yg (args':=[agg (enc xs[k])]++cap.toList) hT (one xs[k]) (by simp) hS Xp ?_;clear hS;rintro _ post ⟨rfl,rfl⟩ w hS;try simp only[app]at hS
  cases Dh:q xs[k] with
  | true=>
   refine zq ?_;have e:xs.findIdx? q=some k:=yyn.2 ⟨mf,Dh,λj hj=>by rw[hq j (by omega) hj];decide⟩;rw[e];exact⟨_,⟨rfl,rfl⟩,hS⟩
  | false=>
   refine zp ?_;refine Gp ?_;refine⟨⟨k+1,rfl,by omega,λj h hj=>?_,hS⟩,by dsimp only;omega⟩;rcases xx4 j k with C6|C6
   ·exact hq j h C6
   obtain rfl:j=k:=by omega
   exact Dh
 have e:xs.findIdx? q=none:=xxs.2 λx hx=>by
  obtain⟨j,hj,rfl⟩:=xxa.1 hx;exact hq j hj (by omega)
 rw[e];exact⟨_,⟨rfl,rfl⟩,hS⟩
structure dD.Ok(m:dD):Prop where
 reqs:gk m.reqs
 t1:1<=m.tables/\m.tables<=8
 rows:m.cB.rows.length<=1000
 l4:0<=m.at_/\m.at_<=1099511627776
abbrev x9(m:dD)(wp:Nat)(rv:Ε):Ξ:=[cG wp,Γ m.tables,Γ m.late,Γ m.at_,rv]
def cW(mp wp:Nat)(H:bw)(m:dD):zB:=jK λrv:Ε=>zG (ji H rv m.reqs) [.pt mp (x9 m wp rv) 121,.ob (dH wp m.cB)]
section
variable {W w:Ζ} {l F:Β} {mp wp:Nat} {H H':bw}
def cW.iff{m:dD}:SL W (.ob (cW mp wp H m)::l) w↔∃rv,ji H rv m.reqs/\SL W (.pt mp (x9 m wp rv) 121::.ob (dH wp m.cB)::l) w:=by
 unfold cW;simp only[SL.ex,SL.fact,zzv,zzr]
def cW.put(m:dD)(rv:Ε)(hr:ji H rv m.reqs)(hS:SL W l w)(p:gC [.pt mp (x9 m wp rv) 121,.ob (dH wp m.cB)] l F):SL W (.ob (cW mp wp H m)::F) w:=cW.iff.2 ⟨rv,hr,hS.pick p⟩
def cW.je{m:dD}(hh:H.le H')(hS:SL W l w)(r:gd (.ob (cW mp wp H m)) l F):SL W (.ob (cW mp wp H' m)::F) w:=by
 obtain⟨rv,h1,h2⟩:=cW.iff.1 (hS.perm r.perm);exact cW.iff.2 ⟨rv,h1.mono hh,h2⟩
end
def Yp(H:bw)(v:Ε)(L:List Rq)(tables aw:Int)(hv:ji H v L)(hn:L.length<=1000):
  SP 205 [v,Γ tables,Γ aw] [.mem H] (λu post=>∃q:Bool,u= .bool q/\(q=true↔gk L/\∀r∈L,r.table<tables/\r.at_<=aw)/\post=[.mem H]):=by
 refine Enzz λW F w hS=>?_;apply cGy;delta M8 aI a_ bY ai;refine zo hv ?_;refine⟨λus w=>∃i:Nat,us=[Γ i]/\i<=L.length/\(∀j (h:j<L.length),j<i->L[j].table<tables/\L[j].at_<=aw)/\SL W (.mem H::F) w,λus _=>match us with|[.int _ i]=>(L.length-i).toNat|_=>0,⟨0,rfl,by omega,λj h hj=>by omega,hS⟩,?_⟩;clear hS;rintro v11 w ⟨i,cP,hi,eF,hS⟩;cases cP;refine bZ (λh=>?_) (λh=>?_)
 ·have cz:i<L.length:=by omega
  have hx:L[i]?=some L[i]:=zzc cz;have hm:=zzh cz;refine zD hS Xh nK hv hx cz ?_;have pf:L[i].table<tables/\L[i].at_<=aw->∀j (h:j<L.length),j<i+1->L[j].table<tables/\L[j].at_<=aw:=λh j hj i_=>by
   rcases xx4 j i with h2|h2
   ·exact eF j hj h2
   obtain rfl:j=i:=by omega
   exact h
  generalize L[i]=r at *
  refine Gb λxb w hS=>?_;refine za (λh2=>⟨_,⟨false,rfl,⟨(λe=>by cases e),λx=>by have:=(x.2 r hm).1;omega⟩,rfl⟩,aW hS⟩) (λh2=>?_);refine Gp ?_;refine za (λh3=>⟨_,⟨false,rfl,⟨(λe=>by cases e),λx=>by have:=(x.2 r hm).2;omega⟩,rfl⟩,aW hS⟩) (λh3=>?_);refine Gp ?_;exact⟨⟨i+1,rfl,by omega,pf ⟨by omega,by omega⟩,aW hS⟩,by dsimp only;omega⟩
 refine Cc (Zj H v L hv (by omega)) ?_;clear hS;rintro _ post ⟨q,rfl,hq,rfl⟩ w hS;try simp only[app]at hS
 refine⟨_,⟨q,rfl,hq.trans ⟨λx=>⟨x,λr hr=>?_⟩,λx=>x.1⟩,rfl⟩,hS⟩;obtain⟨j,hj,rfl⟩:=yyl hr;exact eF j hj (by omega)
def Ll(H:bw)(tables late chunk aw:Int)(L:List Rq)(v:Ε)(post:Β):Prop:=
 (DF tables late chunk aw L/\(∃e:Int,e≠0/\v= .tuple #[.pointer none,Γ e])/\post=[.mem H]) \/
 (¬DF tables late chunk aw L/\∃(mp wp:Nat) (H':bw),H.le H'/\v= .tuple #[cG mp,Γ 0]/\post=[.ob (cW mp wp H' ⟨tables,late,aw,L,mR chunk⟩),.mem H'])
def b_d(H:bw)(tables late chunk aw:Int)(v:Ε)(L:List Rq)(hv:ji H v L)(hn:L.length<=1000):
  SP 148 [Γ tables,Γ late,Γ chunk,Γ aw,v] [.mem H] (Ll H tables late chunk aw L):=by
 refine Enzz λW F w hS=>?_;apply cFe;delta Mc aI cL ai cT bI;have fF:∀{e:Int} {w:Ζ},e≠0->DF tables late chunk aw L->SL W (.mem H::F) w->∃post,Ll H tables late chunk aw L (.tuple #[.pointer none,Γ e]) post/\SL W (app post F) w:=λhe h hS=>⟨_,.inl ⟨h,⟨_,he,rfl⟩,rfl⟩,hS⟩;refine Gp ?_;refine za (λh=>fF (by decide) (.inl h) hS) (λh1=>?_);refine Gp ?_;refine za (λh=>fF (by decide) (.inr (.inl h)) hS) (λh2=>?_);refine Gp ?_;refine za (λh=>fF (by decide) (.inr (.inr (.inl h))) hS) (λh3=>?_);obtain⟨n,rfl⟩:∃n:Nat,tables=n:=⟨tables.toNat,by omega⟩;have cOx:(2:Int) ^ n<=256:=by
  have:n<=8:=by omega
  match n,this with
  | 0,_=>decide
  | 1,_=>decide
  | 2,_=>decide
  | 3,_=>decide
  | 4,_=>decide
  | 5,_=>decide
  | 6,_=>decide
  | 7,_=>decide
  | 8,_=>decide
 have vP:(0:Int)<2 ^ n:=Int.pow_pos (by decide);refine QX (by omega) (by omega) ?_;rw[Int.one_mul];refine Gp ?_;refine za (λh=>fF (by decide) (.inr (.inr (.inr (.inl (by rw[zzy];exact h))))) hS) (λh4=>?_);refine Gp ?_;refine za (λh=>fF (by decide) (.inr (.inr (.inr (.inr (.inl h))))) hS) (λh5=>?_);refine Gp ?_;refine za (λh=>fF (by decide) (.inr (.inr (.inr (.inr (.inr (.inl h)))))) hS) (λh6=>?_);refine Cc (Yp H v L n aw hv hn) ?_;clear hS;rintro _ post ⟨q,rfl,hq,rfl⟩ w hS;(try simp only[app]at hS);refine Gp ?_
 refine zt (λhe=>?_) (λhe=>?_)
 ·refine fF (by decide) (.inr (.inr (.inr (.inr (.inr (.inr (.inr (.inr ?_)))))))) hS;by_cases hm:gk L
  ·right;refine Classical.byContradiction λhx=>?_;have:q=true:=hq.2 ⟨hm,λr hr=>by
    refine⟨Int.not_le.1 λh=>hx ⟨r,hr,.inl h⟩,Int.not_lt.1 λh=>hx ⟨r,hr,.inr h⟩⟩⟩
   rw[he]at this;cases this
  exact .inl hm
 obtain⟨hm,eF⟩:=hq.1 he;refine Cc (cMm chunk) ?_;clear hS;rintro r post ja w hS;rcases ja with ⟨h7,rfl,rfl⟩|⟨h7,wp,rfl,rfl⟩
 ·(try simp only[app]at hS);refine Gp ?_
  refine za (λ_=>?_) (λh=>absurd (by decide) h);exact fF (by decide) (.inr (.inr (.inr (.inr (.inr (.inr (by omega))))))) hS
 (try simp only[app]at hS);refine Gp ?_
 refine za (λh=>absurd rfl h) (λ_=>?_);refine yW (cells:=[cG wp]) (by simp[iz,Value.cells,cG]) ?_;refine Cc (z8 H v L hv hn) ?_;clear hS;rintro u post rfl w hS;try simp only[app]at hS
 obtain⟨H1,dj,hR,hS⟩:=zz (H:=H) (v:=u) hS Xp;have hu:u.oneCell'=true:=hR.one;refine yW (cells:=[cG wp,Γ n,Γ late,Γ aw,u]) (by simp[iz,show ∀n,(Γ n).cells = #[Γ n] from λ_=>rfl,show ∀v,(Value.agg #[v]).cells = #[v] from λ_=>rfl,By hu]) ?_;refine⟨_,rfl,zC hS λmp w hS=>?_⟩;have cH:¬DF n late chunk aw L:=by
  rintro (h|h|h|h|h|h|h|h|h|⟨r,hr,h⟩)
  ·exact h1 h
  ·exact h2 h
  ·exact h3 h
  ·rw[zzy]at h;exact h4 h
  ·exact h5 h
  ·exact h6 h
  ·omega
  ·omega
  ·exact h hm
  have:=eF r hr;omega
 have hS:=cW.put (wp:=wp) ⟨n,late,aw,L,mR chunk⟩ u hR hS Xp;exact⟨_,.inr ⟨cH,mp,wp,H1,dj,rfl,rfl⟩,aW hS⟩
section
variable (mp wp:Nat) (H:bw) (m:dD)
def yv:SP 51 [cG mp] [.ob (cW mp wp H m)] (cE (Γ m.at_) [.ob (cW mp wp H m)]):=by
 refine Enzz λW F w hS=>?_;apply cK4;delta Pu bU;obtain⟨rv,hr,hS⟩:=cW.iff.1 hS;refine Gp ?_;exact⟨_,⟨rfl,rfl⟩,SL.b_ (cW.put m rv hr hS Xp) Xi⟩
def yw(hn:m.reqs.length<=1000):SP 75 [cG mp] [.ob (cW mp wp H m),.mem H] (λu post=>post=[.ob (bR u 98 7 m.reqs.length (m.reqs.map iI).flatten),.ob (cW mp wp H m),.mem H]):=by
 refine Enzz λW F w hS=>?_;apply cLp;delta PR bU;obtain⟨rv,hr,hS⟩:=cW.iff.1 hS;refine Gp ?_;refine Cc (z8 H rv m.reqs hr hn) ?_;clear hS;rintro u post rfl w hS;try simp only[app]at hS
 exact⟨_,rfl,SL.b_ (cW.put m rv hr hS Xp) Xi⟩
def YH:SP 46 [agg [cG wp]] [] (cE (cG wp) []):=by
 refine Enzz λW F w hS=>?_;apply cKz;delta Pp a_;refine zw hS λxb w hS=>?_;refine Gp ?_;exact cC hS
def ZG(k:dG)(x:mU):SP 63 [agg [cG wp],agg (fr x)] [.ob (dH wp k)] (cE (.bool (k.waits x.kind x.mark)) [.ob (dH wp k)]):=by
 refine Enzz λW F w hS=>?_;apply cLe;delta PE a_;refine zw hS λxb w hS=>?_;refine zw hS λyb w hS=>?_;refine Gp ?_;refine Cg (q6 wp k x) λw hS=>?_;exact cC hS
def aR6(b:Nat)(t:Int)(r:Rq):SP 337 ([agg (iI r)]++(#[cG b]:Array Ε).toList) [.pt b [Γ t] 3] (cE (.bool (decide (r.table=t))) [.pt b [Γ t] 3]):=by
 refine Enzz λW F w hS=>?_;apply cJz;delta OU a_;refine zw hS λxb w hS=>?_;unfold iI at hS;refine Gp ?_;exact cC hS
def aIa{α:Type}{l:List α}{q:α->Bool}:decide (0<=lq (l.findIdx? q))=l.any q:=by
 cases h:l.findIdx? q with
 | none=>
  have:=xxs.1 h;rw[show l.any q=false by rw[List.any_eq_false];exact λx hx=>by rw[this x hx];decide];rfl
 | some i=>
  obtain⟨hi,hk,_⟩:=yyn.1 h;rw[show l.any q=true from List.any_eq_true.2 ⟨_,zzh hi,hk⟩];exact zzm (by simp only[lq];omega)
def Ym(hn:m.reqs.length<=1000)(t:Int):SP 292 [cG mp,Γ t] [.ob (cW mp wp H m),.mem H] (cE (.bool (m.captured t)) [.ob (cW mp wp H m),.mem H]):=by
 refine Enzz λW F w hS=>?_;apply cIz;delta Oj aI bU bY ai;obtain⟨rv,hr,hS⟩:=cW.iff.1 hS;unfold dD.captured;refine⟨rfl,zC hS λb w hS=>?_⟩;refine Gn λw hS=>?_;refine za (λh=>?_) (λh1=>?_)
 ·rw[zz2 (by omega),uu4];exact⟨_,⟨rfl,rfl⟩,SL.b_ (cW.put m rv hr hS Xp) Xi⟩
 refine bZ (λh=>?_) (λh2=>?_)
 ·rw[zz2 (by omega),uu4];exact⟨_,⟨rfl,rfl⟩,SL.b_ (cW.put m rv hr hS Xp) Xi⟩
 rw[zzm (show 0<=t/\t<m.tables by omega),vv9];refine Gn λw hS=>?_;refine czw (by omega) ?_;refine bZ (λh=>?_) (λh3=>?_)
 ·rw[zzm h,Bool.true_or];exact⟨_,⟨rfl,rfl⟩,SL.b_ (cW.put m rv hr hS Xp) Xi⟩
 rw[zz2 h3,Bool.false_or];refine Gp ?_;have hC:SP 336 [rv,.func (.func 337) #[] #[cG b]] [.pt b [Γ t] 3,.mem H] (cE (.bool (m.reqs.any λr=>decide (r.table=t))) [.pt b [Γ t] 3,.mem H]):=by
  refine Enzz λW F w hS=>?_;apply cJy;delta OT ai;refine Cg (bXn nK rfl (λv0 v1 w R h=>cKi v0 v1 w R h) (λr=>aR6 b t r) rv m.reqs hr (by omega)) λw hS=>?_;rw[aIa];exact⟨_,⟨rfl,rfl⟩,hS⟩
 refine Cg (hC) λw hS=>?_;exact⟨_,⟨rfl,rfl⟩,SL.b_ (cW.put m rv hr hS Xp) Xi⟩
end
abbrev s3(v:Ε)(l:List ix):Μ:=.ob (bR v 393 7 l.length (l.map kO).flatten)
abbrev GX(v:Ε)(l:List gr):Μ:=.ob (bR v 390 5 l.length (l.map jF).flatten)
def YX(mp wp:Nat)(H:bw)(m:dD)(hm:m.Ok)(s:Η)(hs:s.size<=1000)(aw:Int):
  SP 291 [cG mp,.string s,Γ aw] [.ob (cW mp wp H m),.mem H] (λv post=>∃H',H.le H'/\post=[s3 v (m.accept s aw).2,.ob (cW mp wp H' {m with reqs:=(m.accept s aw).1}),.mem H']):=by
 refine Enzz λW F w hS=>?_;apply cIy;delta Oi aI bU a_ cV cL ai bI;have Dj:=hm.reqs.1;have fu:∀{w:Ζ},m.accept s aw=(m.reqs,[])->SL W (.ob (cW mp wp H m)::.mem H::F) w->∃post,(∃H',H.le H'/\post=[s3 Θ (m.accept s aw).2,.ob (cW mp wp H' {m with reqs:=(m.accept s aw).1}),.mem H'])/\SL W (app post F) w:=λe hS=>by
  rw[e];have hS:SL W (s3 Θ []::.ob (cW mp wp H m)::.mem H::F) _:=bR.nil hS;exact⟨_,⟨H,bw.le_refl H,rfl⟩,hS⟩
 refine Cc (Z3 s (by omega)) ?_;clear hS;rintro _ post ⟨rfl,rfl⟩ w hS;try simp only[app]at hS
 unfold GC;cases hp:z_ s with
 | none=>
  simp only[ww8,uu6];refine Gm λb w hS=>?_;refine zq ?_;exact fu (by unfold dD.accept;rw[hp]) (aW hS)
 | some g=>
  obtain⟨t,wt⟩:=g;simp only[xxi,uu7];refine Gm λb w hS=>?_;refine zp ?_;obtain⟨rv,hr,hS⟩:=cW.iff.1 (SL.b_ hS (t:=.ob (cW mp wp H m)::.pt b [Γ t,Γ wt] 227::.mem H::F) Xi);refine bZ (λh=>?_) (λh1=>?_)
  ·exact fu (by unfold dD.accept;rw[hp];simp only;rw[zzd h]) (SL.b_ (cW.put m rv hr hS Xp) Xi)
  refine Gn λw hS=>?_;have Fb:m.accept s aw=match pD m.reqs t wt aw with
   | none=>(m.reqs,[])
   | some L=>(L,[⟨1,L.length,t,wt,aw,0,false⟩]):=by
   unfold dD.accept;rw[hp];simp only;rw[zzb h1];rfl
  refine Cc (Zl H rv m.reqs t wt aw hr (by omega)) ?_;clear hS;rintro u post ⟨H1,dj,rfl,hq⟩ w hS;try simp only[app]at hS
  cases ha:pD m.reqs t wt aw with
  | none=>
   rw[ha]at hq Fb
   subst hq;refine Gp ?_;refine zq ?_;have hS:=cW.put m rv (hr.mono dj) hS Xp;rw[Fb];have hS:SL W (s3 Θ []::.ob (cW mp wp H1 m)::_) _:=bR.nil hS;exact⟨_,⟨H1,dj,rfl⟩,aW hS⟩
  | some L=>
   rw[ha]at hq Fb
   obtain⟨x,rfl,hx⟩:=hq;have ox:x.oneCell'=true:=hx.one;refine Gp ?_;refine zp ?_;refine Gn λw hS=>?_;refine zo hx ?_;refine Gm λnb w hS=>?_;rw[Fb];have hS:=cW.put (mp:=mp) (wp:=wp) {m with reqs:=L} x hx hS Xp;have hS:SL W (s3 (.slice (some ⟨nb,0,none⟩) 1 1) [⟨1,L.length,t,wt,aw,0,false⟩]::.ob (cW mp wp H1 {m with reqs:=L})::.mem H1::F) w:=bR.full (sz:=7) rfl (SL.b_ hS (t:=.pt nb [Γ 1,Γ L.length,Γ t,Γ wt,Γ aw,Γ 0,.bool false] 393::.ob (cW mp wp H1 {m with reqs:=L})::.mem H1::F) Xi);exact⟨_,⟨H1,dj,rfl⟩,aW hS⟩
def P_(aw:Int):∀(l:Ψ) (m:dD) (s:Η),m.fo aw (l++[s])=({(m.fo aw l).1 with reqs:=((m.fo aw l).1.accept s aw).1},(m.fo aw l).2++((m.fo aw l).1.accept s aw).2)
 | [],m,s=>by simp[dD.fo]
 | x::l,m,s=>by
  show (let r:=m.accept x aw;let y:=dD.fo {m with reqs:=r.1} aw (l++[s]);(y.1,r.2++y.2))=_;simp only;rw[P_ aw l];simp[dD.fo,zzk]
def P9{m:dD}(h:gk m.reqs)(s:Η)(aw:Int):gk (m.accept s aw).1/\(m.accept s aw).2.length<=1:=by
 unfold dD.accept;split
 ·exact⟨h,by simp⟩
 split
 ·exact⟨h,by simp⟩
 split
 ·exact⟨h,by simp⟩
 rename_i L hL;exact⟨Cj hL,by simp⟩
def Ht(aw:Int):∀(l:Ψ) {m:dD},m.Ok->(m.fo aw l).1.Ok/\(m.fo aw l).2.length<=l.length/\(m.fo aw l).1.cB=m.cB/\(m.fo aw l).1.tables=m.tables/\(m.fo aw l).1.late=m.late/\(m.fo aw l).1.at_=m.at_
 | [],m,h=>⟨h,by simp[dD.fo],rfl,rfl,rfl,rfl⟩
 | x::l,m,h=>by
  have h1:=P9 h.reqs x aw;have h2:=Ht aw l (m:={m with reqs:=(m.accept x aw).1}) ⟨h1.1,h.t1,h.rows,h.l4⟩;unfold dD.fo;simp only;refine⟨h2.1,?_,h2.2.2⟩;rw[zza,zzi];have:=h2.2.1;omega
def cwa{α:Type}{enc:α->Ξ}{v:Ε}{t:Ι}{sz:Nat}{A B:List α}:bR v t sz (A.length+B.length) ((A.map enc).flatten++(B.map enc).flatten)=bR v t sz (A++B).length ((A++B).map enc).flatten:=by
 rw[zza,zzt,yyw]
def Lj(mp wp:Nat)(H:bw)(y:dD × cD)(u:Ε)(post:Β):Prop:=∃(x:iD) (H':bw),H.le H'/\u=agg (eP x)/\ie H' x y.2/\post=[.ob (cW mp wp H' y.1),.mem H']
def YY(mp wp:Nat)(H:bw)(m:dD)(hm:m.Ok)(x:mU)(t:cF)(hx:lF H x t)(hs:t.signals.length<=2)(bWj:∀s∈t.signals,s.size<=40)(hc:t.changes.length<=16):
  SP 224 [cG mp,agg (fr x)] [.ob (cW mp wp H m),.mem H] (Lj mp wp H (m.Az t)):=by
 refine Enzz λW F w hS=>?_;apply cHh;delta Ns aI a_ aR bV ai cQ bI;refine zw hS λxb w hS=>?_;unfold fr at hS;rw[hx.aw]at hS
 have sA:=hx.cv;have Bh:=hx.sv;refine Gm λzb w hS=>?_;refine Gm λyb w hS=>?_;refine zo Bh ?_;have hS:SL W (s3 Θ []::_) w:=bR.nil hS;have hS:=SL.b_ hS (t:=s3 Θ []::.ob (cW mp wp H m)::.pt yb [Γ t.aw,Θ,Θ] 214::.pt zb [Γ 0,Θ,Θ] 214::.pt xb [Γ t.aw,Γ x.kind,x.cv,x.sv,Γ x.mark] 101::.mem H::F) Xi;refine⟨λus w=>∃(i:Nat) (nv:Ε) (H1:bw),us=[Γ i]/\i<=t.signals.length/\H.le H1/\SL W (s3 nv (m.fo t.aw (t.signals.take i)).2::.ob (cW mp wp H1 (m.fo t.aw (t.signals.take i)).1)::.pt yb [Γ t.aw,Θ,nv] 214::.pt zb [Γ 0,Θ,Θ] 214::.pt xb [Γ t.aw,Γ x.kind,x.cv,x.sv,Γ x.mark] 101::.mem H1::F) w,
  λus _=>match us with|[.int _ i]=>(t.signals.length-i).toNat|_=>0,⟨0,Θ,H,rfl,by omega,bw.le_refl H,hS⟩,?_⟩
 clear hS;rintro BS w ⟨i,nv,H1,cP,hi,dj,hS⟩;cases cP;refine bZ (λh=>?_) (λh=>?_)
 ·have cz:i<t.signals.length:=by omega
  have IA:=Ht t.aw (t.signals.take i) hm;have fS:t.signals.take (i+1)=t.signals.take i++[t.signals[i]]:=zze cz;have Dq:=P_ t.aw (t.signals.take i) m t.signals[i];rw[<- fS]at Dq
  have xf:=bWj _ (zzh cz);have de:(t.signals.take i).length<=2:=by rw[zzg];omega
  refine yP hS Xh (Bh.mono dj) cz (u:=.string t.signals[i]) (by simp[cz]) ?_;refine Gn λw hS=>?_;refine Cc (YX mp wp H1 (m.fo t.aw (t.signals.take i)).1 IA.1 t.signals[i] (by omega) t.aw) ?_;clear hS;rintro v post ⟨H2,dU,rfl⟩ w hS;try simp only[app]at hS
  have vI:=(P9 IA.1.reqs t.signals[i] t.aw).2;have hl2:=IA.2.1;refine Gp ?_;refine zI (n:=(m.fo t.aw (t.signals.take i)).2.length) (m:=((m.fo t.aw (t.signals.take i)).1.accept t.signals[i] t.aw).2.length) (cells:=((m.fo t.aw (t.signals.take i)).2.map kO).flatten) (cs:=(((m.fo t.aw (t.signals.take i)).1.accept t.signals[i] t.aw).2.map kO).flatten) hS Xr (nk hS Xh) (oV wU _) rfl (tR HY _) (by omega) (by omega) λv2 w hS=>?_;have o1:v2.oneCell'=true:=bR.one hS;rw[cwa,show (m.fo t.aw (t.signals.take i)).2++((m.fo t.aw (t.signals.take i)).1.accept t.signals[i] t.aw).2=(m.fo t.aw (t.signals.take (i+1))).2 by rw[Dq]]at hS
  refine Gn λw hS=>?_;rw[show (⟨(m.fo t.aw (t.signals.take i)).1.tables,(m.fo t.aw (t.signals.take i)).1.late,(m.fo t.aw (t.signals.take i)).1.at_,((m.fo t.aw (t.signals.take i)).1.accept t.signals[i] t.aw).1,(m.fo t.aw (t.signals.take i)).1.cB⟩:dD)=(m.fo t.aw (t.signals.take (i+1))).1 by rw[Dq]]at hS
  exact⟨⟨i+1,v2,H2,rfl,by omega,bw.le_trans dj dU,aW hS⟩,by dsimp only;omega⟩
 have FC:t.signals.take i=t.signals:=zz6 (by omega);rw[FC]at hS
 obtain⟨sE,A_,rG,tJ,de,il⟩:=Ht t.aw t.signals hm;have mZ:m.Az t=({(m.fo t.aw t.signals).1 with cB:=(m.fo t.aw t.signals).1.cB.rP t.changes},⟨t.aw,mn (m.fo t.aw t.signals).1 t.aw t.changes,(m.fo t.aw t.signals).2⟩):=rfl;rw[mZ];generalize m.fo t.aw t.signals=y at *
 obtain⟨m1,N⟩:=y;simp only at hS sE A_ ⊢;clear rG tJ de il mZ;refine Gp ?_;refine zo (sA.mono dj) ?_;have hS:SL W (GX Θ (mn m1 t.aw (t.changes.take 0))::_) w:=bR.nil hS;refine⟨λus w=>∃(i:Nat) (ov:Ε),us=[Γ i]/\i<=t.changes.length/\SL W (GX ov (mn m1 t.aw (t.changes.take i))::s3 nv N::.ob (cW mp wp H1 m1)::.pt yb [Γ t.aw,ov,nv] 214::.pt zb [Γ 0,Θ,Θ] 214::.pt xb [Γ t.aw,Γ x.kind,x.cv,x.sv,Γ x.mark] 101::.mem H1::F) w,
  λus _=>match us with|[.int _ i]=>(t.changes.length-i).toNat|_=>0,⟨0,Θ,rfl,by omega,aW hS⟩,?_⟩
 clear hS;rintro v33 w ⟨i,ov,cP,hi,hS⟩;cases cP;refine bZ (λh=>?_) (λh=>?_)
 ·have cz:i<t.changes.length:=by omega
  have FO:t.changes[i]?=some t.changes[i]:=zzc cz;have fS:t.changes.take (i+1)=t.changes.take i++[t.changes[i]]:=zze cz;have fh:mn m1 t.aw (t.changes.take (i+1))=mn m1 t.aw (t.changes.take i)++(if m1.captured t.changes[i].table=true then [⟨t.aw,t.changes[i].table,t.changes[i].key,t.changes[i].gone,t.changes[i].val⟩] else []):=by
   unfold mn;rw[fS,yyv,zzt];congr 1;rw[xx3];split<;>simp
  have xI:(mn m1 t.aw (t.changes.take i)).length<=16:=by
   unfold mn;rw[zzn];have:=yyp (λc:ep=>m1.captured c.table) (t.changes.take i);rw[zzg]at this
   omega
  refine zD hS Xh te (sA.mono dj) FO cz ?_;generalize t.changes[i]=c at *
  refine Gb λcb w hS=>?_;refine Cg (Ym mp wp H1 m1 (by have:=sE.reqs.1;omega) c.table) λw hS=>?_;refine yT (λhq=>?_) (λhq=>?_)
  ·rw[zzd hq]at fh
   refine Gm λob w hS=>?_;refine yx (n:=(mn m1 t.aw (t.changes.take i)).length) (xs:=mn m1 t.aw (t.changes.take i)) (y:=⟨t.aw,c.table,c.key,c.gone,c.val⟩) (enc:=jF) hS Xr Xh wV (λx=>Cv x) rfl (by omega) (by omega) λv2 w hS=>?_;have hS:=hS.p8 (x:=(⟨t.aw,c.table,c.key,c.gone,c.val⟩:gr));rw[<- fh]at hS
   have o1:v2.oneCell'=true:=bR.one hS;refine Gn λw hS=>?_;exact⟨⟨i+1,v2,rfl,by omega,aW hS⟩,by dsimp only;omega⟩
  rw[zzb (by simp[hq]),zz1]at fh
  rw[<- fh]at hS
  refine Gp ?_;exact⟨⟨i+1,ov,rfl,by omega,aW hS⟩,by dsimp only;omega⟩
 have bVg:t.changes.take i=t.changes:=zz6 (by omega);rw[bVg]at hS
 obtain⟨rv,hr,hS⟩:=cW.iff.1 (SL.b_ hS (t:=.ob (cW mp wp H1 m1)::GX ov (mn m1 t.aw t.changes)::s3 nv N::.pt yb [Γ t.aw,ov,nv] 214::.pt zb [Γ 0,Θ,Θ] 214::.pt xb [Γ t.aw,Γ x.kind,x.cv,x.sv,Γ x.mark] 101::.mem H1::F) Xi);refine Gn λw hS=>?_;refine Cc (cMq wp m1.cB H1 x.cv t.changes (sA.mono dj) (by have:=sE.rows;omega) (by omega)) ?_;clear hS;rintro _ post ⟨⟨q,rfl⟩,rfl⟩ w hS;try simp only[app]at hS
 have hS:=cW.put (mp:=mp) {m1 with cB:=m1.cB.rP t.changes} rv hr hS Xp;obtain⟨H2,dU,Tf,hS⟩:=zz (H:=H1) (v:=nv) hS Xp;obtain⟨H3,fE,Tg,hS⟩:=zz (H:=H2) (v:=ov) hS Xp;have on:nv.oneCell'=true:=Tf.one;have oo:ov.oneCell'=true:=Tg.one;refine Gp ?_;refine zr (vs:=[Γ t.aw,ov,nv]) hS Xu rfl rfl (J6 oo on) λw hS=>?_;refine Gp ?_;have E4:=bw.le_trans dU fE;have hS:=cW.je (m:={m1 with cB:=m1.cB.rP t.changes}) E4 hS Xr;exact⟨_,⟨⟨t.aw,ov,nv⟩,H3,bw.le_trans dj E4,rfl,⟨rfl,Tg,Tf.mono fE⟩,rfl⟩,aW hS⟩
def wv.all{wp:Nat}{k:dG}{H:bw}{mark aw:Int}{u:Ε}{post:Β}(h:wv wp k H mark aw u post):∃(x:iD) (H':bw) (q:Bool) (k':dG),H.le H'/\u= .tuple #[agg (eP x),.bool q]/\post=[.ob (dH wp k'),.mem H']/\(∀v∈eP x,v.oneCell'=true) /\
  ((q=false/\k.high mark aw=(k',none))\/(q=true/\∃t,k.high mark aw=(k',some t)/\ie H' x t)):=by
 unfold wv at h;have e:k.high mark aw=(if k.uD mark aw then (k,none) else (mR k.n,some ⟨aw,ka k aw,[rK k]⟩)):=rfl;by_cases hb:k.uD mark aw
 ·rw[zzd hb]at e
  rw[e]at h ⊢
  obtain⟨rfl,rfl⟩:=h;exact⟨uP,H,false,k,bw.le_refl H,rfl,rfl,by simp[eP,Value.oneCell'],.inl ⟨rfl,rfl⟩⟩
 rw[zzb hb]at e
 rw[e]at h ⊢
 obtain⟨x,H',hh,rfl,hx,rfl⟩:=h;exact⟨x,H',true,_,hh,rfl,rfl,mD hx,.inr ⟨rfl,_,rfl,hx⟩⟩
def bVh{k k':dG}{mark aw:Int}{t:cD}(h:k.high mark aw=(k',some t)):t=⟨aw,ka k aw,[rK k]⟩:=by
 unfold dG.high at h;split at h
 ·cases h
 cases h;rfl
def QG(mp wp:Nat)(H:bw)(m:dD)(hm:m.Ok)(x:mU)(t:cF)(hx:lF H x t)(hid : -9223372036854775808<=m.cB.id/\m.cB.id<=9223372036854775807):
  SP 225 [cG mp,agg (fr x)] [.ob (cW mp wp H m),.mem H] (Lj mp wp H (m.high t)):=by
 refine Enzz λW F w hS=>?_;apply cHi;delta Nt bU a_ cV aR bV cL ai bI;have hn:=hm.rows;have Dj:=hm.reqs.1;refine zw hS λxb w hS=>?_;unfold fr at hS;rw[hx.aw,hx.mark]at hS
 obtain⟨rv,hr,hS⟩:=cW.iff.1 (SL.b_ hS (t:=.ob (cW mp wp H m)::.pt xb [Γ t.aw,Γ x.kind,x.cv,x.sv,Γ t.mark] 101::.mem H::F) Xi);refine Gm λzb w hS=>?_;refine⟨λus w=>∃(yb:Nat) (y:iD) (H1:bw) (q:Bool) (k':dG),us=[cG yb,.bool q]/\H.le H1/\(∀v∈eP y,v.oneCell'=true)/\((q=false/\m.cB.high t.mark t.aw=(k',none))\/(q=true/\∃z,m.cB.high t.mark t.aw=(k',some z)/\ie H1 y z)) /\
   SL W (.pt yb (eP y) 214::.pt zb [Γ 0,Θ,Θ] 214::.pt xb [Γ t.aw,Γ x.kind,x.cv,x.sv,Γ t.mark] 101::.pt mp (x9 m wp rv) 121::.ob (dH wp k')::.mem H1::F) w,?_,?_⟩
 ·refine Gn λw hS=>?_;refine⟨?_,?_⟩
  ·refine Cc (Yk wp m.cB H t.mark t.aw (by omega)) ?_;clear hS;rintro _ post hq w hS;obtain⟨y,H1,q,k',dj,rfl,rfl,uN,hc⟩:=hq.all;try simp only[app]at hS
   refine Gm λyb w hS=>?_;refine zr hS Xu rfl rfl uN λw hS=>?_;exact⟨yb,y,H1,q,k',rfl,dj,uN,hc,aW hS⟩
  refine Gb λyb w hS=>?_;refine Cc (Yk wp m.cB H t.mark t.aw (by omega)) ?_;clear hS;rintro _ post hq w hS;obtain⟨y,H1,q,k',dj,rfl,rfl,uN,hc⟩:=hq.all;(try simp only[app]at hS);refine Gp ?_
  refine zr hS Xu rfl rfl uN λw hS=>?_;exact⟨yb,y,H1,q,k',rfl,dj,uN,hc,aW hS⟩
 clear hS;rintro v5 v6 w ⟨yb,y,H1,q,k',cP,dj,uN,hc,hS⟩;cases cP;rcases hc with ⟨rfl,hh⟩|⟨rfl,z,hh,hz⟩
 ·refine z7 (zq ?_);refine Gn λw hS=>?_;have e:m.high t=(m,⟨t.aw,[],[]⟩):=by unfold dD.high;rw[hh]
  have hk:k'=m.cB:=by
   unfold dG.high at hh;split at hh
   ·cases hh;rfl
   cases hh
  subst hk;rw[e];have hS:=cW.put m rv (hr.mono dj) hS Xp;exact⟨_,⟨⟨t.aw,Θ,Θ⟩,H1,dj,rfl,⟨rfl,dq.nil _ _,dq.nil _ _⟩,rfl⟩,aW hS⟩
 refine z7 (zp ?_);have UG:=bVh hh;subst UG;have FQ:=hz.aw;have Ba:=hz.iS;have Uc:=hz.ops;have hS:SL W (.pt yb [Γ y.aw,y.ov,y.nv] 214::_) w:=hS;refine Gp ?_;refine zD (j:=0) hS Xh wU Ba (x:=rK m.cB) rfl (by simp) ?_;refine Gb λnb w hS=>?_;refine Cc (ZH H1 rv m.reqs m.cB.id m.cB.dA m.cB.last (hr.mono dj) (by omega) hid) ?_;clear hS;rintro u post ⟨H2,dU,rfl,hq⟩ w hS;try simp only[app]at hS
 have e_:=bw.le_trans dj dU;cases l_:l6 m.reqs m.cB.id m.cB.dA m.cB.last with
 | none=>
  rw[l_]at hq
  subst hq;have e:m.high t=({m with cB:=k'},⟨t.aw,ka m.cB t.aw,[]⟩):=by unfold dD.high;rw[hh];simp only;rw[l_]
  rw[e];refine Gp ?_;refine zq ?_;refine Gn λw hS=>?_;have oo:y.ov.oneCell'=true:=Uc.one;refine zr (vs:=[Γ y.aw,y.ov,Θ]) hS Xu rfl rfl (J6 oo rfl) λw hS=>?_;refine Gp ?_;have hS:=cW.put (mp:=mp) {m with cB:=k'} rv (hr.mono e_) hS Xp;exact⟨_,⟨⟨y.aw,y.ov,Θ⟩,H2,e_,rfl,⟨FQ,Uc.mono dU,dq.nil _ _⟩,rfl⟩,aW hS⟩
 | some L=>
  rw[l_]at hq
  obtain⟨rx,rfl,Um⟩:=hq;have e:m.high t=({m with cB:=k',reqs:=L},⟨t.aw,ka m.cB t.aw,[rK m.cB]⟩):=by unfold dD.high;rw[hh];simp only;rw[l_]
  rw[e];have ox:rx.oneCell'=true:=Um.one;refine Gp ?_;refine zp ?_;refine Gn λw hS=>?_;refine zr (vs:=[Γ y.aw,y.ov,y.nv]) hS Xu rfl rfl uN λw hS=>?_;refine Gp ?_;have hS:=cW.put (mp:=mp) {m with cB:=k',reqs:=L} rx Um hS Xp;exact⟨_,⟨y,H2,e_,rfl,hz.mono dU,rfl⟩,aW hS⟩
def Lr(mp wp:Nat)(H:bw)(y:dD × (cD × Int))(u:Ε)(post:Β):Prop:=∃(x:iD) (H':bw),H.le H'/\u= .tuple #[agg (eP x),Γ y.2.2]/\ie H' x y.2.1/\post=[.ob (cW mp wp H' y.1),.mem H']
def Z2(mp wp:Nat)(H:bw)(m:dD)(hm:m.Ok)(x:mU)(t:cF)(hx:lF H x t)(hid : -9223372036854775808<=m.cB.id/\m.cB.id<=9223372036854775807):
  SP 167 [cG mp,agg (fr x)] [.ob (cW mp wp H m),.mem H] (Lr mp wp H (m.take t)):=by
 refine Enzz λW F w hS=>?_;apply cFy;delta Mw aI bU a_ cV bV cL ai bI;have il:=hm.l4;refine zw hS λxb w hS=>?_;refine Gm λzb w hS=>?_;refine Cg (yo H x t hx) λw hS=>?_;unfold dD.take;refine zt (λh=>?_) (λh=>?_)
 ·rw[zzd h];refine Gn λw hS=>?_;exact⟨_,⟨uP,H,bw.le_refl H,rfl,⟨rfl,dq.nil _ _,dq.nil _ _⟩,rfl⟩,aW hS⟩
 rw[zzb (by simp[h])];obtain⟨m1,m2,m3,m4,m5,m6,m7⟩:=mj h;have hl:=hx.aw;have hk:=hx.kind;have FF:=hx.mark;obtain⟨rv,hr,hS⟩:=cW.iff.1 (SL.b_ hS (t:=.ob (cW mp wp H m)::.pt zb [Γ 0,Θ,Θ] 214::.pt xb (fr x) 101::.mem H::F) Xi);refine Gn λw hS=>?_;rw[hl];have FI:∀{w:Ζ},(t.aw≠m.at_+1\/m.cB.waits t.kind t.mark=true)->SL W (.pt mp (x9 m wp rv) 121::.ob (dH wp m.cB)::.mem H::F) w->∃post,Lr mp wp H (if t.aw≠m.at_+1\/m.cB.waits t.kind t.mark=true then (m,(⟨0,[],[]⟩,10))
   else if t.kind=1 then let r:=({m with at_:=t.aw}:dD).Az t;(r.1,(r.2,0))
   else if t.kind=3 then let r:=({m with at_:=t.aw}:dD).high t;(r.1,(r.2,0))
   else ({m with at_:=t.aw,cB:=m.cB.low t.mark},(⟨t.aw,[],[]⟩,0))) (.tuple #[agg (eP uP),Γ 10]) post/\SL W (app post F) w:=λh hS=>by
  rw[zzd h];have hS:=cW.put m rv hr hS Xp;exact⟨_,⟨uP,H,bw.le_refl H,rfl,⟨rfl,dq.nil _ _,dq.nil _ _⟩,rfl⟩,aW hS⟩
 refine za (λh1=>?_) (λh1=>?_)
 ·refine Gn λw hS=>?_;exact FI (.inl h1) (aW hS)
 refine Gp ?_;refine yG (vs:=[cG wp]) hS Xh rfl (λj v e=>by
  match j,e with
  | 0,e=>exact e) ?_
 refine Gp ?_;refine Cg (ZG wp m.cB x) λw hS=>?_;rw[hk,FF];refine yT (λh2=>?_) (λh2=>?_)
 ·refine Gn λw hS=>?_;exact FI (.inr h2) (aW hS)
 clear FI;rw[zzb (show ¬(t.aw≠m.at_+1\/m.cB.waits t.kind t.mark=true) by rw[h2];simp;omega)];refine Gn λw hS=>?_;rw[hl]at hS
 have hS:SL W (.pt mp (x9 {m with at_:=t.aw} wp rv) 121::.ob (dH wp m.cB)::.pt zb [Γ 0,Θ,Θ] 214::.pt xb (fr x) 101::.mem H::F) w:=aW hS;have cH:({m with at_:=t.aw}:dD).Ok:=⟨hm.reqs,hm.t1,hm.rows,by show 0<=t.aw/\t.aw<=1099511627776;omega⟩;rw[hk];refine za (λh3=>?_) (λh3=>?_)
 ·rw[zzd h3];have hS:=cW.put (mp:=mp) {m with at_:=t.aw} rv hr hS Xp;refine Gp ?_;refine Cc (YY mp wp H {m with at_:=t.aw} cH x t hx m5 m7 m4) ?_;clear hS;rintro _ post ⟨y,H1,dj,rfl,hy,rfl⟩ w hS;try simp only[app]at hS
  refine zr hS Xu rfl rfl (mD hy) λw hS=>?_;refine Gp ?_;exact⟨_,⟨y,H1,dj,rfl,hy,rfl⟩,aW hS⟩
 rw[zzb h3];refine bZ (λh4=>?_) (λh4=>?_)
 ·rw[zzd h4];have hS:=cW.put (mp:=mp) {m with at_:=t.aw} rv hr hS Xp;refine Gp ?_;refine Cc (QG mp wp H {m with at_:=t.aw} cH x t hx hid) ?_;clear hS;rintro _ post ⟨y,H1,dj,rfl,hy,rfl⟩ w hS;try simp only[app]at hS
  refine zr hS Xu rfl rfl (mD hy) λw hS=>?_;refine Gp ?_;exact⟨_,⟨y,H1,dj,rfl,hy,rfl⟩,aW hS⟩
 rw[zzb h4];refine Gn λw hS=>?_;rw[FF];refine Cc (cMj wp m.cB t.mark) ?_;clear hS;rintro _ post ⟨⟨q,rfl⟩,rfl⟩ w hS;refine Gn λw hS=>?_;rw[hl];have hS:=cW.put (mp:=mp) (wp:=wp) {m with at_:=t.aw,cB:=m.cB.low t.mark} rv hr hS Xp;exact⟨_,⟨⟨t.aw,Θ,Θ⟩,H,bw.le_refl H,rfl,⟨rfl,dq.nil _ _,dq.nil _ _⟩,rfl⟩,aW hS⟩
def oU(m:Int × Int):Ξ:=[Γ m.2,Γ m.1]
def AH(m:Int × Int):(oU m).length=2:=rfl
def SA(m:Int × Int):∀v∈oU m,v.oneCell'=true:=by simp[oU,Value.oneCell']
structure G0(d:dB)(a:Nat)(nm:Bool)(lf:Int):Prop where
 t:nm=true->d.at_=a/\d.left=lf/\a<d.l.length
 f:nm=false->d.at_=(a:Int)-1/\d.left=0/\a<=d.l.length
structure D7 where
 v:Ε
 a:Nat
 nm:Bool
 lf:Int
abbrev uS(x:D7):Ξ:=[x.v,Γ x.a,.bool x.nm,Γ x.lf]
abbrev sZ(v:Ε)(l:List (Int × Int)):Μ:=.ob (bR v 418 2 l.length (l.map oU).flatten)
def fw(p:Nat)(d:dB):zB:=jK λx:D7=>zG (G0 d x.a x.nm x.lf) [.pt p (uS x) 402,sZ x.v d.l]
def fw.iff{W w:Ζ}{l:Β}{p:Nat}{d:dB}:SL W (.ob (fw p d)::l) w↔∃x:D7,G0 d x.a x.nm x.lf/\SL W (.pt p (uS x) 402::sZ x.v d.l::l) w:=by
 unfold fw;simp only[SL.ex,SL.fact,zzv,zzr]
def fw.BG{W w:Ζ}{l F:Β}{p:Nat}{d:dB}(v:Ε)(a:Nat)(nm:Bool)(lf:Int)(h:G0 d a nm lf)(hS:SL W l w)(k:gC [.pt p [v,Γ a,.bool nm,Γ lf] 402,sZ v d.l] l F):SL W (.ob (fw p d)::F) w:=fw.iff.2 ⟨⟨v,a,nm,lf⟩,h,hS.pick k⟩
def bwi:SP 207 [] [] (λv post=>∃p:Nat,v= Δ p/\post=[.ob (fw p wP)]):=by
 refine Enzz λW F w hS=>?_;apply cG0;delta M_ ai bI;refine yW rfl ?_;refine⟨_,rfl,zC hS λp w hS=>?_⟩;have hS:SL W (sZ Θ []::.pt p (uS ⟨Θ,0,false,0⟩) 402::F) w:=bR.nil hS;exact⟨_,⟨p,rfl,rfl⟩,SL.b_ (fw.BG (d:=wP) Θ 0 false 0 ⟨(λh=>by cases h),λ_=>⟨rfl,rfl,zzj _⟩⟩ hS Xp) Xi⟩
def YV(b:Nat)(id:Int)(m:Int × Int):SP 374 [agg (oU m),Δ b] [.pt b [Γ id] 3] (cE (.bool (decide (m.1=id))) [.pt b [Γ id] 3]):=by
 refine Enzz λW F w hS=>?_;apply cKl;delta O_ a_;refine zw hS λxb w hS=>?_;unfold oU at hS;refine Gp ?_;(exact cC hS)
def ZD(p:Nat)(x:D7)(l:List (Int × Int))(id:Int)(hn:l.length<=1000):
  SP 341 [Δ p,Γ id] [.pt p (uS x) 402,sZ x.v l] (cE (Γ (lq (l.findIdx? λm=>decide (m.1=id)))) [.pt p (uS x) 402,sZ x.v l]):=by
 refine Enzz λW F w hS=>?_;apply cJ4;delta OZ bU;refine⟨rfl,zC hS λb w hS=>?_⟩;unfold uS at hS;refine Gp ?_;have hC:=Jz (t:=418) AH rfl (λv0 v1 w R h=>cKk v0 v1 w R h) (λm=>YV b id m) x.v l (by omega);simp only[zzv,zzr]at hC;refine Cg (hC) λw hS=>?_;(exact cC hS)
def a_t(p:Nat)(d:dB)(id weight:Int)(hn:d.l.length<=1000):SP 297 [Δ p,Γ id,Γ weight] [.ob (fw p d)] (λv post=>(∃e:Int,v= Γ e)/\post=[.ob (fw p (d.add id weight))]):=by
 refine Enzz λW F w hS=>?_;apply cI4;delta Oq aI bU cV ai;have fF:∀{e:Int} {w:Ζ},(id<1\/64<id\/weight<1\/8<weight)->SL W (.ob (fw p d)::F) w->∃post,((∃e':Int,Γ e= Γ e')/\post=[.ob (fw p (d.add id weight))])/\SL W (app post F) w:=λh hS=>by
  rw[show d.add id weight=d by unfold dB.add;rw[zzd h]];exact⟨_,⟨⟨_,rfl⟩,rfl⟩,hS⟩
 refine Gp ?_;refine za (λh=>fF (by omega) hS) (λh1=>?_);refine Gp ?_;refine za (λh=>fF (by omega) hS) (λh2=>?_);refine Gp ?_;refine za (λh=>fF (by omega) hS) (λh3=>?_);refine Gp ?_;refine za (λh=>fF (by omega) hS) (λh4=>?_);clear fF;obtain⟨x,hr,hS⟩:=fw.iff.1 hS;refine Cg (ZD p x d.l id hn) λw hS=>?_;have ha:d.add id weight=match Bn d id with|some _=>d|none=>{d with l:=d.l++[(id,weight)]}:=by
  unfold dB.add;rw[zzb (by omega)];rfl
 rw[ha];unfold Bn;cases hf:d.l.findIdx? (λm=>decide (m.1=id)) with
 | some i=>
  refine za (λ_=>?_) (λh=>by simp only[lq]at h;omega);exact⟨_,⟨⟨_,rfl⟩,rfl⟩,fw.iff.2 ⟨x,hr,aW hS⟩⟩
 | none=>
  refine za (λh=>by simp only[lq]at h;omega) (λ_=>?_);unfold uS at hS;refine Gm λb w hS=>?_;refine yx (n:=d.l.length) (xs:=d.l) (y:=(id,weight)) (enc:=oU) hS Xr Xh AH SA rfl (by omega) (by omega) λv2 w hS=>?_;have hS:=hS.p8 (x:=(id,weight));have o1:v2.oneCell'=true:=bR.one hS;refine Gn λw hS=>?_;refine⟨_,⟨⟨_,rfl⟩,rfl⟩,SL.b_ (fw.BG (d:={d with l:=d.l++[(id,weight)]}) v2 x.a x.nm x.lf ⟨λh=>?_,λh=>?_⟩ hS Xp) Xi⟩
  ·have:=hr.t h;exact⟨this.1,this.2.1,by show x.a<(d.l++[_]).length;rw[zza];omega⟩
  have:=hr.f h;exact⟨this.1,this.2.1,by show x.a<=(d.l++[_]).length;rw[zza];omega⟩
def a_v(p:Nat)(d:dB)(id:Int)(hn:d.l.length<=1000):SP 296 [Δ p,Γ id] [.ob (fw p d)] (λv post=>(∃e:Int,v= Γ e)/\post=[.ob (fw p (d.del id))]):=by
 refine Enzz λW F w hS=>?_;apply cI3;delta Oo aI bU cV ai;obtain⟨x,hr,hS⟩:=fw.iff.1 hS;refine Cg (ZD p x d.l id hn) λw hS=>?_;unfold dB.del Bn;cases hf:d.l.findIdx? (λm=>decide (m.1=id)) with
 | none=>
  refine za (λ_=>?_) (λh=>by simp only[lq]at h;omega);exact⟨_,⟨⟨_,rfl⟩,rfl⟩,fw.iff.2 ⟨x,hr,aW hS⟩⟩
 | some i=>
  have hi:i<d.l.length:=(yyn.1 hf).1;have hxa:x.a<=d.l.length:=by
   cases ht:x.nm with
   | true=>have:=hr.t ht;omega
   | false=>exact (hr.f ht).2.2
  simp only[lq];refine za (λh=>by omega) (λ_=>?_);unfold uS at hS;refine Gp ?_;refine Cc (HT (sz:=2) (hU:=16) (z:=[Γ 0,Γ 0]) (zv:=.agg #[Γ 0,Γ 0]) (λv0 v1 v2 w R h=>cJ5 v0 v1 v2 w R h) Tryz.underlying400 (λw=>by kernel_rfl) rfl rfl (by simp[Value.oneCell']) x.v d.l.length i (d.l.map oU).flatten hi (tR SA _) (by omega) (by omega)) ?_;clear hS;rintro v post rfl w hS;try simp only[app]at hS
  have ef:List.take (i*2) (d.l.map oU).flatten++List.drop ((i+1)*2) (d.l.map oU).flatten=((d.l.eraseIdx i).map oU).flatten:=by
   rw[uo AH,vr AH,List.eraseIdx_eq_take_drop_succ];simp
  have el:d.l.length-1=(d.l.eraseIdx i).length:=by rw[uuu,zzd hi]
  rw[ef,el]at hS
  have o1:v.oneCell'=true:=bR.one hS;refine Gn λw hS=>?_;refine za (λh1=>?_) (λh1=>?_)
  ·refine Gn λw hS=>?_;have hx:((x.a:Int)-1)=((x.a-1:Nat):Int):=by omega
   rw[hx]at hS
   refine⟨_,⟨⟨_,rfl⟩,rfl⟩,SL.b_ (fw.BG (d:=⟨d.l.eraseIdx i,if (i:Int)<=d.at_ then d.at_-1 else d.at_,if (i:Int)=d.at_ then 0 else d.left⟩) v (x.a-1) x.nm x.lf ⟨λh=>?_,λh=>?_⟩ hS Xp) Xi⟩
   ·obtain⟨h2,h3,h4⟩:=hr.t h;refine⟨?_,?_,by show x.a-1<(d.l.eraseIdx i).length;omega⟩
    ·show (if (i:Int)<=d.at_ then d.at_-1 else d.at_)=_;rw[zzd (by omega)];omega
    show (if (i:Int)=d.at_ then 0 else d.left)=_;rw[zzb (by omega)];exact h3
   obtain⟨h2,h3,h4⟩:=hr.f h;refine⟨?_,?_,by show x.a-1<=(d.l.eraseIdx i).length;omega⟩
   ·show (if (i:Int)<=d.at_ then d.at_-1 else d.at_)=_;rw[zzd (by omega)];omega
   show (if (i:Int)=d.at_ then 0 else d.left)=_;rw[h3];simp
  refine bZ (λh2=>?_) (λh2=>?_)
  ·refine Gn λw hS=>?_;refine⟨_,⟨⟨_,rfl⟩,rfl⟩,SL.b_ (fw.BG (d:=⟨d.l.eraseIdx i,if (i:Int)<=d.at_ then d.at_-1 else d.at_,if (i:Int)=d.at_ then 0 else d.left⟩) v x.a false x.lf ⟨(λh=>by cases h),λ_=>?_⟩ hS Xp) Xi⟩;cases ht:x.nm with
   | true=>
    obtain⟨h3,h4,h5⟩:=hr.t ht;refine⟨?_,?_,by show x.a<=(d.l.eraseIdx i).length;omega⟩
    ·show (if (i:Int)<=d.at_ then d.at_-1 else d.at_)=_;rw[zzd (by omega)];omega
    show (if (i:Int)=d.at_ then 0 else d.left)=_;rw[zzd (by omega)]
   | false=>
    obtain⟨h3,h4,h5⟩:=hr.f ht;refine⟨?_,?_,by show x.a<=(d.l.eraseIdx i).length;omega⟩
    ·show (if (i:Int)<=d.at_ then d.at_-1 else d.at_)=_;rw[zzb (by omega)];omega
    show (if (i:Int)=d.at_ then 0 else d.left)=_;rw[h4];simp
  refine⟨_,⟨⟨_,rfl⟩,rfl⟩,SL.b_ (fw.BG (d:=⟨d.l.eraseIdx i,if (i:Int)<=d.at_ then d.at_-1 else d.at_,if (i:Int)=d.at_ then 0 else d.left⟩) v x.a x.nm x.lf ⟨λh=>?_,λh=>?_⟩ hS Xp) Xi⟩
  ·obtain⟨h3,h4,h5⟩:=hr.t h;refine⟨?_,?_,by show x.a<(d.l.eraseIdx i).length;omega⟩
   ·show (if (i:Int)<=d.at_ then d.at_-1 else d.at_)=_;rw[zzb (by omega)];exact h3
   show (if (i:Int)=d.at_ then 0 else d.left)=_;rw[zzb (by omega)];exact h4
  obtain⟨h3,h4,h5⟩:=hr.f h;refine⟨?_,?_,by show x.a<=(d.l.eraseIdx i).length;omega⟩
  ·show (if (i:Int)<=d.at_ then d.at_-1 else d.at_)=_;rw[zzb (by omega)];exact h3
  show (if (i:Int)=d.at_ then 0 else d.left)=_;rw[h4];simp
def Qs(p:Nat)(d:dB)(hd:d.Ok)(hn:d.l.length<=1000):SP 230 [Δ p] [.ob (fw p d)] (λv post=>v= .tuple #[Γ d.next.2,.bool (decide (d.l≠[]))]/\post=[.ob (fw p d.next.1)]):=by
 refine Enzz λW F w hS=>?_;apply cHn;delta Ny aI bU a_ cV cL ai;have il:=hd.oP;have hl8:=hd.F1;have rr:=hd.F0;obtain⟨x,hr,hS⟩:=fw.iff.1 hS;unfold uS at hS;refine Gp ?_;refine zu hS (v:=x.v) (t:=418) (sz:=2) (n:=d.l.length) (cells:=(d.l.map oU).flatten) Xh ?_;refine bZ (λh=>?_) (λh=>?_)
 ·have he:d.l=[]:=zzl (by omega);have e:d.next=(d,0):=by unfold dB.next;rw[zzd he]
  rw[e,zz2 (by simp[he])];exact⟨_,⟨rfl,rfl⟩,fw.iff.2 ⟨x,hr,aW hS⟩⟩
 have dQ:d.l≠[]:=λe=>h (by rw[e];rfl);have dW:0<=d.place/\d.place<d.l.length:=by
  unfold dB.place;have:=hd.neg;have:=hd.l4;split
  ·split<;>omega
  omega
 obtain⟨j,hj⟩:∃j:Nat,d.place=j:=⟨d.place.toNat,by omega⟩;have gS:j<d.l.length:=by omega
 have xC:d.l[j]?=some d.ml:=by
  unfold dB.ml;rw[hj,zzy,zzc gS];rfl
 have hw:=hd.w _ (yy9 xC);refine⟨λus w=>∃(a:Nat) (t:Bool) (lf:Int),us=[]/\((t=true/\lf=d.left/\d.left≠0/\(a:Int)=d.at_)\/(t=false/\(a:Int)=d.at_+1/\d.left=0))/\SL W (.pt p [x.v,Γ a,.bool t,Γ lf] 402::sZ x.v d.l::F) w,?_,?_⟩
 ·refine Gp ?_;refine yT (λht=>?_) (λht=>?_)
  ·obtain⟨h3,h4,h5⟩:=hr.t ht;refine bZ (λh0=>?_) (λh0=>?_)
   ·refine Gn λw hS=>?_;exact⟨x.a+1,false,x.lf,rfl,.inr ⟨rfl,by omega,by omega⟩,aW hS⟩
   exact⟨x.a,true,x.lf,rfl,.inl ⟨rfl,h4.symm,by omega,h3.symm⟩,by rw[<- ht];exact aW hS⟩
  obtain⟨h3,h4,h5⟩:=hr.f ht;exact⟨x.a,false,x.lf,rfl,.inr ⟨rfl,by omega,h4⟩,by rw[<- ht];exact aW hS⟩
 clear hS;rintro w ⟨a,t,lf,-,hc,hS⟩;refine⟨λus w=>us=[]/\SL W (.pt p [x.v,Γ j,.bool true,Γ (if d.left=0 then d.ml.2 else d.left)] 402::sZ x.v d.l::F) w,?_,?_⟩
 ·refine Gp ?_;rcases hc with ⟨rfl,rfl,gF,jY⟩|⟨rfl,gF,jY⟩
  ·refine zp ?_;have e:d.place=d.at_:=by unfold dB.place;rw[zzb gF]
   have:a=j:=by omega
   subst this;rw[zzb gF];exact⟨rfl,aW hS⟩
  refine zq ?_;refine⟨λus w=>us=[]/\SL W (.pt p [x.v,Γ j,.bool false,Γ lf] 402::sZ x.v d.l::F) w,?_,?_⟩
  ·refine Gn λw hS=>?_;refine zu hS (v:=x.v) (t:=418) (sz:=2) (n:=d.l.length) (cells:=(d.l.map oU).flatten) Xh ?_;refine Gp ?_;have e:d.place=if (d.l.length:Int)<=d.at_+1 then 0 else d.at_+1:=by unfold dB.place;rw[zzd jY]
   refine za (λh0=>?_) (λh0=>?_)
   ·rw[zzd (by omega)]at e
    have:j=0:=by omega
    subst this;refine Gn λw hS=>?_;have hS:SL W (.pt p [x.v,Γ ((0:Nat):Int),.bool false,Γ lf] 402::sZ x.v d.l::F) w:=hS;exact aW hS
   rw[zzb (by omega)]at e
   have:a=j:=by omega
   subst this;exact⟨rfl,aW hS⟩
  clear hS;rintro w ⟨-,hS⟩;refine Gn λw hS=>?_;obtain⟨fa,fc,UC,_,hfx⟩:=bR.at hS (v:=x.v) (t:=418) (sz:=2) (n:=d.l.length) (cells:=(d.l.map oU).flatten) Xh;obtain⟨fb,rfl,hfc⟩:=hfx j gS;rw[UC];refine zF gS (yK (yK ?_));have mZ:=hfc _ _ (pP AH d.l j 0 d.ml (Γ d.ml.2) xC rfl);refine⟨_,_,rfl,by rw[yye];exact mZ,?_⟩;refine Gn λw hS=>?_;rw[zzd jY,<- UC];exact aW hS
 clear hS hc;rintro w ⟨-,hS⟩;refine Gn λw hS=>?_;refine yi (i:=1) hS (v:=x.v) (t:=418) Xh AH xC gS (u:=Γ d.ml.1) rfl ?_;have e:d.next=(⟨d.l,d.place,(if d.left=0 then d.ml.2 else d.left)-1⟩,d.ml.1):=by unfold dB.next;rw[zzb dQ]
 rw[e,zzm dQ];exact⟨_,⟨rfl,rfl⟩,SL.b_ (fw.BG (d:=⟨d.l,d.place,(if d.left=0 then d.ml.2 else d.left)-1⟩) x.v j true ((if d.left=0 then d.ml.2 else d.left)-1) ⟨λ_=>⟨hj,rfl,gS⟩,(λh=>by cases h)⟩ hS Xp) Xi⟩
def bZk(kind mark:Int):iz [Γ 0,Γ 0,Θ,Θ,Γ 0] [(0,1,Γ 1),(1,1,Γ kind),(4,1,Γ mark)]=some (fr ⟨1,kind,Θ,Θ,mark⟩):=by simp[iz,Value.cells,fr]
def Yh(sp tp dp lp:Nat)(k:cN)(H:bw)(kind mark:Int){N:Nat}(hk:jy k N)(hN:N<=1000000000)(dV:k.d.ops<=90000):
  SP 231 [cG sp,Γ kind,Γ mark] [.ob (df sp tp dp lp k),.ob (bX dp k.d),.mem H] (Ah sp tp dp lp H (k.j9 kind mark)):=by
 refine Enzz λW F w hS=>?_;apply cHo;delta Nz aI cL Hh ai bI;have hx:lF H ⟨1,kind,Θ,Θ,mark⟩ ⟨1,kind,[],[],mark⟩:=⟨rfl,rfl,rfl,dq.nil _ _,dq.nil _ _⟩;have fF:∀{w:Ζ},¬((kind=2\/kind=3)/\eg ⟨1,kind,[],[],mark⟩=true)->SL W (.ob (df sp tp dp lp k)::.ob (bX dp k.d)::.mem H::F) w->∃post,Ah sp tp dp lp H (k.j9 kind mark) (.tuple #[Γ 0,Γ 1]) post/\SL W (app post F) w:=λh hS=>by
  rw[show k.j9 kind mark=(k,(0,1)) from zzb h];exact⟨_,⟨rfl,rfl⟩,hS⟩
 refine yW (bZk kind mark) ?_;refine Gb λxb w hS=>?_;have Fw:∀{w:Ζ},(kind=2\/kind=3)->SL W (.pt xb (fr ⟨1,kind,Θ,Θ,mark⟩) 101::.ob (df sp tp dp lp k)::.ob (bX dp k.d)::.mem H::F) w->zg 5 (cG xb) w λKZ=>aF 108 [KZ] w λv20 uZ=>Zf v20 λv21=>dm v21 (∃post,Ah sp tp dp lp H (k.j9 kind mark) (.tuple #[Γ 0,Γ 1]) post/\SL W (app post F) uZ)
   (zg 5 (cG xb) uZ λv24=>aF 111 [cG sp,v24] uZ λv25 w_4=>zf 0 v25 λv26=>zf 1 v25 λv27=>∃post,Ah sp tp dp lp H (k.j9 kind mark) (.tuple #[v26,v27]) post/\SL W (app post F) w_4):=λh2 hS=>by
  refine zA hS Xh rfl ?_;refine Cg (yo H ⟨1,kind,Θ,Θ,mark⟩ ⟨1,kind,[],[],mark⟩ hx) λw hS=>?_;refine zt (λh=>fF (λx=>by rw[x.2]at h;cases h) (aW hS)) (λh=>?_);rw[show k.j9 kind mark=k.fU ⟨1,kind,[],[],mark⟩ from zzd ⟨h2,h⟩];refine zA hS Xh rfl ?_;refine Cg (YO sp tp dp lp k H ⟨1,kind,Θ,Θ,mark⟩ ⟨1,kind,[],[],mark⟩ hx h hk hN dV) λw hS=>?_;exact cC hS
 refine za (λh=>?_) (λh=>Fw (.inl (by omega)) (aW hS));refine Gp ?_;exact za (λh2=>fF (λx=>by omega) (aW hS)) (λh2=>Fw (.inr (by omega)) (aW hS))
abbrev oL(v:Ε)(l:List Rq):Μ:=.ob (bR v 98 7 l.length (l.map iI).flatten)
def cny{L:List Rq}{i:Nat}(h:i<L.length):iW (L.take (i+1))=iW (L.take i)++(if L[i].done=false then [L[i]] else []):=by
 unfold iW;rw[zze h,yyv,xx3];cases L[i].done<;>simp
def J_(L:List Rq)(i:Nat):(iW (L.take i)).length<=L.length:=by
 have:=yyp (λr:Rq=>!r.done) (L.take i);rw[zzg]at this
 unfold iW;omega
def yV(v:Ε)(L:List Rq)(hn:L.length<=1000):SP 74 [v] [oL v L] (λu post=>post=[oL u (iW L),oL v L]):=by
 refine Enzz λW F w hS=>?_;apply cLo;delta PQ aI a_ cL ai bI;refine zu hS (v:=v) (t:=98) (sz:=7) (n:=L.length) (cells:=(L.map iI).flatten) Xh ?_;have hS:SL W (oL Θ []::_) w:=bR.nil hS;refine⟨λus w=>∃(i:Nat) (u:Ε),us=[u,Γ i]/\i<=L.length/\SL W (oL u (iW (L.take i))::oL v L::F) w,λus _=>match us with|[_,.int _ i]=>(L.length-i).toNat|_=>0,⟨0,Θ,rfl,by omega,hS⟩,?_⟩;clear hS;rintro v3 v8 w ⟨i,u,cP,hi,hS⟩;cases cP;refine bZ (λh=>?_) (λh=>?_)
 ·have cz:i<L.length:=by omega
  have hx:L[i]?=some L[i]:=zzc cz;have fh:=cny cz;have hle:=J_ L i;refine zT hS (v:=v) (t:=98) Xh nK hx cz ?_;generalize L[i]=r at *
  refine Gb λxb w hS=>?_;refine zt (λhd=>?_) (λhd=>?_)
  ·rw[zzd hd]at fh
   refine zA hS Xh rfl ?_;refine Gm λyb w hS=>?_;refine yx (n:=(iW (L.take i)).length) (xs:=iW (L.take i)) (y:=r) (enc:=iI) hS Xr Xh nK EO rfl (by omega) (by omega) λv2 w hS=>?_;have hS:=hS.p8 (x:=r);rw[<- fh]at hS
   refine Gp ?_;exact⟨⟨i+1,v2,rfl,by omega,aW hS⟩,by dsimp only;omega⟩
  rw[zzb (by simp[hd]),zz1]at fh
  rw[<- fh]at hS
  refine Gp ?_;exact⟨⟨i+1,v3,rfl,by omega,aW hS⟩,by dsimp only;omega⟩
 rw[zz6 (by omega)]at hS
 exact⟨_,rfl,aW hS⟩
abbrev jq(sp mp wp gp:Nat)(n:Int):Ξ:=[cG sp,cG mp,cG wp,cG gp,Γ n]
def Q2(sp mp wp:Nat)(H:bw)(m:dD)(n:Int):SP 150 [cG sp,cG mp,Γ n] [.ob (cW mp wp H m)] (λv post=>(¬(1<=n/\n<=64)/\v= .tuple #[.pointer none,Γ 1]/\post=[.ob (cW mp wp H m)]) \/
  ((1<=n/\n<=64)/\∃pp gp:Nat,v= .tuple #[cG pp,Γ 0]/\post=[.pt pp (jq sp mp wp gp n) 208,.ob (fw gp wP),.ob (cW mp wp H m)])):=by
 refine Enzz λW F w hS=>?_;apply cFh;delta Mf aI bV ai cT;refine Gp ?_;refine za (λh=>⟨_,.inl ⟨by omega,rfl,rfl⟩,hS⟩) (λh1=>?_);refine Gp ?_;refine za (λh=>⟨_,.inl ⟨by omega,rfl,rfl⟩,hS⟩) (λh2=>?_);obtain⟨rv,hr,hS⟩:=cW.iff.1 hS;refine Gp ?_;refine yG (vs:=[cG wp]) hS Xh rfl (λj v e=>by
  match j,e with
  | 0,e=>exact e) ?_
 refine Cg (YH wp) λw hS=>?_;refine Cc (bwi) ?_;clear hS;rintro _ post ⟨gp,rfl,rfl⟩ w hS;(try simp only[app]at hS);refine Gp ?_
 refine⟨_,rfl,zC hS λpp w hS=>?_⟩;have hS:=cW.put m rv hr hS Xp;exact⟨_,.inr ⟨by omega,pp,gp,rfl,rfl⟩,aW hS⟩
def Zo(sp mp wp pp gp:Nat)(n:Int)(H:bw)(m:dD)(hn:m.reqs.length<=1000):SP 64 [cG pp] [.pt pp (jq sp mp wp gp n) 208,.ob (cW mp wp H m),.mem H] (cE (.bool (DP m)) [.pt pp (jq sp mp wp gp n) 208,.ob (cW mp wp H m),.mem H]):=by
 refine Enzz λW F w hS=>?_;apply cLf;delta PG aI bU bY ai;unfold DP;refine Gp ?_;obtain⟨rv,hr,hS⟩:=cW.iff.1 (SL.b_ hS (t:=.ob (cW mp wp H m)::.pt pp (jq sp mp wp gp n) 208::.mem H::F) Xi);refine Cg (yY wp m.cB) λw hS=>?_;have hS:=cW.put m rv hr hS Xp;refine za (λh=>?_) (λh1=>?_)
 ·rw[zzm (.inl h)];exact cC hS
 refine bZ (λh=>?_) (λh2=>?_)
 ·rw[zzm (.inr (.inl h))];exact cC hS
 refine bZ (λh3=>?_) (λh3=>?_)
 ·refine Gp ?_;refine Cc (yw mp wp H m hn) ?_;clear hS;rintro u post rfl w hS;try simp only[app]at hS
  refine Cc (yV u m.reqs hn) ?_;clear hS;rintro u2 post rfl w hS;try simp only[app]at hS
  refine zu hS (v:=u2) (t:=98) (sz:=7) (n:=(iW m.reqs).length) (cells:=((iW m.reqs).map iI).flatten) Xh ?_;refine Gp ?_;have e:decide (m.cB.state=1\/m.cB.state=2\/m.cB.state=0/\iW m.reqs≠[])=decide ((0:Int)<((iW m.reqs).length:Int)):=by
   rw[yyi];constructor
   ·rintro (h|h|h)
    ·exact absurd h h1
    ·exact absurd h h2
    have:=xx9.2 h.2;omega
   intro h;exact .inr (.inr ⟨h3,λe=>by rw[e]at h;simp at h⟩)
  rw[e];exact cC hS
 rw[zz2 (λh=>h.elim h1 (λh=>h.elim h2 (λh=>h3 h.1)))];exact cC hS
def a_u(d:dB)(id:Int):(d.del id).l.length<=d.l.length:=by
 unfold dB.del;split
 ·exact zzj _
 exact List.length_eraseIdx_le ..
def a_s(d:dB)(id w:Int):(d.add id w).l.length<=d.l.length+1:=by
 unfold dB.add;split
 ·omega
 split
 ·omega
 simp
def EJ:∀(L:List Rq) (d:dB),(L.foldl (λd r=>d.del r.id) d).l.length<=d.l.length
 | [],d=>zzj _
 | r::L,d=>yy2 (EJ L (d.del r.id)) (a_u d r.id)
def Hu:∀(L:List Rq) (d:dB),(L.foldl (λd r=>d.add r.id r.weight) d).l.length<=d.l.length+L.length
 | [],d=>zzj _
 | r::L,d=>by
  have h1:=Hu L (d.add r.id r.weight);have h2:=a_s d r.id r.weight;rw[xxo,zzi];omega
def bwl{L:List Rq}{i:Nat}(h:i<L.length):(L.take (i+1)).filter (·.done)=(L.take i).filter (·.done)++(if L[i].done=true then [L[i]] else []):=by
 rw[zze h,yyv,xx3];cases L[i].done<;>simp
def Q3(sp mp wp pp gp:Nat)(n:Int)(H:bw)(m:dD)(d:dB)(hn:m.reqs.length<=64)(hd:d.l.length<=500):SP 229 [cG pp] [.pt pp (jq sp mp wp gp n) 208,.ob (fw gp d),.ob (cW mp wp H m),.mem H] (λv post=>post=[.pt pp (jq sp mp wp gp n) 208,.ob (fw gp (mo d m.reqs)),.ob (cW mp wp H m),.mem H]):=by
 refine Enzz λW F w hS=>?_;apply cHm;delta Nx aI bU a_ ai;refine Gp ?_;refine Cc (yw mp wp H m (by omega)) ?_;clear hS;rintro u post rfl w hS;try simp only[app]at hS
 refine zu hS (v:=u) (t:=98) (sz:=7) (n:=m.reqs.length) (cells:=(m.reqs.map iI).flatten) Xh ?_;refine⟨λus w=>∃i:Nat,us=[Γ i]/\i<=m.reqs.length/\SL W (.ob (fw gp (((m.reqs.take i).filter (·.done)).foldl (λd r=>d.del r.id) d))::oL u m.reqs::.ob (cW mp wp H m)::.mem H::.pt pp (jq sp mp wp gp n) 208::F) w,λus _=>match us with|[.int _ i]=>(m.reqs.length-i).toNat|_=>0,⟨0,rfl,by omega,SL.b_ hS (t:=.ob (fw gp d)::oL u m.reqs::.ob (cW mp wp H m)::.mem H::.pt pp (jq sp mp wp gp n) 208::F) Xi⟩,?_⟩;clear hS;rintro v12 w ⟨i,cP,hi,hS⟩;cases cP;refine bZ (λh=>?_) (λh=>?_)
 ·have cz:i<m.reqs.length:=by omega
  have hx:m.reqs[i]?=some m.reqs[i]:=zzc cz;have fh:=bwl cz;have hle:=EJ ((m.reqs.take i).filter (·.done)) d;refine zT hS (v:=u) (t:=98) Xh nK hx cz ?_;generalize m.reqs[i]=r at *
  refine Gb λxb w hS=>?_;refine yT (λhq=>?_) (λhq=>?_)
  ·rw[zzd hq]at fh
   refine Gn λw hS=>?_;refine Cc (a_v gp (((m.reqs.take i).filter (·.done)).foldl (λd r=>d.del r.id) d) r.id (by omega)) ?_;clear hS;rintro _ post ⟨⟨e,rfl⟩,rfl⟩ w hS;(try simp only[app]at hS);refine Gp ?_
   refine⟨⟨i+1,rfl,by omega,?_⟩,by dsimp only;omega⟩;rw[fh,ww3];exact SL.b_ hS (t:=.ob (fw gp ((((m.reqs.take i).filter (·.done)).foldl (λd r=>d.del r.id) d).del r.id))::oL u m.reqs::.ob (cW mp wp H m)::.mem H::.pt pp (jq sp mp wp gp n) 208::F) Xi
  rw[zzb (by simp[hq]),zz1]at fh
  rw[<- fh]at hS
  refine Gp ?_;exact⟨⟨i+1,rfl,by omega,aW hS⟩,by dsimp only;omega⟩
 rw[zz6 (by omega)]at hS
 have rC:mo d m.reqs=(iW m.reqs).foldl (λd r=>d.add r.id r.weight) ((m.reqs.filter (·.done)).foldl (λd r=>d.del r.id) d):=rfl;have pd:=EJ (m.reqs.filter (·.done)) d;rw[rC];generalize (m.reqs.filter (·.done)).foldl (λd r=>d.del r.id) d=d1 at *
 refine Gp ?_;refine Cc (yw mp wp H m (by omega)) ?_;clear hS;rintro u1 post rfl w hS;try simp only[app]at hS
 refine Cc (yV u1 m.reqs (by omega)) ?_;clear hS;rintro u2 post rfl w hS;try simp only[app]at hS
 have xI:(iW m.reqs).length<=64:=by
  have:=J_ m.reqs m.reqs.length;rw[zz4]at this;omega
 generalize iW m.reqs=L at *
 refine zu hS (v:=u2) (t:=98) (sz:=7) (n:=L.length) (cells:=(L.map iI).flatten) Xh ?_;refine⟨λus w=>∃i:Nat,us=[Γ i]/\i<=L.length/\SL W (.ob (fw gp ((L.take i).foldl (λd r=>d.add r.id r.weight) d1))::oL u2 L::.ob (cW mp wp H m)::.mem H::.pt pp (jq sp mp wp gp n) 208::F) w,λus _=>match us with|[.int _ i]=>(L.length-i).toNat|_=>0,⟨0,rfl,by omega,SL.b_ hS (t:=.ob (fw gp d1)::oL u2 L::.ob (cW mp wp H m)::.mem H::.pt pp (jq sp mp wp gp n) 208::F) Xi⟩,?_⟩;clear hS;rintro v33 w ⟨i,cP,hi,hS⟩;cases cP;refine bZ (λh=>?_) (λh=>?_)
 ·have cz:i<L.length:=by omega
  have hx:L[i]?=some L[i]:=zzc cz;have fS:L.take (i+1)=L.take i++[L[i]]:=zze cz;have hle:=Hu (L.take i) d1;rw[zzg]at hle
  refine zT hS (v:=u2) (t:=98) Xh nK hx cz ?_;generalize L[i]=r at *
  refine Gb λxb w hS=>?_;refine Cc (a_t gp ((L.take i).foldl (λd r=>d.add r.id r.weight) d1) r.id r.weight (by omega)) ?_;clear hS;rintro _ post ⟨⟨e,rfl⟩,rfl⟩ w hS;(try simp only[app]at hS);refine Gp ?_
  refine⟨⟨i+1,rfl,by omega,?_⟩,by dsimp only;omega⟩;rw[fS,ww3];exact SL.b_ hS (t:=.ob (fw gp (((L.take i).foldl (λd r=>d.add r.id r.weight) d1).add r.id r.weight))::oL u2 L::.ob (cW mp wp H m)::.mem H::.pt pp (jq sp mp wp gp n) 208::F) Xi
 rw[zz6 (by omega)]at hS
 exact⟨_,rfl,aW hS⟩
structure eW.Ok(p:eW):Prop where
 m:p.m.Ok
 d:p.d.Ok
 dl:p.d.l.length<=64
 src:∃N,jy p.k N/\N<=900000000
 n:1<=p.n/\p.n<=64
 row:(mo p.d p.m.reqs).Ok
 id : -9223372036854775808<=p.m.cB.id/\p.m.cB.id<=9223372036854775807
abbrev Ee(sp tp dp lp mp wp pp gp:Nat)(H:bw)(p:eW):Β:=[.pt pp (jq sp mp wp gp p.n) 208,.ob (fw gp p.d),.ob (cW mp wp H p.m),.ob (df sp tp dp lp p.k),.ob (bX dp p.k.d),.mem H]
def Ef(sp tp dp lp mp wp pp gp:Nat)(H:bw)(y:eW × (Int × Int))(v:Ε)(post:Β):Prop:=∃H',H.le H'/\v= .tuple #[Γ y.2.1,Γ y.2.2]/\post=Ee sp tp dp lp mp wp pp gp H' y.1
def Q1(sp tp dp lp mp wp pp gp:Nat)(H:bw)(p:eW)(hp:p.Ok)(dV:p.k.d.ops<=90000):SP 170 [cG pp] (Ee sp tp dp lp mp wp pp gp H p) (Ef sp tp dp lp mp wp pp gp H p.uQ):=by
 refine Enzz λW F w hS=>?_;apply cF2;delta MA aI bU a_ cL ai;obtain⟨N,hk,hN⟩:=hp.src;have Dj:=hp.m.reqs.1;have pd:=hp.dl;have rC:=hp.row;have hd0:=sB hk.g.ok.bF;have Fx:=hk.g.hd;refine Cc (Q3 sp mp wp pp gp p.n H p.m p.d Dj (by omega)) ?_;clear hS;rintro _ post rfl w hS;(try simp only[app]at hS);refine Gp ?_
 have uJ:(mo p.d p.m.reqs).l.length<=1000:=by
  have h1:=Hu (iW p.m.reqs) ((p.m.reqs.filter (·.done)).foldl (λd r=>d.del r.id) p.d);have h2:=EJ (p.m.reqs.filter (·.done)) p.d;have h3:=J_ p.m.reqs p.m.reqs.length;rw[zz4]at h3
  unfold mo;omega
 unfold eW.uQ;generalize hx:mo p.d p.m.reqs=d1 at *
 refine Cg (Qs gp d1 rC uJ) λw hS=>?_;refine Cc (yw mp wp H p.m (by omega)) ?_;clear hS;rintro u post rfl w hS;try simp only[app]at hS
 have fu:∀{w:Ζ},uU p.m.reqs d1.next.2=none->SL W (.pt pp (jq sp mp wp gp p.n) 208::.ob (fw gp d1.next.1)::.ob (cW mp wp H p.m)::.ob (df sp tp dp lp p.k)::.ob (bX dp p.k.d)::.mem H::F) w->∃post,Ef sp tp dp lp mp wp pp gp H (p.uR d1.next) (.tuple #[Γ 0,Γ 0]) post/\SL W (app post F) w:=λe hS=>by
  rw[show p.uR d1.next=({p with d:=d1.next.1},(0,0)) by unfold eW.uR;rw[e]];exact⟨_,⟨H,bw.le_refl H,rfl,rfl⟩,hS⟩
 refine Gp ?_;refine zt (λhq=>?_) (λhq=>?_)
 ·refine fu ?_ (aW hS);have he:d1.l=[]:=Decidable.of_not_not (yy0 hq);unfold dB.next uU;rw[zzd he];rfl
 have dQ:d1.l≠[]:=zzp hq;refine zu hS (v:=u) (t:=98) (sz:=7) (n:=p.m.reqs.length) (cells:=(p.m.reqs.map iI).flatten) Xh ?_;refine Gp ?_;have hid:1<=d1.next.2:=by
  unfold dB.next;rw[zzb dQ];have dW:0<=d1.place/\d1.place<d1.l.length:=by
   have:=rC.neg;have:=rC.l4;have:=rC.oP;have:0<d1.l.length:=xx9.2 dQ;unfold dB.place;split
   ·split<;>omega
   omega
  have hm:d1.ml∈d1.l:=by
   unfold dB.ml;rw[zzc (show d1.place.toNat<d1.l.length by omega)];exact zzh _
  exact (rC.w _ hm).1
 refine za (λh=>fu (by unfold uU;rw[zzb (by omega),yys (by omega)]) (aW hS)) (λh=>?_);clear fu;obtain⟨j,hj⟩:∃j:Nat,d1.next.2=(j:Int)+1:=⟨(d1.next.2-1).toNat,by omega⟩;have gS:j<p.m.reqs.length:=by omega
 have lK:uU p.m.reqs d1.next.2=some p.m.reqs[j]:=by
  unfold uU;rw[zzb (by omega),hj,show ((j:Int)+1-1).toNat=j by omega,zzc gS]
 rw[show p.uR d1.next=({p with d:=d1.next.1}:eW).Bv p.m.reqs[j] by unfold eW.uR;rw[lK]];unfold eW.Bv;clear lK;rw[hj];generalize d1.next.1=d2 at hS ⊢;refine Gp ?_;refine Cg (zE sp tp dp lp p.k hk.g (by omega)) λw hS=>?_;refine Cg (Yh sp tp dp lp p.k H 2 (cI p.k.g.bF+1) hk (by omega) dV) λw hS=>?_;generalize p.k.j9 2 (cI p.k.g.bF+1)=y at hS ⊢;obtain⟨k',a,e⟩:=y;simp only at hS ⊢;refine za (λhe=>?_) (λhe=>?_)
 ·rw[zzd he];exact⟨_,⟨H,bw.le_refl H,rfl,rfl⟩,aW hS⟩
 rw[zzb he];refine Gp ?_;rw[show ((j:Int)+1-1)=(j:Int) by omega];refine zT hS (v:=u) (t:=98) Xh nK (zzc gS) gS ?_;generalize p.m.reqs[j]=r;refine Gb λxb w hS=>?_;obtain⟨rv,hr,hS⟩:=cW.iff.1 (SL.b_ hS (t:=.ob (cW mp wp H p.m)::.pt pp (jq sp mp wp gp p.n) 208::.ob (fw gp d2)::.ob (df sp tp dp lp k')::.ob (bX dp k'.d)::.mem H::F) Xi);refine Cc (cMn wp p.m.cB (cI p.k.g.bF+1) r.id r.table r.dA) ?_;clear hS;rintro _ post ⟨⟨q,rfl⟩,rfl⟩ w hS;try simp only[app]at hS
 have hS:=cW.put (mp:=mp) {p.m with cB:=p.m.cB.tQ (cI p.k.g.bF+1) r.id r.table r.dA} rv hr hS Xp;exact⟨_,⟨H,bw.le_refl H,rfl,rfl⟩,aW hS⟩
def qT(sp tp dp lp mp wp pp gp:Nat)(H:bw)(p:eW)(hp:p.Ok)(dV:p.k.d.ops<=90000):SP 175 [cG pp] (Ee sp tp dp lp mp wp pp gp H p) (Ef sp tp dp lp mp wp pp gp H p.A4):=by
 refine Enzz λW F w hS=>?_;apply cF7;delta MF aI bU aR bV ai;obtain⟨N,hk,hN⟩:=hp.src;refine Gn λw hS=>?_;obtain⟨rv,hr,hS⟩:=cW.iff.1 (SL.b_ hS (t:=.ob (cW mp wp H p.m)::.pt pp (jq sp mp wp gp p.n) 208::.ob (fw gp p.d)::.ob (df sp tp dp lp p.k)::.ob (bX dp p.k.d)::.mem H::F) Xi);refine Cg (cMk wp p.m.cB) λw hS=>?_;unfold eW.A4;refine Cg (Yh sp tp dp lp p.k H 3 p.m.cB.mark hk (by omega) dV) λw hS=>?_;generalize p.k.j9 3 p.m.cB.mark=y at hS ⊢;obtain⟨k',a,e⟩:=y;simp only at hS ⊢;refine za (λhe=>?_) (λhe=>?_)
 ·rw[zzd he];have hS:=cW.put (mp:=mp) p.m rv hr hS Xp;exact⟨_,⟨H,bw.le_refl H,rfl,rfl⟩,aW hS⟩
 rw[zzb he];refine Gp ?_;refine Cc (cMr wp p.m.cB) ?_;clear hS;rintro _ post ⟨⟨q,rfl⟩,rfl⟩ w hS;try simp only[app]at hS
 have hS:=cW.put (mp:=mp) {p.m with cB:=p.m.cB.shut} rv hr hS Xp;exact⟨_,⟨H,bw.le_refl H,rfl,rfl⟩,aW hS⟩
def qU(sp tp dp lp mp wp pp gp:Nat)(H:bw)(p:eW)(hp:p.Ok)(dV:p.k.d.ops<=90000):SP 114 [cG pp] (Ee sp tp dp lp mp wp pp gp H p) (Ef sp tp dp lp mp wp pp gp H p.step):=by
 refine Enzz λW F w hS=>?_;apply cEp;delta LI aI bU aR bV cL ai;obtain⟨N,hk,hN⟩:=hp.src;have Dj:=hp.m.reqs.1;have cOt:=hp.n;unfold eW.step;refine Cg (Zo sp mp wp pp gp p.n H p.m (by omega)) λw hS=>?_;refine zt (λhq=>?_) (λhq=>?_)
 ·rw[zzd hq];exact⟨_,⟨H,bw.le_refl H,rfl,rfl⟩,aW hS⟩
 rw[zzb (by simp[hq])];obtain⟨rv,hr,hS⟩:=cW.iff.1 (SL.b_ hS (t:=.ob (cW mp wp H p.m)::.pt pp (jq sp mp wp gp p.n) 208::.ob (fw gp p.d)::.ob (df sp tp dp lp p.k)::.ob (bX dp p.k.d)::.mem H::F) Xi);refine Gp ?_;refine Cg (yY wp p.m.cB) λw hS=>?_;refine za (λh0=>?_) (λh0=>?_)
 ·rw[zzd h0];have hS:=cW.put (mp:=mp) p.m rv hr hS Xp;refine Cc (Q1 sp tp dp lp mp wp pp gp H p hp dV) ?_;clear hS;rintro _ post ⟨H1,dj,rfl,rfl⟩ w hS;(try simp only[app]at hS);refine Gp ?_
  exact⟨_,⟨H1,dj,rfl,rfl⟩,aW hS⟩
 rw[zzb h0];refine bZ (λh1=>?_) (λh1=>?_)
 ·rw[zzd h1];refine Gn λw hS=>?_;refine Cg (q5 wp p.m.cB) λw hS=>?_;refine Cg (qY wp p.m.cB) λw hS=>?_;refine Cc (qS sp tp dp lp p.k p.m.cB.table p.m.cB.after p.n (λC hC=>by have:=hk.len C hC;omega) (λC hC=>(hk.rows C hC).sorted) (by omega) (by omega)) ?_;clear hS;rintro u post rfl w hS;try simp only[app]at hS
  obtain⟨H1,dj,hR,hS⟩:=zz (H:=H) (v:=u) hS Xp;have mZ:(p.k.wL p.m.cB.table p.m.cB.after p.n).length<=64:=by
   unfold cN.wL od;rw[zzg];omega
  generalize p.k.wL p.m.cB.table p.m.cB.after p.n=C at hR mZ ⊢;refine Gp ?_;refine Cc (cMg wp p.m.cB H1 u C hR (by omega)) ?_;clear hS;rintro _ post ⟨⟨q,rfl⟩,rfl⟩ w hS;try simp only[app]at hS
  have hS:=cW.put (mp:=mp) {p.m with cB:=p.m.cB.fill C} rv (hr.mono dj) hS Xp;exact⟨_,⟨H1,dj,rfl,rfl⟩,aW hS⟩
 rw[zzb h1];have hS:=cW.put (mp:=mp) p.m rv hr hS Xp;refine Cc (qT sp tp dp lp mp wp pp gp H p hp dV) ?_;clear hS;rintro _ post ⟨H1,dj,rfl,rfl⟩ w hS;(try simp only[app]at hS);refine Gp ?_
 exact⟨_,⟨H1,dj,rfl,rfl⟩,aW hS⟩
def Z'(dp:Nat)(d:DS)(H:bw)(n:Nat)(f:Int)(r:Ε)(post:Β):Prop:=∃H',H.le H'/\post=[.ob (bX dp d),.mem H']/\match iK d.R n f with
 | none=>∃a b,r= .tuple #[a,b,.bool false]
 | some y=>∃v,u9 H' v y.2/\r= .tuple #[Γ y.1,v,.bool true]
def bI9(dp:Nat)(d:DS)(H:bw)(n:Nat)(f:Int){N:Nat}(cH:d.Ok N)(hN:N<=140737488355328):
  SP 198 [cG dp,Γ f,Γ (n:Nat)] [.ob (bX dp d),.mem H] (Z' dp d H n f):=by
 refine Enzz λW F w hS=>?_;apply cGr;delta M0 aI cL ai bI;refine Cc (Z9 dp d N cH hN f) ?_;clear hS;rintro r post hq w hS;unfold B' at hq;cases hg:dK PF.id d.R f with
 | none=>
  rw[hg]at hq
  obtain⟨rfl,rfl⟩:=hq;have hi:iK d.R n f=none:=by unfold iK;rw[hg]
  (try simp only[app]at hS);refine Gp ?_
  refine zq ?_;refine⟨[.ob (bX dp d),.mem H],⟨H,bw.le_refl H,rfl,?_⟩,aW hS⟩;rw[hi];exact⟨_,_,rfl⟩
 | some x=>
  rw[hg]at hq
  obtain⟨u,rfl,rfl⟩:=hq;have j7:=cH.len x (uq hg).1;(try simp only[app]at hS);refine Gp ?_
  refine zp ?_;refine Cc (qF (.ob (bR u 5 1 x.b.length (x.b.map cX))) H u x.b dS.own (by omega)) ?_;clear hS;rintro r post hq w hS;unfold BX at hq;cases hd:ky x.b with
  | none=>
   rw[hd]at hq
   obtain⟨rfl,H',hh,rfl⟩:=hq;have hi:iK d.R n f=none:=by unfold iK;rw[hg];simp only;rw[hd]
   (try simp only[app]at hS);refine Gp ?_
   refine za (λh=>absurd h (by decide)) (λ_=>?_);refine⟨[.ob (bX dp d),.mem H'],⟨H',hh,rfl,?_⟩,aW hS⟩;rw[hi];exact⟨_,_,rfl⟩
  | some y=>
   rw[hd]at hq
   obtain⟨v,H',hh,hT,rfl,rfl⟩:=hq;have hi:iK d.R n f=if y.2.length=n then some y else none:=by unfold iK;rw[hg];simp only;rw[hd]
   (try simp only[app]at hS);refine Gp ?_
   refine za (λ_=>?_) (λh=>absurd rfl h);refine yQ hT ?_;refine Gp ?_;refine⟨[.ob (bX dp d),.mem H'],⟨H',hh,rfl,?_⟩,aW hS⟩;rw[hi];by_cases hl:y.2.length=n
   ·rw[zzd hl,zzm (by omega)];exact⟨v,hT,rfl⟩
   rw[zzb hl,zz2 (by omega)];exact⟨_,_,rfl⟩
def loadAt(R:List PF)(n:Nat)(x:rV):Nat->rV
 | 0=>x
 | 1=>gw R n 0 x
 | _=>gw R n 1 (gw R n 0 x)
def FU{R:List PF}{n:Nat}{f:Int}{y:Int × iN}(h:iK R n f=some y):jd y.1 y.2=true/\y.2.length=n:=by
 unfold iK at h;split at h
 ·cases h
 split at h
 ·cases h
 rename_i hd;split at h
 ·rename_i hl;cases h;exact⟨a_2 hd,hl⟩
 cases h
def cBf{α:Type}{l m:List α}{i:Nat}(hi:i<l.length)(h:m.length=l.length):(l.take i++m.drop i).set i l[i]=l.take (i+1)++m.drop (i+1):=by
 rw[vvv _ _ (by rw[zzg];omega),zzg,show i-min i l.length=0 by omega,yyq (by omega:i<m.length),List.set_cons_zero,zze hi,zzk];rfl
def bY4{R:List PF}{n:Nat}{x:rV}{j:Nat}(h:j<=1):loadAt R n x (j+1)=gw R n j (loadAt R n x j):=by
 match j,h with
 | 0,_=>rfl
 | 1,_=>rfl
def Ve{R:List PF}{n:Nat}{f:Int}{x:rV}(h:x.2.2.length=n):(gw R n f x).2.2.length=n:=by
 unfold gw;cases hi:iK R n f with
 | none=>exact h
 | some y=>
  simp only;split
  ·exact h
  exact (FU hi).2
def bY3{R:List PF}{n:Nat}{f:Int}{x:rV}(h:0<=x.2.1/\x.2.1<=1099511627776):0<=(gw R n f x).2.1/\(gw R n f x).2.1<=1099511627776:=by
 unfold gw;cases hi:iK R n f with
 | none=>exact h
 | some y=>
  simp only;split
  ·exact h
  have:=(sM.1 (FU hi).1).1;exact⟨this.1,this.2.1⟩
def bZb(sp tp dp lp:Nat)(d:DS)(H:bw)(x0:rV)(n:Nat)(Uy:x0.2.2.length=n)(h8:n<=8){N:Nat}(cH:d.Ok N)(hN:N<=140737488355328):
  SP 139 [cG sp] [.pt sp (mr tp dp lp x0.1 x0.2.1) 156,.ob (dN tp x0.2.2),.ob (bX dp d),.mem H] (λ_ post=>∃H',H.le H'/\post=[.pt sp (mr tp dp lp (gw d.R n 1 (gw d.R n 0 x0)).1 (gw d.R n 1 (gw d.R n 0 x0)).2.1) 156,.ob (dN tp (gw d.R n 1 (gw d.R n 0 x0)).2.2),.ob (bX dp d),.mem H']):=by
 refine Enzz λW F w hS=>?_;apply cE5;delta LZ aI bU cV aR bV cL ai;refine⟨λus w=>∃(j:Nat) (H':bw),us=[Γ j]/\j<=2/\H.le H'/\(loadAt d.R n x0 j).2.2.length=n/\SL W (.pt sp (mr tp dp lp (loadAt d.R n x0 j).1 (loadAt d.R n x0 j).2.1) 156::.ob (dN tp (loadAt d.R n x0 j).2.2)::.ob (bX dp d)::.mem H'::F) w,
  λus _=>match us with|[.int _ i]=>(2-i).toNat|_=>0,⟨0,H,rfl,by omega,bw.le_refl H,Uy,hS⟩,?_⟩
 clear hS;rintro v2 w ⟨j,H',cP,hj,hh,j7,hS⟩;cases cP;refine bZ (λh=>?_) (λh=>?_)
 ·have C5:j<=1:=by omega
  have ll:=bY4 (R:=d.R) (n:=n) (x:=x0) C5;have gH:∀{w:Ζ} {H2:bw} (y:rV),gw d.R n j (loadAt d.R n x0 j)=y->H.le H2->SL W (.pt sp (mr tp dp lp y.1 y.2.1) 156::.ob (dN tp y.2.2)::.ob (bX dp d)::.mem H2::F) w ->
    ∃(j':Nat) (H':bw),[Γ ((j+1:Nat):Int)]=[Γ j']/\j'<=2/\H.le H'/\(loadAt d.R n x0 j').2.2.length=n/\SL W (.pt sp (mr tp dp lp (loadAt d.R n x0 j').1 (loadAt d.R n x0 j').2.1) 156::.ob (dN tp (loadAt d.R n x0 j').2.2)::.ob (bX dp d)::.mem H'::F) w:=λy hy e_ hS=>by
   refine⟨j+1,_,rfl,by omega,e_,?_,?_⟩
   ·rw[ll];exact Ve j7
   rw[ll,hy];exact hS
  generalize hx:loadAt d.R n x0 j=x at *
  refine Gn λw hS=>?_;refine Cg (yr tp x.2.2) λw hS=>?_;refine Cc (bI9 dp d H' x.2.2.length j cH hN) ?_;clear hS;rintro r post ⟨H2,dU,rfl,hq⟩ w hS;try simp only[app]at hS
  rw[j7]at hq
  have e_:=bw.le_trans hh dU;cases hi:iK d.R n j with
  | none=>
   rw[hi]at hq
   obtain⟨a,b,rfl⟩:=hq;refine Gp ?_;refine⟨λus w=>False,?_,λw h=>h.elim⟩;refine z7 (zq ?_);refine Gp ?_;exact⟨gH x (by unfold gw;rw[hi]) e_ (aW hS),by dsimp only;omega⟩
  | some y=>
   rw[hi]at hq
   obtain⟨v,hT,rfl⟩:=hq;obtain⟨j6,FQ⟩:=FU hi;have tq:=(sM.1 j6).2;refine Gp ?_;refine⟨λus w=>us=[]/\¬(0<=x.1/\y.1<=x.2.1)/\SL W (.pt sp (mr tp dp lp x.1 x.2.1) 156::.ob (dN tp x.2.2)::.ob (bX dp d)::.mem H2::F) w,?_,?_⟩
   ·refine z7 (zp ?_);refine bZ (λh0=>?_) (λh0=>?_)
    ·refine bZ (λh1=>?_) (λh1=>?_)
     ·refine Gp ?_;exact⟨gH x (by unfold gw;rw[hi];simp only;rw[zzd ⟨h0,h1⟩]) e_ (aW hS),by dsimp only;omega⟩
     exact⟨rfl,λh=>h1 h.2,aW hS⟩
    exact⟨rfl,λh=>h0 h.1,aW hS⟩
   clear hS;rintro w ⟨-,hc,hS⟩;refine Gn λw hS=>?_;refine yQ hT ?_;have hS:SL W (_::.ob (dN tp (y.2.take 0++x.2.2.drop 0))::_) _:=hS;refine⟨λus w=>∃i:Nat,us=[Γ i]/\i<=y.2.length/\SL W (.ob (dN tp (y.2.take i++x.2.2.drop i))::.pt sp (mr tp dp lp j y.1) 156::.ob (bX dp d)::.mem H2::F) w,
    λus _=>match us with|[.int _ i]=>(y.2.length-i).toNat|_=>0,⟨0,rfl,by omega,aW hS⟩,?_⟩
   clear hS;rintro v54 w ⟨i,cP,cz,hS⟩;cases cP;refine bZ (λh=>?_) (λh=>?_)
   ·have cz:i<y.2.length:=by omega
    have pf:=cBf (m:=x.2.2) cz (by omega);have mh:i<(y.2.take i++x.2.2.drop i).length:=by rw[zza,zzg,zzq];omega
    have Ti:=tq _ (zzh cz);refine Y1 hS Xh hT cz λu hu=>?_;generalize y.2[i]=C at *
    generalize y.2.take i++x.2.2.drop i=T at *
    refine Gp ?_;refine Cg (cDk tp T H2 u i C mh hu Ti.sorted (by have:=Ti.len;omega)) λw hS=>?_;refine⟨⟨i+1,rfl,by omega,?_⟩,by dsimp only;omega⟩;rw[<- pf];exact aW hS
   obtain rfl:i=y.2.length:=by omega
   rw[zz4,yy6 (by omega),zz1]at hS
   refine Gp ?_;exact⟨gH (j,y.1,y.2) (by unfold gw;rw[hi];simp only;rw[zzb hc]) e_ (aW hS),by dsimp only;omega⟩
 obtain rfl:j=2:=by omega
 exact⟨_,⟨H',hh,rfl⟩,hS⟩
def cN.lT(k:cN):Option iN:=match oI k.ts.length k.image (cR k.g.bF) (fj k.g.bF) k.ts with
 | none=>none
 | some ts=>if k.image<=cI k.g.bF/\fj k.g.bF<=k.image+1 then some ts else none
def bFk{L:List c_}(h:iT L):cI L-fj L+1=((cR L).length:Int):=by
 by_cases hL:L=[]
 ·subst hL;rfl
 rw[h.head hL];omega
def bZd{L:List c_}{N:Nat}(h:∀s∈L,kY s N):1<=fj L/\fj L<=1099511627776:=by
 cases L with
 | nil=>exact⟨yyf _,by show (1:Int)<=_;decide⟩
 | cons s r=>exact⟨(h s (.head _)).n0,(h s (.head _)).n1⟩
def cze{n:Nat}{image:Int}{b:Φ}{r:List Φ}{aw:Int}{ts:iN}:oI n image (b::r) aw ts=match lH b with
  | .error _=>none
  | .ok t=>if t.aw=aw/\(∀c∈t.changes,c.table<(n:Int)) then oI n image r (aw+1) (if image<aw then fV ts t.changes else ts) else none:=rfl
def czg(sp tp dp lp:Nat)(H:bw)(k:cN){N:Nat}(hg:iu k.g N)(hN:N<=1000000000)(hs:∀C∈k.ts,gg C){L0:Nat}(hn:∀C∈k.ts,C.length<=L0)(hL:L0+16*(cR k.g.bF).length<=900000)(lJ:0<=k.image/\k.image<=1099511627776):
  SP 140 [cG sp] [.ob (df sp tp dp lp k),.mem H] (λv post=>∃H',H.le H'/\match k.lT with
   | none=>v= .bool false/\post=[.mem H']
   | some ts=>v= .bool true/\post=[.ob (df sp tp dp lp {k with ts:=ts}),.mem H']):=by
 refine Enzz λW F w hS=>?_;apply cE7;delta L4 aI bU a_ aR bV cL bY ai bI;have hF:∀{w:Ζ} {H':bw},k.lT=none->H.le H'->SL W (.mem H'::F) w->∃post,(∃H',H.le H'/\match k.lT with
   | none=>(.bool false:Ε)= .bool false/\post=[.mem H']
   | some ts=>(.bool false:Ε)= .bool true/\post=[.ob (df sp tp dp lp {k with ts:=ts}),.mem H'])/\SL W (app post F) w:=λhr hh hS=>by
  rw[hr];exact⟨[.mem _],⟨_,hh,rfl,rfl⟩,hS⟩
 have sy:=bFk hg.seq;have ry:=bZd hg.ok.bF;have nM:=hg.hd;refine Cg (ZA sp tp dp lp k hg hN) λw hS=>?_;refine⟨λus w=>∃(i:Nat) (T:iN) (H2:bw),us=[Γ (fj k.g.bF+i)]/\i<=(cR k.g.bF).length/\oI k.ts.length k.image (cR k.g.bF) (fj k.g.bF) k.ts=oI k.ts.length k.image ((cR k.g.bF).drop i) (fj k.g.bF+i) T/\T.length=k.ts.length/\(∀C∈T,gg C)/\(∀C∈T,C.length<=L0+16*i)/\H.le H2/\SL W (.ob (df sp tp dp lp {k with ts:=T})::.mem H2::F) w,
  λus _=>match us with|[.int _ i]=>(cI k.g.bF+1-i).toNat|_=>0,⟨0,k.ts,H,by simp,by omega,by simp,rfl,hs,by simpa using hn,bw.le_refl H,aW hS⟩,?_⟩
 clear hS;rintro v3 w ⟨i,T,H2,cP,hi,dJ,vz,tq,xj,hh,hS⟩;cases cP;refine Cg (zE sp tp dp lp {k with ts:=T} hg hN) λw hS=>?_;refine za (λh=>?_) (λh=>?_)
 ·have h:fj k.g.bF+i<=cI k.g.bF:=h;have cz:i<(cR k.g.bF).length:=by omega
  have Dk:=hg.seq.read i;rw[zzc cz]at Dk
  rw[yyq cz,cze]at dJ
  generalize (cR k.g.bF)[i]=bs at *
  have kB:1<=fj k.g.bF+i/\fj k.g.bF+i<=1099511627776:=by omega
  generalize hlq:fj k.g.bF+i=aw at *
  have uI:(match lH bs with
   | .error _=>none
   | .ok t=>if t.aw=aw/\(∀c∈t.changes,c.table<(k.ts.length:Int)) then oI k.ts.length k.image ((cR k.g.bF).drop (i+1)) (aw+1) (if k.image<aw then fV T t.changes else T) else none)=none->k.lT=none:=λh=>by unfold cN.lT;rw[dJ,h]
  refine Cc (yR sp tp dp lp {k with ts:=T} hg hN H2 aw (by omega)) ?_;clear hS;rintro r post hq w hS;unfold u_ cN.gX at hq;simp only at hq;rw[Dk]at hq
  simp only at hq;cases hd:lH bs with
  | error e=>
   rw[hd]at hq uI
   obtain⟨dQ,H3,fE,rfl,rfl⟩:=hq;refine Gm λb w hS=>?_;refine za (λ_=>?_) (λh=>absurd dQ h);exact hF (uI rfl) (bw.le_trans hh fE) (aW hS)
  | ok t=>
   rw[hd]at hq uI dJ
   obtain⟨x,H3,fE,rfl,hx,rfl⟩:=hq;have oX:=bw.le_trans hh fE;obtain⟨ht1,FM,ht3,ht4,ht5,Ur,ht7⟩:=mj (HS hd);try simp only[app]at hS
   refine Gp ?_;refine zC hS λxb w hS=>?_;refine zr (vs:=fr x) hS Xu rfl rfl (AJ (aw:=x.aw) (kind:=x.kind) (mark:=x.mark) hx.cv.one hx.sv.one) λw hS=>?_;unfold fr at hS;rw[hx.aw,hx.kind,hx.mark]at hS
   refine Gn λw hS=>?_;refine za (λh=>absurd rfl h) (λ_=>?_);refine bZ (λhl=>?_) (λhl=>?_)
   ·exact hF (uI (by simp only;rw[zzb λh=>hl h.1])) oX (aW hS)
   have hS:=df.iff.1 (SL.b_ hS (t:=.ob (df sp tp dp lp {k with ts:=T})::.pt xb [Γ t.aw,Γ t.kind,x.cv,x.sv,Γ t.mark] 101::.mem H3::F) Xi);refine Gp ?_;refine Cg (yr tp T) λw hS=>?_;refine Cg (ZT H3 x.cv t.changes T.length hx.cv (by omega)) λw hS=>?_;rw[vz];refine zt (λhb=>?_) (λhb=>?_)
   ·have hb:=yy0 hb;exact hF (uI (by simp only;rw[zzb λh=>hb h.2])) oX (aW hS)
   have hb:=zzp hb;have eF:t.changes.all (ij T.length)=true:=zz3.2 λc hc=>zzm ⟨(xZ.1 (Ur c hc)).1,by rw[vz];exact hb c hc⟩;simp only at dJ;rw[zzd (show t.aw=aw/\∀c∈t.changes,c.table<(k.ts.length:Int) from ⟨by omega,hb⟩)]at dJ
   have I5:aw+1=fj k.g.bF+((i+1:Nat):Int):=by omega
   rw[I5]at dJ
   refine bZ (λmH=>?_) (λmH=>?_)
   ·rw[zzd (show k.image<aw by omega)]at dJ
    refine Gn λw hS=>?_;refine Cg (ZL tp T H3 x.cv t.changes hx.cv (by omega) tq (L0+16*i) xj (by omega)) λw hS=>?_;rw[zzd eF]at hS
    rw[I5];refine⟨⟨i+1,fV T t.changes,H3,rfl,by omega,dJ,by rw[ud];exact vz,Et tq λc hc=>zz3.1 eF c hc,λC hC=>?_,oX,SL.b_ (df.put {k with ts:=fV T t.changes} hS Xp) Xi⟩,by dsimp only;omega⟩;have:=Es (L0+16*i) (l:=t.changes) xj (λc hc=>zz3.1 eF c hc) C hC;omega
   rw[zzb (show ¬k.image<aw by omega)]at dJ
   refine Gp ?_;rw[I5];exact⟨⟨i+1,T,H3,rfl,by omega,dJ,vz,tq,λC hC=>by have:=xj C hC;omega,oX,SL.b_ (df.put {k with ts:=T} hS Xp) Xi⟩,by dsimp only;omega⟩
 have h:¬fj k.g.bF+i<=cI k.g.bF:=h;obtain rfl:i=(cR k.g.bF).length:=by omega
 rw[vv3]at dJ
 have dJ:oI k.ts.length k.image (cR k.g.bF) (fj k.g.bF) k.ts=some T:=dJ;have hR:k.lT=if k.image<=cI k.g.bF/\fj k.g.bF<=k.image+1 then some T else none:=by unfold cN.lT;rw[dJ]
 have hS:SL W (.pt sp (mr tp dp lp k.dX k.image) 156::.ob (dN tp T)::.ob (dd lp dp k.g)::_) _:=df.iff.1 hS;refine Gn λw hS=>?_;have hS:=df.put {k with ts:=T} hS Xp;refine Cg (zE sp tp dp lp {k with ts:=T} hg hN) λw hS=>?_;have hS:SL W (.pt sp (mr tp dp lp k.dX k.image) 156::.ob (dN tp T)::.ob (dd lp dp k.g)::_) _:=df.iff.1 hS;refine bZ (λh1=>?_) (λh1=>?_)
 ·have h1:k.image<=cI k.g.bF:=h1;refine Gp ?_;have hS:=df.put {k with ts:=T} hS Xp;refine Cg (ZA sp tp dp lp {k with ts:=T} hg hN) λw hS=>?_;have hS:SL W (.pt sp (mr tp dp lp k.dX k.image) 156::.ob (dN tp T)::.ob (dd lp dp k.g)::_) _:=df.iff.1 hS;refine Gp ?_;have hS:=df.put {k with ts:=T} hS Xp;by_cases h2:fj k.g.bF<=k.image+1
  ·rw[zzm (show fj ({k with ts:=T}:cN).g.bF<=k.image+1 from h2)];refine⟨[.ob (df sp tp dp lp {k with ts:=T}),.mem H2],⟨H2,hh,?_⟩,aW hS⟩;rw[hR,zzd ⟨h1,h2⟩];exact⟨rfl,rfl⟩
  rw[zz2 (show ¬fj ({k with ts:=T}:cN).g.bF<=k.image+1 from h2)];exact hF (by rw[hR,zzb λh=>h2 h.2]) hh (aW hS)
 exact hF (by rw[hR,zzb λh=>h1 h.1]) hh (aW hS)
def GY(dp:Nat)(H:bw)(y:DS × Except Int cN)(r:Ε)(post:Β):Prop:=match y.2 with
 | .error e=>e≠0/\∃H',H.le H'/\r= .tuple #[.pointer none,Γ e]/\post=[.ob (bX dp y.1),.mem H']
 | .ok k=>∃sp tp lp H',H.le H'/\r= .tuple #[cG sp,Γ 0]/\post=[.ob (df sp tp dp lp k),.ob (bX dp y.1),.mem H']
def Vg{R:List PF}{n:Nat}{x:rV}(hx:x.2.2.length=n/\(0<=x.2.1/\x.2.1<=1099511627776)/\∀C∈x.2.2,Ca C)(f:Int):(gw R n f x).2.2.length=n/\(0<=(gw R n f x).2.1/\(gw R n f x).2.1<=1099511627776)/\∀C∈(gw R n f x).2.2,Ca C:=by
 refine⟨Ve hx.1,bY3 hx.2.1,?_⟩;unfold gw;cases hi:iK R n f with
 | none=>exact hx.2.2
 | some y=>
  simp only;split
  ·exact hx.2.2
  exact (sM.1 (FU hi).1).2
def bY8(R:List PF)(n:Nat):(lu R n).2.2.length=n/\(0<=(lu R n).2.1/\(lu R n).2.1<=1099511627776)/\∀C∈(lu R n).2.2,Ca C:=
 Vg (Vg (x:=(-1,0,List.replicate n [])) ⟨xxm,⟨show (0:Int)<=0 by decide,show (0:Int)<=1099511627776 by decide⟩,λC hC=>by rw[(uug.1 hC).2];exact⟨List.Pairwise.nil,by simp,by decide⟩⟩ 0) 1
def cBu(H:bw)(dp:Nat)(d:DS)(cO size:Int){N B:Nat}(cH:d.Ok B)(hB:B<=140737488355328)(hw:p_ d.R 16 N)(hN:N<=900000000)(dV:d.ops<=90000)(hn:∀d' g,eN d 16 size=(d',.ok g)->(cR g.bF).length<=50000):
  SP 96 [cG dp,Γ cO,Γ size] [.ob (bX dp d),.mem H] (GY dp H (kH d cO size)):=by
 refine Enzz λW F w hS=>?_;apply cL2;delta P2 aI cL ai cT;have hR:=cH.DQ;refine Cc (Q5 cO) ?_;clear hS;rintro r post hq w hS;unfold B8 at hq;by_cases ht:cO<1\/8<cO
 ·rw[zzd ht]at hq
  obtain⟨rfl,rfl⟩:=hq;have e:kH d cO size=(d,.error 1):=by unfold kH;rw[zzd ht]
  rw[e];(try simp only[app]at hS);refine Gp ?_
  refine za (λ_=>?_) (λh=>absurd (by decide) h);exact⟨_,⟨by decide,H,bw.le_refl H,rfl,rfl⟩,aW hS⟩
 rw[zzb ht]at hq
 obtain⟨tp,rfl,rfl⟩:=hq;obtain⟨n,rfl⟩:∃n:Nat,cO=n:=⟨cO.toNat,by omega⟩;rw[zzy]at hS
 (try simp only[app]at hS);refine Gp ?_
 refine za (λh=>absurd rfl h) (λ_=>?_);refine Cc (V9 dp d 16 size cH hB hw (by omega) (by omega) (by omega)) ?_;clear hS;rintro r post hq w hS;unfold kH;rw[zzb ht];unfold B9 at hq;have CZ:=Gc (base:=16) (size:=size) cH;cases tE:eN d 16 size with
 | mk d' o=>
  rw[tE]at hq CZ
  cases o with
  | error e=>
   obtain⟨he,rfl,rfl⟩:=hq;(try simp only[app]at hS);refine Gp ?_
   refine za (λ_=>?_) (λh=>absurd he h);exact⟨_,⟨he,H,bw.le_refl H,rfl,rfl⟩,aW hS⟩
  | ok g=>
   obtain⟨lp,rfl,rfl⟩:=hq;have hG:=V8 hw (by omega) tE;have cN9:=hn d' g tE;obtain⟨x1,x2,x3⟩:=bY8 d'.R n;(try simp only[app]at hS);refine Gp ?_
   refine za (λh=>absurd rfl h) (λ_=>?_);refine Gp ?_;refine zw hS λsp w hS=>?_;refine Cc (bZb sp tp dp lp d' H (-1,0,List.replicate n []) n xxm (by omega) CZ hB) ?_;clear hS;rintro _ post ⟨H2,e_,rfl⟩ w hS;try simp only[app]at hS
   have hli:gw d'.R n 1 (gw d'.R n 0 (-1,0,List.replicate n []))=lu d'.R n:=rfl;rw[hli]at hS
   simp only[zzy];generalize lu d'.R n=x at *
   obtain⟨nw,im,ts⟩:=x;simp only at x1 x2 x3 hS ⊢;have hS:=df.eS (d:=d') hS Xp;refine Cc (czg sp tp dp lp H2 ⟨g,d',ts,nw,im⟩ hG (by omega) (λC hC=>(x3 C hC).sorted) (L0:=1000) (λC hC=>(x3 C hC).len) (by show 1000+16*(cR g.bF).length<=900000;omega) x2) ?_;clear hS;rintro r post ⟨H3,fE,hq⟩ w hS;have oX:=bw.le_trans e_ fE;have hK:cN.lT ⟨g,d',ts,nw,im⟩=match oI n im (cR g.bF) (fj g.bF) ts with
    | none=>none
    | some ts=>if im<=cI g.bF/\fj g.bF<=im+1 then some ts else none:=by rw[<- x1];rfl
   rw[hK]at hq
   clear hK;cases hr:oI n im (cR g.bF) (fj g.bF) ts with
   | none=>
    rw[hr]at hq
    obtain⟨rfl,rfl⟩:=hq;try simp only[app]at hS
    refine z7 (zq ?_);exact⟨_,⟨by decide,H3,oX,rfl,rfl⟩,aW hS⟩
   | some ts2=>
    rw[hr]at hq
    simp only at hq;by_cases hc:im<=cI g.bF/\fj g.bF<=im+1
    ·rw[zzd hc]at hq
     obtain⟨rfl,rfl⟩:=hq;try simp only[app]at hS
     refine z7 (zp ?_);simp only;rw[zzd hc];exact⟨_,⟨sp,tp,lp,H3,oX,rfl,rfl⟩,aW hS⟩
    rw[zzb hc]at hq
    obtain⟨rfl,rfl⟩:=hq;try simp only[app]at hS
    refine z7 (zq ?_);simp only;rw[zzb hc];exact⟨_,⟨by decide,H3,oX,rfl,rfl⟩,aW hS⟩
def QZ(H:bw)(dp:Nat)(d:DS)(cO size:Int){N:Nat}(cH:d.Ok N)(hN:N<=900000000)(dV:d.ops<=90000)(hn:∀d' g,eN d 16 size=(d',.ok g)->(cR g.bF).length<=50000):
  SP 96 [cG dp,Γ cO,Γ size] [.ob (bX dp d),.mem H] (GY dp H (kH d cO size)):=
 cBu H dp d cO size cH (by omega) (p_.all cH.len 16) hN dV hn
structure Tm where
 id:Int
 when:Int
deriving DecidableEq
instance:Inhabited Tm:=⟨⟨0,0⟩⟩
def gm(t:Tm):Ξ:=[Γ t.id,Γ t.when]
def tf(t:Tm):(gm t).length=2:=rfl
def Cx(t:Tm):∀v∈gm t,v.oneCell'=true:=by simp[gm,Value.oneCell']
def se(x:Int):Int:=min (max x 0) 1125899906842624
def pw(a b:Tm):Prop:=a.when<b.when\/(a.when=b.when/\a.id<b.id)
def p4(L:List Tm)(id:Int):List Tm:=L.filter λt=>decide (t.id≠id)
def erase_filter:∀(l:List Tm) (i:Nat) (id:Int),(l.map (·.id)).Nodup->(∃h:i<l.length,l[i].id=id)->p4 l id=l.eraseIdx i
 | [],i,id,_,⟨h,_⟩=>by simp at h
 | x::l,0,id,hn,⟨_,he⟩=>by
  simp only[vvn]at he;rw[zzo,ww5]at hn
  unfold p4;rw[vvl (by simpa using he),List.eraseIdx_cons_zero,yy3];intro y hy;have:y.id≠x.id:=λe=>hn.1 (e▸zzx.2 ⟨y,hy,rfl⟩);simpa [he] using this
 | x::l,i+1,id,hn,⟨h,he⟩=>by
  rw[zzo,ww5]at hn
  have hl:i<l.length:=by simpa using h
  have mc:l[i].id=id:=by simpa using he
  have hx:x.id≠id:=λe=>hn.1 (by rw[e,<- mc];exact zzx.2 ⟨_,zzh hl,rfl⟩);have ih:=erase_filter l i id hn.2 ⟨hl,mc⟩;unfold p4 at ih ⊢;rw[vvk (by simpa using hx),uuh,ih]
def bYe{l:List Tm}{id:Int}(h:∀t∈l,t.id≠id):p4 l id=l:=by
 unfold p4;rw[yy3];intro t ht;simpa using h t ht
def bYf{l l':List Tm}(h:l.Perm l')(id:Int):(p4 l id).Perm (p4 l' id):=h.filter _
def bYd{l:List Tm}(h:(l.map (·.id)).Nodup)(id:Int):((p4 l id).map (·.id)).Nodup:=h.sublist (List.filter_sublist.map _)
def EU{α β:Type}(f:α->List β):∀(xs:List α) (s:Nat) (h:s<xs.length) (y:α),∃R,(xs.flatMap f).Perm (f xs[s]++R)/\((xs.set s y).flatMap f).Perm (f y++R)
 | [],s,h,y=>by simp at h
 | x::xs,0,h,y=>⟨xs.flatMap f,by simp,by simp⟩
 | x::xs,s+1,h,y=>by
  obtain⟨R,h1,h2⟩:=EU f xs s (by simpa using h) y;refine⟨f x++R,?_,?_⟩
  ·simp only[List.flatMap_cons,vvp];refine (h1.append_left _).trans ?_;rw[<- zzk,<- zzk];exact vvu.append_right _
  simp only[List.set_cons_succ,List.flatMap_cons];refine (h2.append_left _).trans ?_;rw[<- zzk,<- zzk];exact vvu.append_right _
structure r_(xs:List (Ε × List Tm))(L:List Tm):Prop where
 len:xs.length=16
 at_:∀s (h:s<xs.length),∀t∈xs[s].2,md t.id 16=s
 perm:(xs.flatMap (·.2)).Perm L
 nodup:(L.map (·.id)).Nodup
def r_.sub{xs:List (Ε × List Tm)}{L:List Tm}(h:r_ xs L)(s:Nat)(hs:s<xs.length):(xs[s].2.map (·.id)).Nodup/\∀t∈xs[s].2,t∈L:=by
 obtain⟨R,h1,_⟩:=EU (·.2) xs s hs xs[s];have hp:=h1.symm.trans h.perm;have hn:=(hp.map (·.id)).nodup_iff.2 h.nodup;rw[zzt]at hn
 exact⟨(ttc.1 hn).1,λt ht=>hp.subset (zz5.2 (.inl ht))⟩
def r_.mem{xs:List (Ε × List Tm)}{L:List Tm}(h:r_ xs L){t:Tm}(ht:t∈L):∃hs:md t.id 16<xs.length,t∈xs[md t.id 16].2:=by
 have:=h.perm.symm.subset ht;obtain⟨x,hx,Uu⟩:=List.mem_flatMap.1 this;obtain⟨s,hs,rfl⟩:=xxa.1 hx;have e:=h.at_ s hs t Uu;subst e;exact⟨hs,Uu⟩
def r_.del{xs:List (Ε × List Tm)}{L:List Tm}(h:r_ xs L){id:Int}{i:Nat}(hs:md id 16<xs.length)(hi:i<(xs[md id 16].2).length)(he:(xs[md id 16].2)[i].id=id)(v:Ε):
  r_ (xs.set (md id 16) (v,(xs[md id 16].2).eraseIdx i)) (p4 L id):=by
 obtain⟨hn,rD⟩:=h.sub _ hs;have e:=erase_filter _ i id hn ⟨hi,he⟩;refine⟨by simpa using h.len,λs lL t ht=>?_,?_,bYd h.nodup id⟩
 ·rw[xxp]at ht
  split at ht
  ·rename_i es;subst es;exact h.at_ _ hs t (vvi ht)
  exact h.at_ s (by simpa using lL) t ht
 obtain⟨R,h1,h2⟩:=EU (·.2) xs (md id 16) hs (v,(xs[md id 16].2).eraseIdx i);refine h2.trans ?_;simp only;rw[<- e];have h3:=bYf (h1.symm.trans h.perm) id;unfold p4 at h3 ⊢;rw[yyv]at h3
 have hR:R.filter (λt=>decide (t.id≠id))=R:=by
  rw[yy3];intro t ht;have xF:=((h1.symm.trans h.perm).map (·.id)).nodup_iff.2 h.nodup;rw[zzt,ttc]at xF
  have:=xF.2.2 id (zzx.2 ⟨_,zzh hi,he⟩) t.id (zzx.2 ⟨t,ht,rfl⟩);simpa using λe=>this e.symm
 rw[hR]at h3
 exact h3
def r_.gone{xs:List (Ε × List Tm)}{L:List Tm}(h:r_ xs L){id:Int}(hs:md id 16<xs.length)(hn:∀t∈xs[md id 16].2,t.id≠id):∀t∈L,t.id≠id:=λt ht e=>by
 obtain⟨_,hm⟩:=h.mem ht;subst e;exact hn t hm rfl
def bIh{l:List Tm}{id:Int}{i:Nat}(h:l.findIdx? (λt=>decide (t.id=id))=some i):∃hi:i<l.length,l[i].id=id:=by
 obtain⟨hi,h1,_⟩:=yyn.1 h;exact⟨hi,by simpa using h1⟩
def bIi{l:List Tm}{id:Int}(h:l.findIdx? (λt=>decide (t.id=id))=none):∀t∈l,t.id≠id:=λt ht=>by
 have:=xxs.1 h t ht;simpa using this
set_option maxRecDepth 100000
open Go.RowKit
abbrev mv(p:Ε × List Tm):zB:=bR p.1 361 2 p.2.length (p.2.map gm).flatten
def jJ(xs:List (Ε × List Tm))(now:Int):Ξ:=xs.map (·.1)++[Γ now]
abbrev Cd(wp:Nat)(xs:List (Ε × List Tm))(now:Int):Β:=[.pt wp (jJ xs now) 173,.ob (ze mv xs)]
def iy(wp:Nat)(L:List Tm)(now:Int):zB:=jK λxs:List (Ε × List Tm)=>zG (r_ xs L) (Cd wp xs now)
def iy.iff{W w:Ζ}{wp:Nat}{L:List Tm}{now:Int}{l:Β}:SL W (.ob (iy wp L now)::l) w↔∃xs,r_ xs L/\SL W (.pt wp (jJ xs now) 173::.ob (ze mv xs)::l) w:=by
 unfold iy Cd;simp only[SL.ex,SL.fact,zzv,zzr]
def K7{xs:List (Ε × List Tm)}{now:Int}{s o:Nat}{p:Ε × List Tm}(h:xs[s]?=some p)(ho:o=s):(jJ xs now)[o]?=some p.1:=by
 subst ho;have hl:=(zzf.1 h).1;unfold jJ;rw[zzs (by simpa using hl),ww2,h];rfl
def D5{xs:List (Ε × List Tm)}{now:Int}(h:xs.length=16):(jJ xs now)[0+16]?=some (Γ now):=by
 unfold jJ;rw[yyb (by simp[h])];simp[h]
def cMd{xs:List (Ε × List Tm)}{now:Int}{s o:Nat}(hs:s<xs.length)(ho:o=s)(v:Ε)(l:List Tm):(jJ xs now).set o v=jJ (xs.set s (v,l)) now:=by
 subst ho;unfold jJ;rw[wwy _ _ (by simpa using hs),vvo]
def cMe{xs:List (Ε × List Tm)}{now n2:Int}(h:xs.length=16):(jJ xs now).set (0+16) (Γ n2)=jJ xs n2:=by
 unfold jJ;rw[vvv _ _ (by simp[h])];simp[h]
def Yy(x:Int):SP 95 [Γ x] [] (cE (Γ (se x)) []):=by
 refine Enzz λW F w hS=>?_;apply cL1;delta P1 ai;refine Gp ?_;(exact cC hS)
def Yi(v:Int):SP 307 [Γ v] [] (cE (Γ (md v 16:Int)) []):=by
 refine Enzz λW F w hS=>?_;apply cJc;unfold OA;have hv:0<=IntKind.u64.wrap v:=by rw[ww7];omega
 refine zW ?_;refine ZK (by omega) ?_;have e:(IntKind.u64.wrap v).tmod 16=(md v 16:Int):=by
  rw[xx0 hv];unfold md;have:=vve (IntKind.u64.wrap v) (show (16:Int)≠0 by omega);omega
 rw[e];have:=h_ v 16 (by decide);refine yy (by omega) ?_;(exact cC hS)
def b_o(x:Int):SP 41 [Γ x] [] (λv post=>∃wp:Nat,v= Δ wp/\post=[.ob (iy wp [] (se x))]):=by
 refine Enzz λW F w hS=>?_;apply cKu;delta Pj ai bI;refine Cg (Yy x) λw hS=>?_;refine⟨_,rfl,zC hS ?_⟩;clear hS;intro wp w hS;have hS:SL W (.pt wp (jJ (List.replicate 16 (.slice none 0 0,[])) (se x)) 173::F) w:=hS;refine⟨_,⟨wp,rfl,rfl⟩,?_⟩;refine iy.iff.2 ⟨List.replicate 16 (.slice none 0 0,[]),⟨by simp,λs h t ht=>(by rw[List.getElem_replicate]at ht;cases ht),by simp[List.replicate],by simp⟩,?_⟩;have hn:∀k,SL W (.ob (ze mv (List.replicate k (.slice none 0 0,[])))::.pt wp (jJ (List.replicate 16 (.slice none 0 0,[])) (se x)) 173::F) w:=by
  intro k;induction k with
  | zero=>exact ze.nil hS
  | succ k ih=>
   refine ze.iff.2 ?_;have:=ze.iff.1 ih;exact bR.nil this
 exact (hn 16).perm (.swap _ _ _)
def zY(wp:Nat)(L:List Tm)(now:Int):SP 50 [Δ wp] [.ob (iy wp L now)] (cE (Γ now) [.ob (iy wp L now)]):=by
 refine Enzz λW F w hS=>?_;apply cK3;delta Pt bU;obtain⟨xs,hx,hS⟩:=iy.iff.1 hS;refine Gp ?_;refine zV hS Xh (D5 hx.len) ?_;exact⟨_,⟨rfl,rfl⟩,iy.iff.2 ⟨xs,hx,hS⟩⟩
def qH(b:Nat)(id:Int)(t:Tm):SP 355 ([agg (gm t)]++(#[Δ b]:Array Ε).toList) [.pt b [Γ id] 3] (cE (.bool (decide (t.id=id))) [.pt b [Γ id] 3]):=by
 refine Enzz λW F w hS=>?_;apply cJ9;delta O2 a_;refine⟨_,rfl,zC hS ?_⟩;clear hS;intro b2 w hS;refine Gp ?_;exact cC hS
def qZ(wp:Nat)(xs:List (Ε × List Tm))(now id:Int)(p:Ε × List Tm)(hp:xs[md id 16]?=some p)(xe:xs.length=16)(hn:p.2.length<=1000000):
  SP 306 [Δ wp,Γ id] (Cd wp xs now) (cE (Γ (lq (p.2.findIdx? λt=>decide (t.id=id)))) (Cd wp xs now)):=by
 refine Enzz λW F w hS=>?_;apply cJb;delta Oz bV;refine⟨rfl,zC hS ?_⟩;clear hS;intro b w hS;refine Gn λw hS=>?_;refine Cg (Yi id) λw hS=>?_;have hm:=h_ id 16 (by decide);refine yA hm ?_;refine zV hS Xh (K7 hp (by omega)) ?_;have hS:=ze.take (SL.b_ hS (t:=.ob (ze mv xs)::.pt b [Γ id] 3::.pt wp (jJ xs now) 173::F) Xi) hp;have hC:=Jz (t:=361) tf rfl (λv0 v1 w R h=>cJ8 v0 v1 w R h) (λt=>qH b id t) p.1 p.2 (by omega);simp only[zzv,zzr]at hC;refine Cc (hC) ?_;clear hS;rintro v post ⟨rfl,rfl⟩ w hS;try simp only[app]at hS
 have hS:=ze.put (y:=p) (SL.b_ hS (t:=.ob (mv p)::.ob (ze mv (xs.eraseIdx (md id 16)))::.pt wp (jJ xs now) 173::F) Xi) (by omega);have e:xs.set (md id 16) p=xs:=by
  obtain⟨h1,h2⟩:=zzf.1 hp;rw[<- h2];simp
 rw[e]at hS
 (exact cC hS)
def bwc(wp:Nat)(L:List Tm)(now id:Int)(hn:L.length<=1000000):SP 248 [Δ wp,Γ id] [.ob (iy wp L now)]
  (cE (.bool (decide (∃t∈L,t.id=id))) [.ob (iy wp (p4 L id) now)]):=by
 refine Enzz λW F w hS=>?_;apply cH3;delta NP aI bV bY ai;obtain⟨xs,hx,hS⟩:=iy.iff.1 hS;have hm:=h_ id 16 (by decide);have hs:md id 16<xs.length:=by rw[hx.len];exact hm
 have hp:xs[md id 16]?=some xs[md id 16]:=by simp[hs]
 obtain⟨hnd,rD⟩:=hx.sub _ hs;have dW:(xs[md id 16].2).length<=1000000:=by
  obtain⟨R,h1,_⟩:=EU (·.2) xs _ hs xs[md id 16];have:=(h1.symm.trans hx.perm).length_eq;rw[zza]at this;omega
 have hxd:=λi (hi:i<(xs[md id 16].2).length) he v=>hx.del hs (i:=i) hi he v;have bVc:=hx.gone hs;generalize xs[md id 16]=p at *
 refine Cc (qZ wp xs now id p hp hx.len dW) ?_;clear hS;rintro v post ⟨rfl,rfl⟩ w hS;try simp only[app]at hS
 cases hf:p.2.findIdx? (λt=>decide (t.id=id)) with
 | none=>
  have fu:=bVc (bIi hf);simp only[lq];refine Gp ?_;refine za (λ_=>?_) (λh=>by omega);have e:decide (∃t∈L,t.id=id)=false:=by
   rw[xxc];rintro ⟨t,ht,he⟩;exact fu t ht he
  rw[e,bYe fu];exact⟨_,⟨rfl,rfl⟩,iy.iff.2 ⟨xs,hx,aW hS⟩⟩
 | some i=>
  obtain⟨hi,he⟩:=bIh hf;simp only[lq];refine Gp ?_;refine za (λh=>by omega) (λ_=>?_);refine Cg (Yi id) λw hS=>?_;refine yA hm ?_;refine zV hS Xh (K7 hp (by omega)) ?_;refine Gp ?_;have hS:=ze.take (SL.b_ hS (t:=.ob (ze mv xs)::.pt wp (jJ xs now) 173::F) Xi) hp;refine Cc (HT (sz:=2) (hU:=16) (z:=[Γ 0,Γ 0]) (zv:=.agg #[Γ 0,Γ 0]) (λv0 v1 v2 w R h=>cJd v0 v1 v2 w R h) Tryz.underlying170 (λw=>by kernel_rfl) rfl rfl (by simp[Value.oneCell']) p.1 p.2.length i (p.2.map gm).flatten hi (tR Cx _) (by omega) (by omega)) ?_;clear hS;rintro v post rfl w hS;try simp only[app]at hS
  refine yA hm ?_;have o1:v.oneCell'=true:=bR.one hS;refine Zz hS Xu (K7 hp (by omega)) o1 ?_;clear hS;intro w hS;have ef:List.take (i*2) (p.2.map gm).flatten++List.drop ((i+1)*2) (p.2.map gm).flatten=((p.2.eraseIdx i).map gm).flatten:=by
   rw[uo tf,vr tf,List.eraseIdx_eq_take_drop_succ];simp
  have el:p.2.length-1=(p.2.eraseIdx i).length:=by rw[uuu,zzd hi]
  rw[ef,el,cMd hs (by omega) v (p.2.eraseIdx i)]at hS
  have hS:=ze.put (y:=(v,p.2.eraseIdx i)) (SL.b_ hS (t:=.ob (mv (v,p.2.eraseIdx i))::.ob (ze mv (xs.eraseIdx (md id 16)))::.pt wp (jJ (xs.set (md id 16) (v,p.2.eraseIdx i)) now) 173::F) Xi) hs;have e:decide (∃t∈L,t.id=id)=true:=by
   rw[uuf];exact⟨_,rD _ (zzh hi),he⟩
  rw[e];exact⟨_,⟨rfl,rfl⟩,iy.iff.2 ⟨_,hxd i hi he v,aW hS⟩⟩
def aIs{K:Ε->Prop}{w:Ζ}{xs:List (Ε × List Tm)}{k:Nat}{p:Ε × List Tm}(hp:xs[k]?=some p)(xe:k<16)(h:K p.1):ff Tryz.prog (Instr.index 171 (.agg (xs.map (·.1)).toArray) (Γ (k:Int))) w K:=
 WJ Tryz.underlying171 (λw=>by kernel_rfl) (λw=>by kernel_rfl) xe (by rw[ww2,hp];rfl) h
def cMc{xs:List (Ε × List Tm)}{now:Int}(h:xs.length=16):∀j v,(xs.map (·.1))[j]?=some v->(jJ xs now)[0+0+j]?=some v:=λj v e=>by
 unfold jJ;rw[zzs (by have:=(zzf.1 e).1;omega),show 0+0+j=j by omega];exact e
def kz(now:Int)(L:List Tm):List Tm:=L.filter λt=>decide (t.when<=now)
def bwx(wp:Nat)(xs:List (Ε × List Tm))(now:Int)(xe:xs.length=16)(hn:(xs.flatMap (·.2)).length<=1000000):SP 242 [Δ wp] (Cd wp xs now)
  (λv post=>post=[.pt wp (jJ xs now) 173,.ob (ze mv xs),.ob (bR v 361 2 (kz now (xs.flatMap (·.2))).length ((kz now (xs.flatMap (·.2))).map gm).flatten)]):=by
 refine Enzz λW F w hS=>?_;apply cHz;delta NL aI bU a_ bV ai bI;refine Gp ?_;refine yG (vs:=xs.map (·.1)) hS Xh (by simp[xe]) (cMc xe) ?_;have hf:∀k (h:k<xs.length),(xs.take (k+1)).flatMap (·.2)=(xs.take k).flatMap (·.2)++xs[k].2:=λk h=>by
  rw[zze h,vv8];simp
 have eF:∀k,((xs.take k).flatMap (·.2)).length<=1000000:=λk=>by
  have:xs=xs.take k++xs.drop k:=by simp
  rw[this,vv8,zza]at hn;omega
 refine⟨λus w=>∃(k:Nat) (v:Ε),us=[v,Γ k]/\k<=16/\SL W (.ob (bR v 361 2 (kz now ((xs.take k).flatMap (·.2))).length ((kz now ((xs.take k).flatMap (·.2))).map gm).flatten)::.pt wp (jJ xs now) 173::.ob (ze mv xs)::F) w,
  λus _=>match us with|[_,.int _ k]=>(16-k).toNat|_=>0,⟨0,_,rfl,by omega,bR.nil hS⟩,?_⟩
 clear hS;rintro v3 v10 w ⟨k,v,hv,hk,hS⟩;cases hv;refine bZ (λh=>?_) (λh=>?_)
 ·have FD:k<xs.length:=by omega
  have hp:xs[k]?=some xs[k]:=by simp[FD]
  have h1:=hf k FD;have h2:=eF (k+1);refine aIs hp (by omega) ?_;rw[h1,zza]at h2
  have mY:∀(v:Ε) (w:Ζ),SL W (.ob (bR v 361 2 (kz now ((xs.take (k+1)).flatMap (·.2))).length ((kz now ((xs.take (k+1)).flatMap (·.2))).map gm).flatten)::.pt wp (jJ xs now) 173::.ob (ze mv xs)::F) w ->
    (∃(k':Nat) (v':Ε),([v,Γ (k+1:Nat)]:Ξ)=[v',Γ k']/\k'<=16/\SL W (.ob (bR v' 361 2 (kz now ((xs.take k').flatMap (·.2))).length ((kz now ((xs.take k').flatMap (·.2))).map gm).flatten)::.pt wp (jJ xs now) 173::.ob (ze mv xs)::F) w) /\
    ((16:Int)-((k+1:Nat):Int)).toNat<((16:Int)-(k:Int)).toNat:=λv w hS=>⟨⟨k+1,v,rfl,by omega,hS⟩,by omega⟩
  rw[h1]at mY
  have hT:=λ{A:Β} {w:Ζ} (hS:SL W (.ob (ze mv xs)::A) w)=>ze.take hS hp;generalize xs[k]=p at *
  generalize (xs.take k).flatMap (·.2)=A at *
  have ux:=hT (SL.b_ hS (t:=.ob (ze mv xs)::F) Xi);refine zu ux .hd ?_;clear ux;refine⟨λus w=>∃(j:Nat) (v:Ε),us=[v,Γ j]/\j<=p.2.length/\SL W (.ob (bR v 361 2 (kz now (A++p.2.take j)).length ((kz now (A++p.2.take j)).map gm).flatten)::.pt wp (jJ xs now) 173::.ob (ze mv xs)::F) w,
   λus _=>match us with|[_,.int _ j]=>(p.2.length-j).toNat|_=>0,⟨0,_,rfl,by omega,by simpa using hS⟩,?_⟩
  clear hS;rintro v4 v17 w ⟨j,v,hv,hj,hS⟩;cases hv;refine bZ (λh=>?_) (λh=>?_)
  ·have gS:j<p.2.length:=by omega
   have ux:=hT (SL.b_ hS (t:=.ob (ze mv xs)::F) Xi);refine zT ux .hd tf (x:=p.2[j]) (by simp[gS]) gS ?_;clear ux;have ll:kz now (A++p.2.take (j+1))=if p.2[j].when<=now then kz now (A++p.2.take j)++[p.2[j]] else kz now (A++p.2.take j):=by
    unfold kz;rw[zze gS,<- zzk,yyv (l₁:=A++p.2.take j)];by_cases hw:p.2[j].when<=now<;>simp[hw]
   have pd:(kz now (A++p.2.take j)).length<=1000000:=by
    refine yy2 (yyp _ _) ?_;rw[zza,zzg];omega
   generalize p.2[j]=t at ll;refine zC hS ?_;clear hS;intro b w hS;refine zr (vs:=gm t) hS .hd rfl rfl (Cx _) ?_;clear hS;intro w hS;refine Gn λw hS=>?_;refine zV hS Xh (D5 xe) ?_;refine bZ (λhw=>?_) (λhw=>?_)
   ·refine zA hS .hd rfl ?_;refine zN (cells:=gm t) hS (by simp[iz,cK,Value.cells,gm]) ?_;clear hS;intro b2 w hS;rw[zzd hw]at ll
    refine zI (m:=1) hS Xr (kf (cs:=gm t) hS .hd rfl) rfl rfl (Cx _) (by omega) (by omega) ?_;clear hS;intro v' w hS;refine Gp ?_;refine⟨⟨j+1,v',by simp,by omega,?_⟩,by dsimp only;omega⟩;rw[ll,vt,zza,yya];exact aW hS
   rw[zzb hw]at ll
   refine Gp ?_;refine⟨⟨j+1,v4,by simp,by omega,?_⟩,by dsimp only;omega⟩;rw[ll];exact aW hS
  have hjj:j=p.2.length:=by omega
  subst hjj;rw[zz4]at hS
  refine Gp ?_;exact mY v4 w hS
 have FD:k=16:=by omega
 subst FD;have e:xs.take 16=xs:=by rw[<- xe,zz4]
 rw[e]at hS
 exact⟨_,rfl,aW hS⟩
