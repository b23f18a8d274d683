/- Part. -/
import Derived.Test.YtlngdcpffiklgaaGreatJ11
import Derived.Lib.ConvBytes
namespace Go.Proofs.YtlngdcpffiklgaaGreat
set_option linter.all false
open Go.RowKit Go.Proofs.Tryz
section
variable {W w:Ζ} {l:Β} {P:Program}
def Yq{src dst e:Ι}{u:TypeDesc}{bs:Φ}{K:Ε->Ζ->Prop}(hS:SL W l w)(h1:P.underlying src=some u)(h2:P.underlying dst=some (.slice e))(h3:P.underlying e=some (.int .u8))
  (h:∀v w',SL W (.ob (bF v e 1 bs.length (bs.map dd))::l) w'->K v w'):zS P (convert src dst (.string (ep bs))) w K:=by
 refine⟨_,_,Lib.run_convert_string_bytes w src dst e (ep bs) h1 h2 h3,h _ _ ?_⟩;have hg:(ep bs).size<=grownCap w (ep bs).size 0 e:=grownCap_ge _ _ _ _;have e1:(Lib.bytesCells w e (ep bs)).toList=bs.map dd++List.replicate (grownCap w bs.length 0 e-bs.length) (.int .u8 0):=by
  unfold Lib.bytesCells;rw[nh];simp[ep,dd]
 have hn:SL W (.pt w.heap.size (Lib.bytesCells w e (ep bs)).toList e::l) (w.drew.alloc (.cells (Lib.bytesCells w e (ep bs)) e)):=by
  have:=(hS.drew).new (cs:=(Lib.bytesCells w e (ep bs)).toList) (t:=e);simpa using this
 have hm:=hn.mark (n:=(Lib.bytesCells w e (ep bs)).size) .hd (by simp);rw[e1]at hm
 rw[nh]at hg ⊢
 exact bF.mk hg (by simp) (by simp) hm
end
structure sc(H:bw)(vs:List iK)(zs:List cJ):Prop where
 len:vs.length=zs.length
 at_:∀j (h:j<vs.length) (h':j<zs.length),ik H vs[j] zs[j]
def sc.mono{H H':bw}(hh:H.le H'){vs:List iK}{zs:List cJ}(h:sc H vs zs):sc H' vs zs:=⟨h.len,λj a b=>(h.at_ j a b).mono hh⟩
def sc.snoc{H:bw}{vs:List iK}{zs:List cJ}(h:sc H vs zs){x:iK}{z:cJ}(hx:ik H x z):sc H (vs++[x]) (zs++[z]):=by
 have hl:=h.len;refine⟨by simp[hl],λj a b=>?_⟩;by_cases hj:j<vs.length
 ·rw[ww0 hj,ww0 (by omega)];exact h.at_ j hj (by omega)
 have e:j=vs.length:=by rw[zza,yyc]at a;omega
 subst e;rw[vvg (zzi _),vvg (by omega)];simpa [hl] using hx
set_option maxRecDepth 100000
def ie(x:cJ):Η:=ep (gq x)
def Xk:∀{l:List cJ} {b:Int} {i:Nat} (h:fQ b l) (hi:i<l.length),iW b (l.take i)<l[i].aw
 | [],_,_,_,hi=>absurd hi (by simp)
 | x::l,b,0,h,_=>h.1
 | x::l,b,i+1,h,hi=>Xk (l:=l) (b:=x.aw) h.2 (by simpa using hi)
structure B_(cU:Nat)(zs:List cJ):Prop where
 it:∀x∈zs,vp cU x
 j7:fQ 0 zs
 le:zs.length<=64
def B_.at{cU:Nat}{zs:List cJ}(h:B_ cU zs)(i:Nat)(hi:i<=zs.length):nO cU (km (zs.take i)) i:=by
 have:=DJ (n:=cU) (l:=zs.take i) (λx hx=>h.it x (yys hx)) (h.j7.take i);rw[zzg,xxw hi]at this
 exact this
def B_.lt{cU:Nat}{zs:List cJ}(h:B_ cU zs){i:Nat}(hi:i<zs.length):(km (zs.take i)).aw<zs[i].aw:=by
 rw[VI];exact Xk h.j7 hi
def nQ.add{W w:Ζ}{l:Β}{v:Ε}{A B:List gx}(h:SL W (.ob (bF v 389 5 (A.length+B.length) ((A.map jO).flatten++(B.map jO).flatten))::l) w):SL W (nQ v (A++B)::l) w:=by
 rw[show nQ v (A++B)= .ob (bF v 389 5 (A.length+B.length) ((A.map jO).flatten++(B.map jO).flatten)) by simp[nQ]];exact h
def nP.add{W w:Ζ}{l:Β}{v:Ε}{A B:List iC}(h:SL W (.ob (bF v 392 7 (A.length+B.length) ((A.map kT).flatten++(B.map kT).flatten))::l) w):SL W (nP v (A++B)::l) w:=by
 rw[show nP v (A++B)= .ob (bF v 392 7 (A.length+B.length) ((A.map kT).flatten++(B.map kT).flatten)) by simp[nP]];exact h
def cDj(A:List gx):∀v∈(A.map jO).flatten,v.oneCell'=true:=λv hv=>by
 obtain⟨l,hl,h⟩:=wwg.1 hv;obtain⟨o,_,rfl⟩:=zzx.1 hl;exact CL o v h
def cCi(A:List iC):∀v∈(A.map kT).flatten,v.oneCell'=true:=λv hv=>by
 obtain⟨l,hl,h⟩:=wwg.1 hv;obtain⟨o,_,rfl⟩:=zzx.1 hl;exact It o v h
def QS(H:bw)(v:Ε)(vs:List iK)(zs:List cJ)(hv:de H 3 v vs.length (vs.map eU).flatten)(hi:sc H vs zs){cU:Nat}(hj:B_ cU zs)(dO:zs≠[]):
  SP 294 [v] [.mem H] (λu post=>∃xv H',H.le H'/\u= .tuple #[agg (eU xv),Γ 0]/\ik H' xv (km zs)/\post=[.mem H']):=by
 refine Enzz λW F w hS=>?_;apply cP8;delta aI a_ cP Ct ai cR bR;have hlen:=hi.len;have IP:=hj.le;refine Gb λrb w hS=>?_;refine Gb λob w hS=>?_;refine zo hv ?_;have hS:=bF.nil (t:=389) (sz:=5) hS;have hS:=bF.nil (t:=392) (sz:=7) hS;have hS:SL W (nP Θ (km (zs.take 0)).notes::nQ Θ (km (zs.take 0)).ops::.pt ob [Γ (km (zs.take 0)).aw,Θ,Θ] 240::_) _:=hS;refine⟨λus w=>∃(i:Nat) (ov nv:Ε),us=[.bool true,Γ i]/\i<=zs.length/\SL W (nQ ov (km (zs.take i)).ops::nP nv (km (zs.take i)).notes::.pt ob [Γ (km (zs.take i)).aw,ov,nv] 240::.pt rb [Γ 0,Θ,Θ] 240::.mem H::F) w,
  λus _=>match us with|[_,.int _ i]=>(zs.length-i).toNat|_=>0,⟨0,Θ,Θ,rfl,zz4 _,aR hS⟩,?_⟩
 clear hS;rintro v5 v10 w ⟨i,ov,nv,cT,cG,hS⟩;cases cT;refine Gp ?_;have jk:=hj.at i cG;refine za (λh=>?_) (λh=>?_)
 ·have tJ:i<vs.length:=by omega
  have mu:i<zs.length:=by omega
  have hx:=hi.at_ i tJ mu;have hw:=hj.it _ (zzh mu);have dj:=hj.lt mu;refine zF hS Xh bIs hv (zzc tJ) tJ ?_;have ht:=czk mu;generalize zs[i]=z at *
  generalize vs[i]=x at *
  have hex:eU x=[Γ z.aw,x.ov,x.nv]:=by unfold eU;rw[hx.aw]
  refine Gb λxb w hS=>?_;refine zt hS Xu rfl rfl (mL hx) λw hS=>?_;refine zr hS Xh rfl ?_;refine Cc (zZ H x z hx) ?_;clear hS;rintro _ post ⟨rfl,rfl⟩ w hS;try simp only[app]at hS
  rw[hw.may];refine Gp ?_;refine zp ?_;rw[hex]at hS
  have hz5:=hw.ops;have Vf:=hw.iX;have gW:=jk.len;have Jk:=jk.iX;generalize hP:km (zs.take i)=P at *
  refine⟨λus w=>us=[.bool true]/\SL W (.pt xb [Γ z.aw,x.ov,x.nv] 240::nQ ov P.ops::nP nv P.notes::.pt ob [Γ P.aw,ov,nv] 240::.pt rb [Γ 0,Θ,Θ] 240::.mem H::F) w,?_,?_⟩
  ·refine Gp ?_;rw[zzo dj];exact⟨rfl,aR hS⟩
  clear hS;rintro _ w ⟨cT,hS⟩;cases cT;refine Gn λw hS=>?_;refine zJ (n:=P.ops.length) (m:=z.ops.length) hS Xr (D_ hS Xh hx.ops) (by rw[CV xe]) rfl (cDj _) (by omega) (by omega) λKz w hS=>?_;have hS:=nQ.add hS;have o1:=bF.one hS;refine Gn λw hS=>?_;refine zJ (n:=P.notes.length) (m:=z.notes.length) hS Xr (D_ hS Xh hx.iX) (by rw[CV xd]) rfl (cCi _) (by omega) (by omega) λKp w hS=>?_;have hS:=nP.add hS;have o2:=bF.one hS;refine Gn λw hS=>?_;refine⟨⟨i+1,Kz,Kp,rfl,by omega,?_⟩,by dsimp only;omega⟩;rw[ht];show SL W (nQ Kz (P.ops++z.ops)::nP Kp (P.notes++z.notes)::.pt ob [Γ z.aw,Kz,Kp] 240::_) w;exact aR hS
 have jZ:i=zs.length:=by omega
 subst jZ;have xU:0<zs.length:=wwb.2 dO;rw[zz0]at hS jk
 have gW:=jk.len;have Jk:=jk.iX;generalize km zs=P at *
 refine zo hv ?_;refine Gp ?_;refine za (λh0=>by omega) (λh0=>?_);refine Gp ?_;refine zz hS (v:=ov) (t:=389) (sz:=5) (n:=P.ops.length) (cells:=(P.ops.map jO).flatten) Xh ?_;refine Gp ?_;refine za (λh0=>by omega) (λh0=>?_);refine Gp ?_;refine zz hS (v:=nv) (t:=392) (sz:=7) (n:=P.notes.length) (cells:=(P.notes.map kT).flatten) Xh ?_;refine Gp ?_;refine za (λh1=>by omega) (λh1=>?_);refine Gp ?_;refine zp ?_;have o1:=bF.one (Has.front (c:=nQ ov P.ops) hS Xr);have o2:=bF.one (Has.front (c:=nP nv P.notes) hS Xr);obtain⟨H1,du,jP,hS⟩:=zw (H:=H) (v:=ov) hS Xp;obtain⟨H2,dF,pY,hS⟩:=zw (H:=H1) (v:=nv) hS Xp;refine zr hS Xh rfl ?_;refine zt (vs:=[Γ P.aw,ov,nv]) hS Xu rfl rfl (mL (x:=⟨P.aw,ov,nv⟩) (t:=P) ⟨rfl,jP.mono dF,pY⟩) λw hS=>?_;refine zr hS Xh rfl ?_;exact⟨_,⟨⟨P.aw,ov,nv⟩,H2,bw.le_trans du dF,rfl,⟨rfl,jP.mono dF,pY⟩,rfl⟩,aR hS⟩
structure s_ where
 wp:Nat
 kp:Nat
 gp:Nat
 dp:Nat
 lp:Nat
 pp:Nat
 qp:Nat
 qb:Nat
 rp:Nat
abbrev nL(kp qp rp cN:Nat)(l:Int)(ov nv:Ε)(n:Nat):Ξ:=[iy kp,iy qp,iy rp,Γ cN,Γ l,ov,nv,Γ n]
def dA(p:s_)(c:dW)(H:bw)(s:fA):zC:=jT λh:Ε × Ε=>zH (ik H ⟨s.held.aw,h.1,h.2⟩ s.held)
 [.pt p.wp (nL p.kp p.qp p.rp c.cN s.held.aw h.1 h.2 s.n) 242,.ob (cZ p.kp p.gp p.dp p.lp p.pp H s.k),.ob (Gate p.qp p.qb c.cap s.out (s.L.map ie)),jV p.rp c.b c.m c.j s.fW s.eQ]
section
variable {W w:Ζ} {l F:Β} {p:s_} {c:dW} {H:bw} {s:fA}
def dA.iff:SL W (.ob (dA p c H s)::l) w↔∃ov nv,ik H ⟨s.held.aw,ov,nv⟩ s.held/\SL W (.pt p.wp (nL p.kp p.qp p.rp c.cN s.held.aw ov nv s.n) 242::.ob (cZ p.kp p.gp p.dp p.lp p.pp H s.k)::.ob (Gate p.qp p.qb c.cap s.out (s.L.map ie))::jV p.rp c.b c.m c.j s.fW s.eQ::l) w:=by
 unfold dA;simp only[SL.ex,SL.fact,zzv,zzq];exact⟨λ⟨x,h⟩=>⟨x.1,x.2,h⟩,λ⟨a,b,h⟩=>⟨(a,b),h⟩⟩
def dA.open(hS:SL W l w)(r:fq (.ob (dA p c H s)) l F):∃ov nv,ik H ⟨s.held.aw,ov,nv⟩ s.held/\SL W (.pt p.wp (nL p.kp p.qp p.rp c.cN s.held.aw ov nv s.n) 242::.ob (cZ p.kp p.gp p.dp p.lp p.pp H s.k)::.ob (Gate p.qp p.qb c.cap s.out (s.L.map ie))::jV p.rp c.b c.m c.j s.fW s.eQ::F) w:=dA.iff.1 (hS.perm r.perm)
def dA.put(s:fA){ov nv:Ε}(hS:SL W l w)(hi:ik H ⟨s.held.aw,ov,nv⟩ s.held)(k:gE [.pt p.wp (nL p.kp p.qp p.rp c.cN s.held.aw ov nv s.n) 242,.ob (cZ p.kp p.gp p.dp p.lp p.pp H s.k),.ob (Gate p.qp p.qb c.cap s.out (s.L.map ie)),jV p.rp c.b c.m c.j s.fW s.eQ] l F):SL W (.ob (dA p c H s)::F) w:=dA.iff.2 ⟨ov,nv,hi,hS.pick k⟩
def dA.eX{k:cV}{L:List cJ}{out n:Nat}{fW eQ:Int}{held:cJ}{ov nv:Ε}(hS:SL W l w)(hi:ik H ⟨held.aw,ov,nv⟩ held)(q:gE [.pt p.wp (nL p.kp p.qp p.rp c.cN held.aw ov nv n) 242,.ob (cZ p.kp p.gp p.dp p.lp p.pp H k),.ob (Gate p.qp p.qb c.cap out (L.map ie)),jV p.rp c.b c.m c.j fW eQ] l F):SL W (.ob (dA p c H ⟨k,L,out,fW,eQ,held,n⟩)::F) w:=dA.iff.2 ⟨ov,nv,hi,hS.pick q⟩
def dA.mono{H':bw}(hh:H.le H')(h:SL W (.ob (dA p c H s)::l) w):SL W (.ob (dA p c H' s)::l) w:=by
 obtain⟨ov,nv,hi,hS⟩:=dA.iff.1 h;have hS:=cZ.gB hh hS Xr;exact dA.put s hS (hi.mono hh) Xp
def dA.gB{H':bw}(hh:H.le H')(hS:SL W l w)(r:fq (.ob (dA p c H s)) l F):SL W (.ob (dA p c H' s)::F) w:=dA.mono hh (hS.perm r.perm)
def Gate.cEm{g b cap out:Nat}{L:Ψ}(hS:SL W l w)(hA:L.length+out<=cap/\cap<=64)(k:gE [.pt g [Δ b,Γ out] 144,.ob (Ring b cap L)] l F):SL W (.ob (Gate g b cap out L)::F) w:=Gate.close hA (hS.pick k)
def bWi{g b cap out:Nat}{L:Ψ}(hS:SL W l w)(r:fq (.ob (Gate g b cap out L)) l F):(L.length+out<=cap/\cap<=64)/\SL W (.pt g [Δ b,Γ out] 144::.ob (Ring b cap L)::F) w:=Gate.open (hS.perm r.perm)
end
def cU2(kp qp rp n:Nat)(h1:1<=n)(h2:n<=64):SP 145 [iy kp,iy qp,iy rp,Γ n] [] (λv post=>∃p:Nat,v= .tuple #[iy p,Γ 0]/\post=[.pt p (nL kp qp rp n 0 Θ Θ 0) 242]):=by
 refine Enzz λW F w hS=>?_;apply cL9;delta aI ai cY bR;refine Gp ?_;refine Χ ?_;refine Gp ?_;refine Χ ?_;refine Gp ?_;refine⟨_,rfl,zE hS λp w hS=>?_⟩;exact⟨_,⟨p,rfl,rfl⟩,hS⟩
def ZX(p:s_)(c:dW)(H:bw)(s:fA)(now:Int):SP 80 [iy p.wp,Γ now] [.ob (dA p c H s)] (cE (.bool (s.ready now)) [.ob (dA p c H s)]):=by
 refine Enzz λW F w hS=>?_;apply cT3;delta aI bW ai;obtain⟨ov,nv,hi,hS⟩:=dA.iff.1 hS;refine Gp ?_;unfold fA.ready;refine za (λh=>?_) (λh=>?_)
 ·rw[zzd (by omega)];refine Gp ?_;refine Cg (Qj p.rp c.b c.m c.j s.fW s.eQ now) λw hS=>?_;have hS:=dA.put s hS hi Xp;(exact cF hS)
 rw[zzb (by omega)];refine Gp ?_;obtain⟨hg,hS⟩:=bWi hS Xr;refine Gp ?_;refine Cg (yw p.qb c.cap (s.L.map ie)) λw hS=>?_;rw[zzn];have hS:=Gate.cEm hS hg Xp;have hS:=dA.put s hS hi Xp;have e:decide ((0:Int)<(s.L.length:Int))=decide (0<s.L.length):=by rw[yyj];omega
 rw[e];(exact cF hS)
def cI2{x:cJ}(h:eH x=true):nV (gq x)= .ok x:=Sc h
def czg{H:bw}{vs:List iK}{L:List cJ}{i:Nat}(h:sc H vs (L.take i))(hi:i<L.length){x:iK}(hx:ik H x L[i]):sc H (vs++[x]) (L.take (i+1)):=by
 rw[zze hi];exact h.snoc hx
def cUz(p:s_)(c:dW)(H:bw)(s:fA){cU f:Nat}(hI:pK c cU s f)(hn:s.n=0)(hL:0<s.L.length):
  SP 229 [iy p.wp] [.ob (dA p c H s),.mem H] (λv post=>v= Γ 0/\∃H',H.le H'/\post=[.ob (dA p c H' (s.hold c.cN)),.mem H']):=by
 refine Enzz λW F w hS=>?_;apply cOo;delta aI bW c_ b_ cP ai bR;obtain⟨ov,nv,hi,hS⟩:=dA.iff.1 hS;have gl:=hI.wk;have ju:=hI.cN;have Bm:=hI.room;have ph:=hI.cap;obtain⟨F2,uE⟩:∃F2,F2=jV p.rp c.b c.m c.j s.fW s.eQ::F:=⟨_,rfl⟩;have hS:=SL.cD hS (t:=.pt p.wp (nL p.kp p.qp p.rp c.cN s.held.aw ov nv s.n) 242::.ob (cZ p.kp p.gp p.dp p.lp p.pp H s.k)::.ob (Gate p.qp p.qb c.cap s.out (s.L.map ie))::.mem H::jV p.rp c.b c.m c.j s.fW s.eQ::F) Xi;rw[<- uE]at hS
 have gV:s.hold c.cN=⟨s.k,s.L.drop (min c.cN s.L.length),s.out+min c.cN s.L.length,s.fW,s.eQ,km (s.L.take (min c.cN s.L.length)),min c.cN s.L.length⟩:=by
  unfold fA.hold;rw[zzd hn];rcases Nat.le_total c.cN s.L.length with h|h
  ·rw[xxw h]
  rw[Nat.min_eq_right h,yy7 h,zz7 h,yy7 (zzi _),zz7 (zzi _)]
 have hm:∃m,m=min c.cN s.L.length:=⟨_,rfl⟩;obtain⟨m,hm⟩:=hm;rw[<- hm]at gV
 refine⟨λus w=>∃(lv:Ε) (vs:List iK) (H2:bw),us=[lv]/\H.le H2/\sc H2 vs (s.L.take m)/\SL W (.ob (bF lv 240 3 vs.length (vs.map eU).flatten)::.pt p.wp (nL p.kp p.qp p.rp c.cN s.held.aw ov nv s.n) 242::.ob (cZ p.kp p.gp p.dp p.lp p.pp H2 s.k)::.ob (Gate p.qp p.qb c.cap (s.out+m) ((s.L.drop m).map ie))::.mem H2::F2) w,?_,?_⟩
 ·have hS:=bF.nil (t:=240) (sz:=3) hS;have hS:SL W (.ob (bF Θ 240 3 ([]:List iK).length (([]:List iK).map eU).flatten)::.pt p.wp (nL p.kp p.qp p.rp c.cN s.held.aw ov nv s.n) 242::.ob (cZ p.kp p.gp p.dp p.lp p.pp H s.k)::.ob (Gate p.qp p.qb c.cap (s.out+0) ((s.L.drop 0).map ie))::.mem H::F2) w:=hS;refine⟨λus w=>∃(i:Nat) (lv:Ε) (vs:List iK) (H2:bw),us=[lv]/\vs.length=i/\i<=c.cN/\i<=s.L.length/\H.le H2/\sc H2 vs (s.L.take i)/\SL W (.ob (bF lv 240 3 vs.length (vs.map eU).flatten)::.pt p.wp (nL p.kp p.qp p.rp c.cN s.held.aw ov nv s.n) 242::.ob (cZ p.kp p.gp p.dp p.lp p.pp H2 s.k)::.ob (Gate p.qp p.qb c.cap (s.out+i) ((s.L.drop i).map ie))::.mem H2::F2) w,
   λus _=>match us with|[.slice _ n _]=>c.cN-n|_=>0,⟨0,Θ,[],H,rfl,rfl,by omega,by omega,bw.le_refl H,⟨rfl,λj h=>by simp at h⟩,hS⟩,?_⟩
  clear hS;rintro lv w ⟨i,_,vs,H2,cT,JQ,lO,cG,fu,A6,hS⟩;cases cT;obtain⟨a,cp,rfl,_⟩:=bF.at hS .hd;subst JQ;refine cA (λh=>?_) (λh=>?_)
  ·refine Gp ?_;by_cases jZ:vs.length=s.L.length
   ·have e0:s.L.drop vs.length=[]:=yy7 (by omega);rw[e0,yy8]at hS
    refine Cg (bWt p.qp p.qb c.cap (s.out+vs.length)) λw hS=>?_;refine zq ?_;have nY:m=vs.length:=by omega
    subst nY;have e1:([]:Ψ)=(s.L.drop vs.length).map ie:=by rw[e0];rfl
    rw[e1]at hS
    exact⟨_,vs,H2,rfl,fu,A6,aR hS⟩
   have mu:vs.length<s.L.length:=by omega
   have hw:=hI.it _ (zzh mu);have b_j:=λ{H3:bw} (fB:H2.le H3) {x:iK} (hx:ik H3 x s.L[vs.length])=>czg (A6.mono fB) mu hx;rw[yyq mu,zzr]at hS
   generalize s.L[vs.length]=z at *
   refine Cg (bWu p.qp p.qb c.cap (s.out+vs.length) (ie z) ((s.L.drop (vs.length+1)).map ie)) λw hS=>?_;refine zp ?_;refine Yq (bs:=gq z) hS yyz xxv wwx λbv w hS=>?_;refine Cc (YW (.ob (bF bv 5 1 (gq z).length ((gq z).map dd))) H2 bv (gq z) dX.own) ?_;clear hS;rintro r post hq w hS;unfold wF at hq;rw[cI2 hw.may]at hq
   obtain⟨x,H3,fB,rfl,hx,rfl⟩:=hq;try simp only[app]at hS
   have hS:=cZ.gB fB hS Xr;refine Gm λb w hS=>?_;refine zt hS Xu rfl rfl (mL hx) λw hS=>?_;refine Gp ?_;refine Χ ?_;refine zr hS Xh rfl ?_;refine Gb λyb w hS=>?_;refine zJ (n:=vs.length) (m:=1) hS Xr (jR (cs:=eU x) hS Xh rfl) rfl rfl (mL hx) (by omega) (by omega) λlv2 w hS=>?_;rw[<- vF]at hS
   rw[show s.out+vs.length+1=s.out+(vs.length+1) by omega]at hS
   have hS:=hS.rm (xs:=vs) (x:=x);obtain⟨a2,cp2,rfl,_⟩:=bF.at hS .hd;refine⟨⟨vs.length+1,_,vs++[x],H3,rfl,by simp,by omega,by omega,bw.le_trans fu fB,b_j fB hx,aR hS⟩,?_⟩;simp only[zza,yyc];omega
  have nY:m=vs.length:=by omega
  subst nY;exact⟨_,vs,H2,rfl,fu,A6,aR hS⟩
 clear hS;rintro lv w ⟨_,vs,H2,cT,fu,A6,hS⟩;cases cT;obtain⟨H3,fB,hR,hS⟩:=zw (H:=H2) (v:=lv) hS Xp;have hS:=cZ.gB fB hS Xr;have dO:s.L.take m≠[]:=λh=>by
  have:=yy1 List.length h;rw[zzg,yym]at this
  omega
 have JQ:vs.length=m:=by have:=A6.len;rw[zzg]at this;omega
 refine Cc (QS H3 lv vs (s.L.take m) hR (A6.mono fB) (cU:=cU) ⟨λx hx=>hI.it x (yys hx),hI.j7.take _,by rw[zzg];omega⟩ dO) ?_;clear hS;rintro _ post ⟨xv,H4,nm,rfl,hx,rfl⟩ w hS;try simp only[app]at hS
 have hS:=cZ.gB nm hS Xr;have kj:=hx.aw;obtain⟨xl,xo,xn⟩:=xv;simp only at kj;subst kj;refine Gm λb w hS=>?_;refine zt hS Xu rfl rfl (mL hx) λw hS=>?_;refine Gp ?_;refine Υ ?_;refine zr hS Xh rfl ?_;refine zo hR ?_;rw[JQ];refine Gp ?_;refine ZT (o:=4) (vs:=eU ⟨(km (s.L.take m)).aw,xo,xn⟩) hS Xu rfl (by show 7<=8;decide) (mL hx) λw hS=>?_;simp only[eU,List.take,List.drop,zzv,zzq]at hS;refine Gn λw hS=>?_;rw[gV];rw[uE]at hS
 have hS:=dA.eX (p:=p) (c:=c) (held:=km (s.L.take m)) (n:=m) hS hx Xp;exact⟨_,⟨rfl,H4,bw.le_trans fu (bw.le_trans fB nm),rfl⟩,aR hS⟩
def cUy(kp gp dp lp pp:Nat)(H:bw)(k:cV)(x:iK)(t:cJ)(hx:ik H x t)(hi:B' t)(xJ:∀o∈t.ops,lA o.key){N m:Nat}(hk:Ca k N m):
  SP 230 [agg [iy kp],agg (eU x)] [.ob (cZ kp gp dp lp pp H k),.mem H] (Au kp gp dp lp pp H (k.fX t)):=by
 refine Enzz λW F w hS=>?_;apply cOq;delta a_;refine zu hS λab w hS=>?_;refine zu hS λxb w hS=>?_;refine Gp ?_;refine Cc (Y8 kp gp dp lp pp H k x t hx hi xJ hk) ?_;clear hS;rintro v post ⟨rfl,H',hh,rfl⟩ w hS;try simp only[app]at hS
 exact⟨_,⟨rfl,H',hh,rfl⟩,aR hS⟩
def aIb(O:bw->fA->Μ)(H:bw)(y:fA × Int × Int)(v:Ε)(post:Β):Prop:=v= .tuple #[Γ y.2.1,Γ y.2.2]/\∃H',H.le H'/\post=[O H' y.1,.mem H']
def pK.iok{c:dW}{cU f:Nat}{s:fA}(h:pK c cU s f)(hn:0<s.n):eH s.held=true/\B' s.held/\∀o∈s.held.ops,lA o.key:=by
 have h1:=h.room;have h2:=h.out;have h3:=h.cap;rcases h.held with ⟨h4,_⟩|⟨_,h4⟩
 ·omega
 have hm:=(h4.may hn (by omega)).1;exact⟨hm,Kc hm⟩
def cze{a b c d:Ε}{l:Int}{ov nv e:Ε}:∀j v,([Γ l,ov,nv]:Ξ)[j]?=some v->[a,b,c,d,Γ l,ov,nv,e][4+j]?=some v
 | 0,v,h=>h
 | 1,v,h=>h
 | 2,v,h=>h
 | j+3,v,h=>by simp at h
def cU9(p:s_)(c:dW)(H:bw)(s:fA)(now draw:Int){cU f N m:Nat}(hI:pK c cU s f)(hf:f<=1000000)(hk:Ca s.k N m):
  SP 164 [iy p.wp,Γ now,Γ draw] [.ob (dA p c H s),.mem H] (aIb (λH s=>.ob (dA p c H s)) H (s.step c now draw)):=by
 refine Enzz λW F w hS=>?_;apply cMs;delta aI bW c_ b_ cP ai bR;refine Cc (ZX p c H s now) ?_;clear hS;rintro _ post ⟨rfl,rfl⟩ w hS;try simp only[app]at hS
 unfold fA.step;cases hr:s.ready now with
 | false=>
  rw[zzb (by decide)];refine Gp ?_;refine zq ?_;exact⟨_,⟨rfl,H,bw.le_refl H,rfl⟩,aR hS⟩
 | true=>
 rw[zzd rfl];refine Gp ?_;refine zp ?_;obtain⟨IV,nC⟩:=hI.hold hr;have jv:(s.hold c.cN).k=s.k:=by unfold fA.hold;split<;>rfl
 refine⟨λus w=>∃H2,us=[]/\H.le H2/\SL W (.ob (dA p c H2 (s.hold c.cN))::.mem H2::F) w,?_,?_⟩
 ·obtain⟨ov,nv,hi,hS⟩:=dA.open hS Xr;refine Gp ?_;have hS:=dA.put s hS hi Xp;refine za (λh=>?_) (λh=>?_)
  ·have hL:0<s.L.length:=by
    unfold fA.ready at hr;rw[zzb (by omega),zzw]at hr
    exact hr
   refine Cc (cUz p c H s hI (by omega) hL) ?_;clear hS;rintro _ post ⟨rfl,H2,fu,rfl⟩ w hS;(try simp only[app]at hS);refine Gp ?_
   refine Χ ?_;exact⟨H2,rfl,fu,aR hS⟩
  have e:s.hold c.cN=s:=by unfold fA.hold;rw[zzb (by omega)]
  rw[e];exact⟨H,rfl,bw.le_refl H,aR hS⟩
 clear hS;rintro w ⟨H2,-,fu,hS⟩;rw[<- jv]at hk
 clear hI jv hr;generalize s.hold c.cN=s1 at *
 obtain⟨ov,nv,hi,hS⟩:=dA.open hS Xr;obtain⟨hm,Ji,xJ⟩:=IV.iok nC;have uK:=IV.f0;have Bb:=IV.f1;have hg:=TC s1.n s1.out;refine Gn λw hS=>?_;refine yC (vs:=[iy p.kp]) hS Xh rfl (λj v h=>?_) ?_
 ·match j,h with
  | 0,h=>exact h
  | j+1,h=>simp at h
 refine Gp ?_;refine yC (vs:=[Γ s1.held.aw,ov,nv]) hS Xh rfl cze ?_;have hI2:ik H2 ⟨s1.held.aw,ov,nv⟩ s1.held:=hi;refine Cc (cUy p.kp p.gp p.dp p.lp p.pp H2 s1.k ⟨s1.held.aw,ov,nv⟩ s1.held hI2 Ji xJ hk) ?_;clear hS;rintro _ post ⟨rfl,H3,fB,rfl⟩ w hS;try simp only[app]at hS
 have pe:=bw.le_trans fu fB;have Uk:=hi.mono fB;unfold fA.hand;generalize s1.k.fX s1.held=y at *
 obtain⟨k',e⟩:=y;simp only at hS ⊢;refine cA (λh0=>?_) (λh0=>?_)
 ·rw[zzd h0];refine Gn λw hS=>?_;refine Cg (QF s1.n p.qp p.qb c.cap s1.out (s1.L.map ie)) λw hS=>?_;refine Cg (cJt p.rp c.b c.m c.j s1.fW s1.eQ) λw hS=>?_;refine ZT (o:=4) (vs:=[Γ 0,Θ,Θ]) hS Xu rfl (by show 7<=8;decide) (by simp[Value.oneCell']) λw hS=>?_;simp only[List.take,List.drop,zzv,zzq]at hS;refine Gn λw hS=>?_;have hS:SL W (_::_::_::_::.pt p.wp (nL p.kp p.qp p.rp c.cN n_.aw Θ Θ 0) 242::_) w:=hS;have hS:=dA.eX (p:=p) (c:=c) (H:=H3) (L:=s1.L) (held:=n_) (n:=0) (ov:=Θ) (nv:=Θ) hS ⟨rfl,de.nil _ _,de.nil _ _⟩ Xp;exact⟨_,⟨rfl,H3,pe,rfl⟩,aR hS⟩
 rw[zzb h0];refine cA (λh9=>?_) (λh9=>?_)
 ·rw[zzd h9];refine Gp ?_;refine Cg (cJ9 p.rp c.b c.m c.j s1.fW s1.eQ now draw (by omega)) λw hS=>?_;have hS:=dA.eX (p:=p) (c:=c) (H:=H3) (L:=s1.L) (held:=s1.held) hS Uk Xp;exact⟨_,⟨rfl,H3,pe,rfl⟩,aR hS⟩
 rw[zzb h9];have hS:=dA.eX (p:=p) (c:=c) (H:=H3) (L:=s1.L) (held:=s1.held) hS Uk Xp;exact⟨_,⟨rfl,H3,pe,rfl⟩,aR hS⟩
def aWy(s:Η):s=ep s.data.toList:=by cases s;simp[ep]
def aWx(l:Φ):(ep l).data.toList=l:=by simp[ep]
def XG{l:Φ}{k:Nat}{kk:IntKind}{K:Ε->Prop}(hk:k<=l.length)(h:K (.string (ep (l.take k)))):Zx (.string (ep l)) none (some (.int kk (k:Int))) K:=by
 refine⟨ep l,0,k,rfl,⟨kk,rfl⟩,rfl,zz4 _,by rw[nh];exact hk,?_⟩;have:(ep l).extract 0 k=ep (l.take k):=by apply ByteArray.ext;simp[ep,ByteArray.data_extract]
 rw[this];exact h
def XH{l:Φ}{k:Nat}{kk:IntKind}{K:Ε->Prop}(hk:k<=l.length)(h:K (.string (ep (l.drop k)))):Zx (.string (ep l)) (some (.int kk (k:Int))) none K:=by
 refine⟨ep l,k,(ep l).size,rfl,rfl,⟨kk,rfl⟩,by rw[nh];exact hk,zzi _,?_⟩;have:(ep l).extract k (ep l).size=ep (l.drop k):=by
  apply ByteArray.ext;rw[nh];simp[ep,ByteArray.data_extract];rw[zz7 (by rw[zzs];omega)]
 rw[this];exact h
def GM{P:Program}{w:Ζ}{t:Ι}{l:Φ}{j:Nat}{k:IntKind}{K:Ε->Prop}(ht:P.underlying t=some .string)(hj:j<l.length)(h:K (.int .u8 (l[j]).toNat)):eS P (Instr.index t (.string (ep l)) (.int k (j:Int))) w K:=by
 have e:(ep l)[j]'(by rw[nh];exact hj)=l[j]:=by simp[ep,ByteArray.getElem_eq_getElem_data]
 exact XI ht (by rw[nh];exact hj) (by rw[e];exact h)
def Ya(l p:Φ):SP 315 [.string (ep l),.string (ep p)] [] (cE (.bool (decide (l.take p.length=p))) []):=by
 refine Enzz λW F w hS=>?_;apply cQm;delta aI cz;refine Gp ?_;rw[nh,nh];refine za (λh=>?_) (λh=>?_)
 ·refine Gp ?_;rw[nh];refine XG (by omega) ?_;refine Gp ?_;rw[show decide (ep (l.take p.length)=ep p)=decide (l.take p.length=p) by rw[yyj];exact Sb];(exact cF hS)
 rw[zz3 λe=>by
  have:=yy1 List.length e;rw[zzg]at this
  omega]
 (exact cF hS)
def ZY(l p:Φ):SP 262 [.string (ep l),.string (ep p)] [] (cE (.tuple #[.string (ep (if l.take p.length=p then l.drop p.length else l)),.bool (decide (l.take p.length=p))]) []):=by
 refine Enzz λW F w hS=>?_;apply cPa;delta cP;refine Cg (Ya l p) λw hS=>?_;refine zy (λh=>?_) (λh=>?_)
 ·have h:=yy2 h;rw[zzb h,zz3 h];(exact cF hS)
 have h:=zzp h;rw[zzd h,zzo h];refine Gp ?_;rw[nh];refine XH ?_ ?_
 ·have:=yy1 List.length h;rw[zzg]at this
  omega
 (exact cF hS)
def Z6(l p:Φ):SP 187 [.string (ep l),.string (ep p)] [] (cE (.tuple #[.string (ep (if l.take p.length=p then l.drop p.length else l)),.bool (decide (l.take p.length=p))]) []):=by
 refine Enzz λW F w hS=>?_;apply cNe;refine Cg (ZY l p) λw hS=>?_;(exact cF hS)
def bR1(l:Φ)(c:Κ):firstIdx (ep l) c=lz (l.findIdx? λx=>decide (x=c)):=by
 have iu:∀i,i<l.length->(ep l)[i]! = l[i]!:=λi hi=>by
  have h2:i<(ep l).size:=by rw[nh];exact hi
  rw[wwy (ep l) i h2,wwy l i hi];simp[ep,ByteArray.getElem_eq_getElem_data]
 unfold firstIdx;rw[nh];cases hf:l.findIdx? (λx=>decide (x=c)) with
 | none=>
  have h1:=xxu.1 hf;have:(List.range l.length).find? (λi=>(ep l)[i]! == c)=none:=by
   rw[List.find?_range_eq_none];intro i hi;rw[iu i hi,wwy l i hi];have:=yy2 (h1 _ (zzh hi));simpa using this
  rw[this];rfl
 | some j=>
  obtain⟨hj,hk,rH⟩:=yyn.1 hf;have:(List.range l.length).find? (λi=>(ep l)[i]! == c)=some j:=by
   rw[List.find?_range_eq_some];refine⟨?_,List.mem_range.2 hj,λi hi=>?_⟩
   ·rw[iu j hj,wwy l j hj];simpa using hk
   rw[iu i (by omega),wwy l i (by omega)];have:=rH i hi;simpa using this
  rw[this];rfl
def Yc(l:Φ)(c:Κ):SP 358 [.string (ep l),.int .u8 c.toNat] [] (cE (Γ (lz (l.findIdx? λx=>decide (x=c)))) []):=by
 refine Enzz λW F w hS=>?_;apply cRk;refine⟨Γ (lz (l.findIdx? λx=>decide (x=c))),w,?_,?_⟩
 ·have:=run_callFunc_extern func386 (by kernel_rfl) (by kernel_rfl) (by kernel_rfl) (e:=Extern.BytealgIndexByte.indexByte) (by kernel_rfl) #[.string (ep l),.int .u8 c.toNat] w;rw[this,run_indexByte_string,bR1,show ((c.toNat:Int).toNat.toUInt8)=c by simp];rfl
 (exact cF hS)
def qJ(l:Φ)(c:Κ):SP 316 [.string (ep l),.string (ep [c])] [] (cE (Γ (lz (l.findIdx? λx=>decide (x=c)))) []):=by
 refine Enzz λW F w hS=>?_;apply cQn;delta aI ai;refine Gp ?_;refine⟨λ_ _=>False,?_,λw h=>h.elim⟩;rw[nh];refine Gp ?_;refine za (λh=>absurd h (by simp)) (λ_=>?_);refine cA (λh=>?_) (λ_=>?_)
 ·have h:=Sb.1 h;rw[<- h];exact⟨_,⟨by simp[lz],rfl⟩,hS⟩
 refine Gp ?_;refine za (λ_=>?_) (λh=>absurd (by simp) h);refine GM (j:=0) yyz (by simp) ?_;refine Cg (Yc l c) λw hS=>?_;(exact cF hS)
def mj(l:Φ)(c:Κ):Φ × Φ × Bool:=match l.findIdx? (λx=>decide (x=c)) with
 | none=>(l,[],false)
 | some i=>(l.take i,l.drop (i+1),true)
def bw2(l:Φ)(c:Κ)(hl:l.length<=4611686018427387904):SP 263 [.string (ep l),.string (ep [c])] [] (cE (.tuple #[.string (ep (mj l c).1),.string (ep (mj l c).2.1),.bool (mj l c).2.2]) []):=by
 refine Enzz λW F w hS=>?_;apply cPb;delta aI ai;refine Cg (qJ l c) λw hS=>?_;unfold mj;cases hf:l.findIdx? (λx=>decide (x=c)) with
 | none=>
  simp only[lz];refine Χ ?_;exact⟨_,⟨rfl,rfl⟩,hS⟩
 | some i=>
  have hi:=(yyn.1 hf).1;simp only[lz];refine Υ ?_;refine Gn λw hS=>?_;refine XG (by omega) ?_;refine Gp ?_;rw[nh];have e:([c]:Φ).length=1:=rfl;rw[e];refine Gp ?_;refine XH (by omega) ?_;exact⟨_,⟨rfl,rfl⟩,hS⟩
def bw1(l:Φ)(c:Κ)(hl:l.length<=4611686018427387904):SP 188 [.string (ep l),.string (ep [c])] [] (cE (.tuple #[.string (ep (mj l c).1),.string (ep (mj l c).2.1),.bool (mj l c).2.2]) []):=by
 refine Enzz λW F w hS=>?_;apply cNf;refine Cg (bw2 l c hl) λw hS=>?_;(exact cF hS)
def nW(l:Φ)(a b:Nat):Int:=match l with
 | [d]=>if a<=d.toNat/\d.toNat<=b then (d.toNat:Int)-48 else -1
 | _=>-1
def cI5:∀n:Fin 256,48<=n.1->IntKind.i64.wrap (IntKind.u8.wrap ((n.1:Int)-48))=(n.1:Int)-48:=by decide
def cHl{d:Κ}{K:Ε->Prop}(hd:48<=d.toNat)(h:K (Γ ((d.toNat:Int)-48))):zc .sub (.int .u8 d.toNat) (.int .u8 48) λv=>zP .i64 v K:=by
 refine⟨_,rfl,_,_,rfl,?_⟩;rw[cI5 ⟨d.toNat,d.toNat_lt⟩ hd];exact h
def Z7(l:Φ)(a b:Nat)(ha:48<=a):SP 189 [.string (ep l),.int .u8 a,.int .u8 b] [] (cE (Γ (nW l a b)) []):=by
 refine Enzz λW F w hS=>?_;apply cNg;delta aI ai;refine Gp ?_;rw[nh];refine za (λh=>?_) (λh=>?_)
 ·have e:nW l a b = -1:=by
   unfold nW;split
   ·simp at h
   rfl
  rw[e];(exact cF hS)
 obtain⟨d,rfl⟩:∃d,l=[d]:=List.length_eq_one_iff.1 (by omega);refine GM (j:=0) yyz (by simp) ?_;show zc .lss (.int .u8 d.toNat) (.int .u8 a) _;refine cA (λh1=>?_) (λh1=>?_)
 ·rw[show nW [d] a b = -1 from zzb (by omega)];(exact cF hS)
 refine GM (j:=0) yyz (by simp) ?_;show zc .gtr (.int .u8 d.toNat) (.int .u8 b) _;refine cA (λh2=>?_) (λh2=>?_)
 ·rw[show nW [d] a b = -1 from zzb (by omega)];(exact cF hS)
 refine GM (j:=0) yyz (by simp) ?_;refine cHl (d:=d) (by omega) ?_;rw[show nW [d] a b=(d.toNat:Int)-48 from zzd (by omega)];(exact cF hS)
def SX{l:Φ}{a b:Nat}(h:l.length≠1):nW l a b = -1:=by
 unfold nW;split
 ·simp at h
 rfl
def Io{d:Κ}{a b:Nat}(h:48<=a):nW [d] a b<0↔¬(a<=d.toNat/\d.toNat<=b):=by
 show (if a<=d.toNat/\d.toNat<=b then (d.toNat:Int)-48 else -1)<0↔_;split<;>omega
def BK(r:Φ):Option (Int × Int):=
 let c:=mj r 32
 if nW c.1 48 55<0\/(if c.2.2=true then nW c.2.1 49 56 else 1)<0 then none else some (nW c.1 48 55,if c.2.2=true then nW c.2.1 49 56 else 1)
def E7{d:Κ}{a b:Nat}(h:a<=d.toNat/\d.toNat<=b):nW [d] a b=(d.toNat:Int)-48:=zzd h
def ais{d:Κ}:d.toNat=32↔d=32:=⟨λh=>UInt8.toNat_inj.1 h,λh=>by rw[h];rfl⟩
def D0{r:Φ}(h:(mj r 32).1.length≠1\/((mj r 32).2.2=true/\(mj r 32).2.1.length≠1)):BK r=none:=by
 unfold BK;simp only;rw[zzd];rcases h with h|⟨h,h2⟩
 ·left;rw[SX h];decide
 right;rw[zzd h,SX h2];decide
def tf(d:Κ)(r:Φ):mj (d::r) 32=if d=32 then ([],r,true) else (d::(mj r 32).1,(mj r 32).2.1,(mj r 32).2.2):=by
 unfold mj;rw[List.findIdx?_cons];by_cases hd:d=32
 ·simp[hd]
 rw[zzb (by simpa using hd),zzb hd];cases r.findIdx? (λx=>decide (x=32))<;>simp
def cDv(r:Φ):wu r=BK r:=by
 match r with
 | []=>rw[D0 (.inl (by decide))];rfl
 | [d]=>
  by_cases hd:d=32
  ·subst hd;decide
  have hc:mj [d] 32=([d],[],false):=by rw[tf,zzb hd];rfl
  unfold BK wu;rw[hc];simp only;have:=Io (d:=d) (a:=48) (b:=55) (by decide);by_cases h:48<=d.toNat/\d.toNat<=55
  ·rw[zzd h,zzb (λx=>x.elim (λh2=>by rw[E7 h]at h2;omega) (λh2=>absurd h2 (by decide))),E7 h];rfl
  rw[zzb h,zzd (.inl (this.2 h))]
 | [d,s]=>
  have e:wu [d,s]=none:=rfl;rw[e,D0];rw[tf];by_cases hd:d=32
  ·rw[zzd hd];left;simp
  rw[zzb hd,tf];by_cases hs:s=32
  ·rw[zzd hs];right;exact⟨rfl,by simp⟩
  rw[zzb hs];left;simp
 | [d,s,e]=>
  by_cases hd:d=32
  ·have e1:wu [d,s,e]=none:=zzb (by rw[hd];simp);rw[e1,D0];rw[tf,zzd hd];left;simp
  by_cases hs:s=32
  ·have hc:mj [d,s,e] 32=([d],[e],true):=by rw[tf,zzb hd,tf,zzd hs]
   unfold BK wu;rw[hc];simp only[wwm];have h1:=Io (d:=d) (a:=48) (b:=55) (by decide);have h2:=Io (d:=e) (a:=49) (b:=56) (by decide);by_cases h:(48<=d.toNat/\d.toNat<=55)/\49<=e.toNat/\e.toNat<=56
   ·rw[zzd ⟨h.1,ais.2 hs,h.2⟩,zzb (by omega),E7 h.1,E7 h.2]
   rw[zzb (λx=>h ⟨x.1,x.2.2⟩),zzd (by omega)]
  have e1:wu [d,s,e]=none:=zzb (λx=>hs (ais.1 x.2.1));rw[e1,D0];rw[tf,zzb hd,tf,zzb hs];left;simp
 | d::s::e::f::t=>
  have e1:wu (d::s::e::f::t)=none:=rfl;rw[e1,D0];rw[tf];by_cases hd:d=32
  ·rw[zzd hd];left;simp
  rw[zzb hd,tf];by_cases hs:s=32
  ·rw[zzd hs];right;exact⟨rfl,by simp⟩
  rw[zzb hs];left;simp
def GU(o:Option (Int × Int)):Ε:=.tuple #[agg [Γ (o.getD (0,0)).1,Γ (o.getD (0,0)).2],.bool o.isSome]
def Yf(s:Η)(hs:s.size<=4611686018427387904):SP 129 [.string s] [] (cE (GU (Aj s)) []):=by
 refine Enzz λW F w hS=>?_;apply cLu;delta aI a_ cP ED ai;rw[aWy s]at hs ⊢
 generalize hl:s.data.toList=l at *
 rw[nh]at hs
 unfold Aj;rw[aWx];refine Gb λrb w hS=>?_;refine Cg (Z6 l vl) λw hS=>?_;by_cases hp:l.take vl.length=vl
 ·rw[zzd hp,zzo hp,show l.take 9=vl from hp,zzd rfl];refine zp ?_;refine Cg (bw1 (l.drop vl.length) 32 (by rw[zzs];omega)) λw hS=>?_;rw[cDv,show l.drop 9=l.drop vl.length from rfl];generalize l.drop vl.length=r at *
  unfold BK;generalize mj r 32=c at *
  obtain⟨A,B,q⟩:=c;simp only at hS ⊢;refine Cc (Z7 A 48 55 (by decide)) ?_;clear hS;rintro _ post ⟨rfl,rfl⟩ w hS;try simp only[app]at hS
  refine Gm λnb w hS=>?_;refine⟨λus w=>us=[]/\SL W (.pt nb [Γ (nW A 48 55),Γ (if q=true then nW B 49 56 else 1)] 227::.pt rb [Γ 0,Γ 0] 227::F) w,?_,?_⟩
  ·refine yU (λhq=>?_) (λhq=>?_)
   ·rw[zzd hq];refine Cg (Z7 B 49 56 (by decide)) λw hS=>?_;(first|exact aR hS|exact⟨rfl,aR hS⟩)
   rw[zzb (by simp[hq])];exact⟨rfl,aR hS⟩
  clear hS;rintro w ⟨-,hS⟩;refine cA (λh=>?_) (λh=>?_)
  ·rw[zzd (.inl h)];refine Gn λw hS=>?_;exact cF hS
  refine cA (λh2=>?_) (λh2=>?_)
  ·rw[zzd (.inr h2)];refine Gn λw hS=>?_;exact cF hS
  rw[zzb (by omega)];refine Gn λw hS=>?_;exact cF hS
 rw[zz3 hp,zzb (show ¬l.take 9=vl from hp)];refine zq ?_;refine Gn λw hS=>?_;exact cF hS
def cx0{P:Program}{T:List Bool}{f g:FuncId}{sz:Nat}{α:Type}{enc:α->Ξ}(hn:∀x,(enc x).length=sz)(hT:T.getD g false=true){cap:Array Ε}{c:Μ}{q:α->Bool}{H:bw}
  (vc:∀v0 v1 w R,EA P T sz v0 v1 w R->zB P f [v0,v1] w R) (one:∀x,Spec P g ([agg (enc x)]++cap.toList) [c] (cE (.bool (q x)) [c]))
  (v:Ε) (xs:List α) (hv:de H sz v xs.length (xs.map enc).flatten) (hl:xs.length<=9223372036854775806) :
  Spec P f [v,.func (.func g) #[] cap] [c,.mem H] (cE (Γ (lz (xs.findIdx? q))) [c,.mem H]):=by
 intro W F w hS;apply vc;unfold EA;have hS:SL W (c::.mem H::F) w:=hS;refine zo hv ?_;refine⟨λvs w=>∃k:Nat,vs=[Γ k]/\k<=xs.length/\(∀j (h:j<xs.length),j<k->q xs[j]=false)/\SL W (c::.mem H::F) w,λvs _=>match vs with|[.int _ k]=>(xs.length-k).toNat|_=>0,⟨0,rfl,by omega,λj h hj=>by omega,hS⟩,?_⟩;clear hS;rintro v8 w ⟨k,hv,hk,hq,hS⟩;cases hv;refine cA (λh=>?_) (λh=>?_)
 ·have mv:k<xs.length:=by omega
  refine zF hS Xh hn ‹_› (x:=xs[k]) (by simp[mv]) mv ?_;refine ye (args':=[agg (enc xs[k])]++cap.toList) hT (one xs[k]) (by simp) hS Xp ?_;clear hS;rintro _ post ⟨rfl,rfl⟩ w hS;try simp only[app]at hS
  cases Dr:q xs[k] with
  | true=>
   refine zq ?_;have e:xs.findIdx? q=some k:=yyn.2 ⟨mv,Dr,λj hj=>by rw[hq j (by omega) hj];decide⟩;rw[e];exact⟨_,⟨rfl,rfl⟩,hS⟩
  | false=>
   refine zp ?_;refine Gp ?_;refine⟨⟨k+1,rfl,by omega,λj h hj=>?_,hS⟩,by dsimp only;omega⟩;rcases xx6 j k with De|De
   ·exact hq j h De
   obtain rfl:j=k:=by omega
   exact Dr
 have e:xs.findIdx? q=none:=xxu.2 λx hx=>by
  obtain⟨j,hj,rfl⟩:=xxa.1 hx;exact hq j hj (by omega)
 rw[e];exact⟨_,⟨rfl,rfl⟩,hS⟩
structure dJ.Ok(m:dJ):Prop where
 reqs:gm m.reqs
 t1:1<=m.tables/\m.tables<=8
 rows:m.cI.rows.length<=1000
 mg:0<=m.at_/\m.at_<=1099511627776
abbrev Ae(m:dJ)(wp:Nat)(rv:Ε):Ξ:=[cH wp,Γ m.tables,Γ m.late,Γ m.at_,rv]
def db(mp wp:Nat)(H:bw)(m:dJ):zC:=jT λrv:Ε=>zH (iZ H rv m.reqs) [.pt mp (Ae m wp rv) 140,.ob (dN wp m.cI)]
section
variable {W w:Ζ} {l F:Β} {mp wp:Nat} {H H':bw}
def db.iff{m:dJ}:SL W (.ob (db mp wp H m)::l) w↔∃rv,iZ H rv m.reqs/\SL W (.pt mp (Ae m wp rv) 140::.ob (dN wp m.cI)::l) w:=by
 unfold db;simp only[SL.ex,SL.fact,zzv,zzq]
def db.put(m:dJ)(rv:Ε)(hr:iZ H rv m.reqs)(hS:SL W l w)(p:gE [.pt mp (Ae m wp rv) 140,.ob (dN wp m.cI)] l F):SL W (.ob (db mp wp H m)::F) w:=db.iff.2 ⟨rv,hr,hS.pick p⟩
def db.gB{m:dJ}(hh:H.le H')(hS:SL W l w)(r:fq (.ob (db mp wp H m)) l F):SL W (.ob (db mp wp H' m)::F) w:=by
 obtain⟨rv,h1,h2⟩:=db.iff.1 (hS.perm r.perm);exact db.iff.2 ⟨rv,h1.mono hh,h2⟩
end
def YB(H:bw)(v:Ε)(L:List Rq)(tables aw:Int)(hv:iZ H v L)(hn:L.length<=1000):
  SP 201 [v,Γ tables,Γ aw] [.mem H] (λu post=>∃q:Bool,u= .bool q/\(q=true↔gm L/\∀r∈L,r.table<tables/\r.at_<=aw)/\post=[.mem H]):=by
 refine Enzz λW F w hS=>?_;apply cNu;delta aI a_ cz ai;refine zo hv ?_;refine⟨λus w=>∃i:Nat,us=[Γ i]/\i<=L.length/\(∀j (h:j<L.length),j<i->L[j].table<tables/\L[j].at_<=aw)/\SL W (.mem H::F) w,λus _=>match us with|[.int _ i]=>(L.length-i).toNat|_=>0,⟨0,rfl,by omega,λj h hj=>by omega,hS⟩,?_⟩;clear hS;rintro v11 w ⟨i,cT,hi,eK,hS⟩;cases cT;refine cA (λh=>?_) (λh=>?_)
 ·have cG:i<L.length:=by omega
  have hx:L[i]?=some L[i]:=zzc cG;have hm:=zzh cG;refine zF hS Xh nj hv hx cG ?_;have px:L[i].table<tables/\L[i].at_<=aw->∀j (h:j<L.length),j<i+1->L[j].table<tables/\L[j].at_<=aw:=λh j hj jk=>by
   rcases xx6 j i with h2|h2
   ·exact eK j hj h2
   obtain rfl:j=i:=by omega
   exact h
  generalize L[i]=r at *
  refine Gb λxb w hS=>?_;refine za (λh2=>⟨_,⟨false,rfl,⟨(λe=>by cases e),λx=>by have:=(x.2 r hm).1;omega⟩,rfl⟩,aR hS⟩) (λh2=>?_);refine Gp ?_;refine za (λh3=>⟨_,⟨false,rfl,⟨(λe=>by cases e),λx=>by have:=(x.2 r hm).2;omega⟩,rfl⟩,aR hS⟩) (λh3=>?_);refine Gp ?_;exact⟨⟨i+1,rfl,by omega,px ⟨by omega,by omega⟩,aR hS⟩,by dsimp only;omega⟩
 refine Cc (Zo H v L hv (by omega)) ?_;clear hS;rintro _ post ⟨q,rfl,hq,rfl⟩ w hS;try simp only[app]at hS
 refine⟨_,⟨q,rfl,hq.trans ⟨λx=>⟨x,λr hr=>?_⟩,λx=>x.1⟩,rfl⟩,hS⟩;obtain⟨j,hj,rfl⟩:=yyl hr;exact eK j hj (by omega)
def LI(H:bw)(tables late chunk aw:Int)(L:List Rq)(v:Ε)(post:Β):Prop:=
 (DT tables late chunk aw L/\(∃e:Int,e≠0/\v= .tuple #[.pointer none,Γ e])/\post=[.mem H]) \/
 (¬DT tables late chunk aw L/\∃(mp wp:Nat) (H':bw),H.le H'/\v= .tuple #[cH mp,Γ 0]/\post=[.ob (db mp wp H' ⟨tables,late,aw,L,nf chunk⟩),.mem H'])
def cBt(H:bw)(tables late chunk aw:Int)(v:Ε)(L:List Rq)(hv:iZ H v L)(hn:L.length<=1000):
  SP 144 [Γ tables,Γ late,Γ chunk,Γ aw,v] [.mem H] (LI H tables late chunk aw L):=by
 refine Enzz λW F w hS=>?_;apply cL8;delta aI cP ai cY bR;have fK:∀{e:Int} {w:Ζ},e≠0->DT tables late chunk aw L->SL W (.mem H::F) w->∃post,LI H tables late chunk aw L (.tuple #[.pointer none,Γ e]) post/\SL W (app post F) w:=λhe h hS=>⟨_,.inl ⟨h,⟨_,he,rfl⟩,rfl⟩,hS⟩;refine Gp ?_;refine za (λh=>fK (by decide) (.inl h) hS) (λh1=>?_);refine Gp ?_;refine za (λh=>fK (by decide) (.inr (.inl h)) hS) (λh2=>?_);refine Gp ?_;refine za (λh=>fK (by decide) (.inr (.inr (.inl h))) hS) (λh3=>?_);obtain⟨n,rfl⟩:∃n:Nat,tables=n:=⟨tables.toNat,by omega⟩;have cXc:(2:Int) ^ n<=256:=by
  have:n<=8:=by omega
  match n,this with
  | 0,_=>decide
  | 1,_=>decide
  | 2,_=>decide
  | 3,_=>decide
  | 4,_=>decide
  | 5,_=>decide
  | 6,_=>decide
  | 7,_=>decide
  | 8,_=>decide
 have xU:(0:Int)<2 ^ n:=Int.pow_pos (by decide);refine Q7 (by omega) (by omega) ?_;rw[Int.one_mul];refine Gp ?_;refine za (λh=>fK (by decide) (.inr (.inr (.inr (.inl (by rw[zzz];exact h))))) hS) (λh4=>?_);refine Gp ?_;refine za (λh=>fK (by decide) (.inr (.inr (.inr (.inr (.inl h))))) hS) (λh5=>?_);refine Gp ?_;refine za (λh=>fK (by decide) (.inr (.inr (.inr (.inr (.inr (.inl h)))))) hS) (λh6=>?_);refine Cc (YB H v L n aw hv hn) ?_;clear hS;rintro _ post ⟨q,rfl,hq,rfl⟩ w hS;(try simp only[app]at hS);refine Gp ?_
 refine zy (λhe=>?_) (λhe=>?_)
 ·refine fK (by decide) (.inr (.inr (.inr (.inr (.inr (.inr (.inr (.inr ?_)))))))) hS;by_cases hm:gm L
  ·right;refine Classical.byContradiction λhx=>?_;have:q=true:=hq.2 ⟨hm,λr hr=>by
    refine⟨Int.not_le.1 λh=>hx ⟨r,hr,.inl h⟩,Int.not_lt.1 λh=>hx ⟨r,hr,.inr h⟩⟩⟩
   rw[he]at this;cases this
  exact .inl hm
 obtain⟨hm,eK⟩:=hq.1 he;refine Cc (cU3 chunk) ?_;clear hS;rintro r post lu w hS;rcases lu with ⟨h7,rfl,rfl⟩|⟨h7,wp,rfl,rfl⟩
 ·(try simp only[app]at hS);refine Gp ?_
  refine Υ ?_;exact fK (by decide) (.inr (.inr (.inr (.inr (.inr (.inr (by omega))))))) hS
 (try simp only[app]at hS);refine Gp ?_
 refine Χ ?_;refine yZ (cells:=[cH wp]) (by simp[ib,Value.cells,cH]) ?_;refine Cc (ya H v L hv hn) ?_;clear hS;rintro u post rfl w hS;try simp only[app]at hS
 obtain⟨H1,du,hR,hS⟩:=zw (H:=H) (v:=u) hS Xp;have hu:u.oneCell'=true:=hR.one;refine yZ (cells:=[cH wp,Γ n,Γ late,Γ aw,u]) (by simp[ib,show ∀n,(Γ n).cells = #[Γ n] from λ_=>rfl,show ∀v,(Value.agg #[v]).cells = #[v] from λ_=>rfl,BH hu]) ?_;refine⟨_,rfl,zE hS λmp w hS=>?_⟩;have cL:¬DT n late chunk aw L:=by
  rintro (h|h|h|h|h|h|h|h|h|⟨r,hr,h⟩)
  ·exact h1 h
  ·exact h2 h
  ·exact h3 h
  ·rw[zzz]at h;exact h4 h
  ·exact h5 h
  ·exact h6 h
  ·omega
  ·omega
  ·exact h hm
  have:=eK r hr;omega
 have hS:=db.put (wp:=wp) ⟨n,late,aw,L,nf chunk⟩ u hR hS Xp;exact⟨_,.inr ⟨cL,mp,wp,H1,du,rfl,rfl⟩,aR hS⟩
section
variable (mp wp:Nat) (H:bw) (m:dJ)
def yx:SP 60 [cH mp] [.ob (db mp wp H m)] (cE (Γ m.at_) [.ob (db mp wp H m)]):=by
 refine Enzz λW F w hS=>?_;apply cTk;delta bW;obtain⟨rv,hr,hS⟩:=db.iff.1 hS;refine Gp ?_;exact⟨_,⟨rfl,rfl⟩,SL.cD (db.put m rv hr hS Xp) Xi⟩
def yy(hn:m.reqs.length<=1000):SP 73 [cH mp] [.ob (db mp wp H m),.mem H] (λu post=>post=[.ob (bF u 86 7 m.reqs.length (m.reqs.map gF).flatten),.ob (db mp wp H m),.mem H]):=by
 refine Enzz λW F w hS=>?_;apply cTw;delta bW;obtain⟨rv,hr,hS⟩:=db.iff.1 hS;refine Gp ?_;refine Cc (ya H rv m.reqs hr hn) ?_;clear hS;rintro u post rfl w hS;try simp only[app]at hS
 exact⟨_,rfl,SL.cD (db.put m rv hr hS Xp) Xi⟩
def YT:SP 55 [agg [cH wp]] [] (cE (cH wp) []):=by
 refine Enzz λW F w hS=>?_;apply cTe;delta a_;refine zu hS λxb w hS=>?_;refine Gp ?_;exact cF hS
def ZO(k:dM)(x:lM):SP 78 [agg [cH wp],agg (eV x)] [.ob (dN wp k)] (cE (.bool (k.waits x.kind x.mark)) [.ob (dN wp k)]):=by
 refine Enzz λW F w hS=>?_;apply cT0;delta a_;refine zu hS λxb w hS=>?_;refine zu hS λyb w hS=>?_;refine Gp ?_;refine Cg (Qn wp k x) λw hS=>?_;exact cF hS
def a_o(b:Nat)(t:Int)(r:Rq):SP 333 ([agg (gF r)]++(#[cH b]:Array Ε).toList) [.pt b [Γ t] 3] (cE (.bool (decide (r.table=t))) [.pt b [Γ t] 3]):=by
 refine Enzz λW F w hS=>?_;apply cQ6;delta a_;refine zu hS λxb w hS=>?_;unfold gF at hS;refine Gp ?_;exact cF hS
def aR2{α:Type}{l:List α}{q:α->Bool}:decide (0<=lz (l.findIdx? q))=l.any q:=by
 cases h:l.findIdx? q with
 | none=>
  have:=xxu.1 h;rw[show l.any q=false by rw[List.any_eq_false];exact λx hx=>by rw[this x hx];decide];rfl
 | some i=>
  obtain⟨hi,hk,_⟩:=yyn.1 h;rw[show l.any q=true from List.any_eq_true.2 ⟨_,zzh hi,hk⟩];exact zzo (by simp only[lz];omega)
def Yy(hn:m.reqs.length<=1000)(t:Int):SP 286 [cH mp,Γ t] [.ob (db mp wp H m),.mem H] (cE (.bool (m.captured t)) [.ob (db mp wp H m),.mem H]):=by
 refine Enzz λW F w hS=>?_;apply cP0;delta aI bW cz ai;obtain⟨rv,hr,hS⟩:=db.iff.1 hS;unfold dJ.captured;refine⟨rfl,zE hS λb w hS=>?_⟩;refine Gn λw hS=>?_;refine za (λh=>?_) (λh1=>?_)
 ·rw[zz3 (by omega),uu5];exact⟨_,⟨rfl,rfl⟩,SL.cD (db.put m rv hr hS Xp) Xi⟩
 refine cA (λh=>?_) (λh2=>?_)
 ·rw[zz3 (by omega),uu5];exact⟨_,⟨rfl,rfl⟩,SL.cD (db.put m rv hr hS Xp) Xi⟩
 rw[zzo (show 0<=t/\t<m.tables by omega),uua];refine Gn λw hS=>?_;refine cGd (by omega) ?_;refine cA (λh=>?_) (λh3=>?_)
 ·rw[zzo h,Bool.true_or];exact⟨_,⟨rfl,rfl⟩,SL.cD (db.put m rv hr hS Xp) Xi⟩
 rw[zz3 h3,Bool.false_or];refine Gp ?_;have hC:SP 332 [rv,.func (.func 333) #[] #[cH b]] [.pt b [Γ t] 3,.mem H] (cE (.bool (m.reqs.any λr=>decide (r.table=t))) [.pt b [Γ t] 3,.mem H]):=by
  refine Enzz λW F w hS=>?_;apply cQ5;delta ai;refine Cg (cx0 nj rfl (λv0 v1 w R h=>cRp v0 v1 w R h) (λr=>a_o b t r) rv m.reqs hr (by omega)) λw hS=>?_;rw[aR2];exact⟨_,⟨rfl,rfl⟩,hS⟩
 refine Cg (hC) λw hS=>?_;exact⟨_,⟨rfl,rfl⟩,SL.cD (db.put m rv hr hS Xp) Xi⟩
end
abbrev s6(v:Ε)(l:List iC):Μ:=.ob (bF v 392 7 l.length (l.map kT).flatten)
abbrev Hd(v:Ε)(l:List gx):Μ:=.ob (bF v 389 5 l.length (l.map jO).flatten)
def Y9(mp wp:Nat)(H:bw)(m:dJ)(hm:m.Ok)(s:Η)(hs:s.size<=1000)(aw:Int):
  SP 285 [cH mp,.string s,Γ aw] [.ob (db mp wp H m),.mem H] (λv post=>∃H',H.le H'/\post=[s6 v (m.accept s aw).2,.ob (db mp wp H' {m with reqs:=(m.accept s aw).1}),.mem H']):=by
 refine Enzz λW F w hS=>?_;apply cPz;delta aI bW a_ c_ cP ai bR;have Dt:=hm.reqs.1;have fC:∀{w:Ζ},m.accept s aw=(m.reqs,[])->SL W (.ob (db mp wp H m)::.mem H::F) w->∃post,(∃H',H.le H'/\post=[s6 Θ (m.accept s aw).2,.ob (db mp wp H' {m with reqs:=(m.accept s aw).1}),.mem H'])/\SL W (app post F) w:=λe hS=>by
  rw[e];have hS:SL W (s6 Θ []::.ob (db mp wp H m)::.mem H::F) _:=bF.nil hS;exact⟨_,⟨H,bw.le_refl H,rfl⟩,hS⟩
 refine Cc (Yf s (by omega)) ?_;clear hS;rintro _ post ⟨rfl,rfl⟩ w hS;try simp only[app]at hS
 unfold GU;cases hp:Aj s with
 | none=>
  simp only[vvb,uu7];refine Gm λb w hS=>?_;refine zq ?_;exact fC (by unfold dJ.accept;rw[hp]) (aR hS)
 | some g=>
  obtain⟨t,wt⟩:=g;simp only[xxj,uu8];refine Gm λb w hS=>?_;refine zp ?_;obtain⟨rv,hr,hS⟩:=db.iff.1 (SL.cD hS (t:=.ob (db mp wp H m)::.pt b [Γ t,Γ wt] 227::.mem H::F) Xi);refine cA (λh=>?_) (λh1=>?_)
  ·exact fC (by unfold dJ.accept;rw[hp];simp only;rw[zzd h]) (SL.cD (db.put m rv hr hS Xp) Xi)
  refine Gn λw hS=>?_;have Fu:m.accept s aw=match pL m.reqs t wt aw with
   | none=>(m.reqs,[])
   | some L=>(L,[⟨1,L.length,t,wt,aw,0,false⟩]):=by
   unfold dJ.accept;rw[hp];simp only;rw[zzb h1];rfl
  refine Cc (Zq H rv m.reqs t wt aw hr (by omega)) ?_;clear hS;rintro u post ⟨H1,du,rfl,hq⟩ w hS;try simp only[app]at hS
  cases ha:pL m.reqs t wt aw with
  | none=>
   rw[ha]at hq Fu
   subst hq;refine Gp ?_;refine zq ?_;have hS:=db.put m rv (hr.mono du) hS Xp;rw[Fu];have hS:SL W (s6 Θ []::.ob (db mp wp H1 m)::_) _:=bF.nil hS;exact⟨_,⟨H1,du,rfl⟩,aR hS⟩
  | some L=>
   rw[ha]at hq Fu
   obtain⟨x,rfl,hx⟩:=hq;have ox:x.oneCell'=true:=hx.one;refine Gp ?_;refine zp ?_;refine Gn λw hS=>?_;refine zo hx ?_;refine Gm λnb w hS=>?_;rw[Fu];have hS:=db.put (mp:=mp) (wp:=wp) {m with reqs:=L} x hx hS Xp;have hS:SL W (s6 (.slice (some ⟨nb,0,none⟩) 1 1) [⟨1,L.length,t,wt,aw,0,false⟩]::.ob (db mp wp H1 {m with reqs:=L})::.mem H1::F) w:=bF.full (sz:=7) rfl (SL.cD hS (t:=.pt nb [Γ 1,Γ L.length,Γ t,Γ wt,Γ aw,Γ 0,.bool false] 392::.ob (db mp wp H1 {m with reqs:=L})::.mem H1::F) Xi);exact⟨_,⟨H1,du,rfl⟩,aR hS⟩
def RL(aw:Int):∀(l:Ψ) (m:dJ) (s:Η),m.fr aw (l++[s])=({(m.fr aw l).1 with reqs:=((m.fr aw l).1.accept s aw).1},(m.fr aw l).2++((m.fr aw l).1.accept s aw).2)
 | [],m,s=>by simp[dJ.fr]
 | x::l,m,s=>by
  show (let r:=m.accept x aw;let y:=dJ.fr {m with reqs:=r.1} aw (l++[s]);(y.1,r.2++y.2))=_;simp only;rw[RL aw l];simp[dJ.fr,zzk]
def RI{m:dJ}(h:gm m.reqs)(s:Η)(aw:Int):gm (m.accept s aw).1/\(m.accept s aw).2.length<=1:=by
 unfold dJ.accept;split
 ·exact⟨h,by simp⟩
 split
 ·exact⟨h,by simp⟩
 split
 ·exact⟨h,by simp⟩
 rename_i L hL;exact⟨Cu hL,by simp⟩
def HK(aw:Int):∀(l:Ψ) {m:dJ},m.Ok->(m.fr aw l).1.Ok/\(m.fr aw l).2.length<=l.length/\(m.fr aw l).1.cI=m.cI/\(m.fr aw l).1.tables=m.tables/\(m.fr aw l).1.late=m.late/\(m.fr aw l).1.at_=m.at_
 | [],m,h=>⟨h,by simp[dJ.fr],rfl,rfl,rfl,rfl⟩
 | x::l,m,h=>by
  have h1:=RI h.reqs x aw;have h2:=HK aw l (m:={m with reqs:=(m.accept x aw).1}) ⟨h1.1,h.t1,h.rows,h.mg⟩;unfold dJ.fr;simp only;refine⟨h2.1,?_,h2.2.2⟩;rw[zza,zzj];have:=h2.2.1;omega
def cDr{α:Type}{enc:α->Ξ}{v:Ε}{t:Ι}{sz:Nat}{A B:List α}:bF v t sz (A.length+B.length) ((A.map enc).flatten++(B.map enc).flatten)=bF v t sz (A++B).length ((A++B).map enc).flatten:=by
 rw[zza,zzt,yyy]
def LF(mp wp:Nat)(H:bw)(y:dJ × cJ)(u:Ε)(post:Β):Prop:=∃(x:iK) (H':bw),H.le H'/\u=agg (eU x)/\ik H' x y.2/\post=[.ob (db mp wp H' y.1),.mem H']
def qa(mp wp:Nat)(H:bw)(m:dJ)(hm:m.Ok)(x:lM)(t:cM)(hx:lL H x t)(hs:t.signals.length<=2)(cwx:∀s∈t.signals,s.size<=40)(hc:t.changes.length<=16):
  SP 216 [cH mp,agg (eV x)] [.ob (db mp wp H m),.mem H] (LF mp wp H (m.AO t)):=by
 refine Enzz λW F w hS=>?_;apply cOa;delta aI a_ aW b_ ai cR bR;refine zu hS λxb w hS=>?_;unfold eV at hS;rw[hx.aw]at hS
 have sG:=hx.cv;have Bq:=hx.sv;refine Gm λzb w hS=>?_;refine Gm λyb w hS=>?_;refine zo Bq ?_;have hS:SL W (s6 Θ []::_) w:=bF.nil hS;have hS:=SL.cD hS (t:=s6 Θ []::.ob (db mp wp H m)::.pt yb [Γ t.aw,Θ,Θ] 240::.pt zb [Γ 0,Θ,Θ] 240::.pt xb [Γ t.aw,Γ x.kind,x.cv,x.sv,Γ x.mark] 89::.mem H::F) Xi;refine⟨λus w=>∃(i:Nat) (nv:Ε) (H1:bw),us=[Γ i]/\i<=t.signals.length/\H.le H1/\SL W (s6 nv (m.fr t.aw (t.signals.take i)).2::.ob (db mp wp H1 (m.fr t.aw (t.signals.take i)).1)::.pt yb [Γ t.aw,Θ,nv] 240::.pt zb [Γ 0,Θ,Θ] 240::.pt xb [Γ t.aw,Γ x.kind,x.cv,x.sv,Γ x.mark] 89::.mem H1::F) w,
  λus _=>match us with|[.int _ i]=>(t.signals.length-i).toNat|_=>0,⟨0,Θ,H,rfl,by omega,bw.le_refl H,hS⟩,?_⟩
 clear hS;rintro wE w ⟨i,nv,H1,cT,hi,du,hS⟩;cases cT;refine cA (λh=>?_) (λh=>?_)
 ·have cG:i<t.signals.length:=by omega
  have IZ:=HK t.aw (t.signals.take i) hm;have gg:t.signals.take (i+1)=t.signals.take i++[t.signals[i]]:=zze cG;have Dz:=RL t.aw (t.signals.take i) m t.signals[i];rw[<- gg]at Dz
  have xt:=cwx _ (zzh cG);have dj:(t.signals.take i).length<=2:=by rw[zzg];omega
  refine yT hS Xh (Bq.mono du) cG (u:=.string t.signals[i]) (by simp[cG]) ?_;refine Gn λw hS=>?_;refine Cc (Y9 mp wp H1 (m.fr t.aw (t.signals.take i)).1 IZ.1 t.signals[i] (by omega) t.aw) ?_;clear hS;rintro v post ⟨H2,dF,rfl⟩ w hS;try simp only[app]at hS
  have vS:=(RI IZ.1.reqs t.signals[i] t.aw).2;have hl2:=IZ.2.1;refine Gp ?_;refine zJ (n:=(m.fr t.aw (t.signals.take i)).2.length) (m:=((m.fr t.aw (t.signals.take i)).1.accept t.signals[i] t.aw).2.length) (cells:=((m.fr t.aw (t.signals.take i)).2.map kT).flatten) (cs:=(((m.fr t.aw (t.signals.take i)).1.accept t.signals[i] t.aw).2.map kT).flatten) hS Xr (nG hS Xh) (mN xd _) rfl (sW It _) (by omega) (by omega) λv2 w hS=>?_;have o1:v2.oneCell'=true:=bF.one hS;rw[cDr,show (m.fr t.aw (t.signals.take i)).2++((m.fr t.aw (t.signals.take i)).1.accept t.signals[i] t.aw).2=(m.fr t.aw (t.signals.take (i+1))).2 by rw[Dz]]at hS
  refine Gn λw hS=>?_;rw[show (⟨(m.fr t.aw (t.signals.take i)).1.tables,(m.fr t.aw (t.signals.take i)).1.late,(m.fr t.aw (t.signals.take i)).1.at_,((m.fr t.aw (t.signals.take i)).1.accept t.signals[i] t.aw).1,(m.fr t.aw (t.signals.take i)).1.cI⟩:dJ)=(m.fr t.aw (t.signals.take (i+1))).1 by rw[Dz]]at hS
  exact⟨⟨i+1,v2,H2,rfl,by omega,bw.le_trans du dF,aR hS⟩,by dsimp only;omega⟩
 have FQ:t.signals.take i=t.signals:=zz7 (by omega);rw[FQ]at hS
 obtain⟨sK,Bk,rM,tR,dj,iu⟩:=HK t.aw t.signals hm;have mP:m.AO t=({(m.fr t.aw t.signals).1 with cI:=(m.fr t.aw t.signals).1.cI.rU t.changes},⟨t.aw,mB (m.fr t.aw t.signals).1 t.aw t.changes,(m.fr t.aw t.signals).2⟩):=rfl;rw[mP];generalize m.fr t.aw t.signals=y at *
 obtain⟨m1,N⟩:=y;simp only at hS sK Bk ⊢;clear rM tR dj iu mP;refine Gp ?_;refine zo (sG.mono du) ?_;have hS:SL W (Hd Θ (mB m1 t.aw (t.changes.take 0))::_) w:=bF.nil hS;refine⟨λus w=>∃(i:Nat) (ov:Ε),us=[Γ i]/\i<=t.changes.length/\SL W (Hd ov (mB m1 t.aw (t.changes.take i))::s6 nv N::.ob (db mp wp H1 m1)::.pt yb [Γ t.aw,ov,nv] 240::.pt zb [Γ 0,Θ,Θ] 240::.pt xb [Γ t.aw,Γ x.kind,x.cv,x.sv,Γ x.mark] 89::.mem H1::F) w,
  λus _=>match us with|[.int _ i]=>(t.changes.length-i).toNat|_=>0,⟨0,Θ,rfl,by omega,aR hS⟩,?_⟩
 clear hS;rintro v33 w ⟨i,ov,cT,hi,hS⟩;cases cT;refine cA (λh=>?_) (λh=>?_)
 ·have cG:i<t.changes.length:=by omega
  have F4:t.changes[i]?=some t.changes[i]:=zzc cG;have gg:t.changes.take (i+1)=t.changes.take i++[t.changes[i]]:=zze cG;have fj:mB m1 t.aw (t.changes.take (i+1))=mB m1 t.aw (t.changes.take i)++(if m1.captured t.changes[i].table=true then [⟨t.aw,t.changes[i].table,t.changes[i].key,t.changes[i].gone,t.changes[i].val⟩] else []):=by
   unfold mB;rw[gg,yyx,zzt];congr 1;rw[xx5];split<;>simp
  have xS:(mB m1 t.aw (t.changes.take i)).length<=16:=by
   unfold mB;rw[zzn];have:=yyp (λc:d_=>m1.captured c.table) (t.changes.take i);rw[zzg]at this
   omega
  refine zF hS Xh oF (sG.mono du) F4 cG ?_;generalize t.changes[i]=c at *
  refine Gb λcb w hS=>?_;refine Cg (Yy mp wp H1 m1 (by have:=sK.reqs.1;omega) c.table) λw hS=>?_;refine yU (λhq=>?_) (λhq=>?_)
  ·rw[zzd hq]at fj
   refine Gm λob w hS=>?_;refine yz (n:=(mB m1 t.aw (t.changes.take i)).length) (xs:=mB m1 t.aw (t.changes.take i)) (y:=⟨t.aw,c.table,c.key,c.gone,c.val⟩) (enc:=jO) hS Xr Xh xe (λx=>CL x) rfl (by omega) (by omega) λv2 w hS=>?_;have hS:=hS.rm (x:=(⟨t.aw,c.table,c.key,c.gone,c.val⟩:gx));rw[<- fj]at hS
   have o1:v2.oneCell'=true:=bF.one hS;refine Gn λw hS=>?_;exact⟨⟨i+1,v2,rfl,by omega,aR hS⟩,by dsimp only;omega⟩
  rw[zzb (by simp[hq]),zz2]at fj
  rw[<- fj]at hS
  refine Gp ?_;exact⟨⟨i+1,ov,rfl,by omega,aR hS⟩,by dsimp only;omega⟩
 have cnx:t.changes.take i=t.changes:=zz7 (by omega);rw[cnx]at hS
 obtain⟨rv,hr,hS⟩:=db.iff.1 (SL.cD hS (t:=.ob (db mp wp H1 m1)::Hd ov (mB m1 t.aw t.changes)::s6 nv N::.pt yb [Γ t.aw,ov,nv] 240::.pt zb [Γ 0,Θ,Θ] 240::.pt xb [Γ t.aw,Γ x.kind,x.cv,x.sv,Γ x.mark] 89::.mem H1::F) Xi);refine Gn λw hS=>?_;refine Cc (cU7 wp m1.cI H1 x.cv t.changes (sG.mono du) (by have:=sK.rows;omega) (by omega)) ?_;clear hS;rintro _ post ⟨⟨q,rfl⟩,rfl⟩ w hS;try simp only[app]at hS
 have hS:=db.put (mp:=mp) {m1 with cI:=m1.cI.rU t.changes} rv hr hS Xp;obtain⟨H2,dF,TP,hS⟩:=zw (H:=H1) (v:=nv) hS Xp;obtain⟨H3,fB,TQ,hS⟩:=zw (H:=H2) (v:=ov) hS Xp;have on:nv.oneCell'=true:=TP.one;have oo:ov.oneCell'=true:=TQ.one;refine Gp ?_;refine zt (vs:=[Γ t.aw,ov,nv]) hS Xu rfl rfl (Kr oo on) λw hS=>?_;refine Gp ?_;have Fj:=bw.le_trans dF fB;have hS:=db.gB (m:={m1 with cI:=m1.cI.rU t.changes}) Fj hS Xr;exact⟨_,⟨⟨t.aw,ov,nv⟩,H3,bw.le_trans du Fj,rfl,⟨rfl,TQ,TP.mono fB⟩,rfl⟩,aR hS⟩
def wI.all{wp:Nat}{k:dM}{H:bw}{mark aw:Int}{u:Ε}{post:Β}(h:wI wp k H mark aw u post):∃(x:iK) (H':bw) (q:Bool) (k':dM),H.le H'/\u= .tuple #[agg (eU x),.bool q]/\post=[.ob (dN wp k'),.mem H']/\(∀v∈eU x,v.oneCell'=true) /\
  ((q=false/\k.high mark aw=(k',none))\/(q=true/\∃t,k.high mark aw=(k',some t)/\ik H' x t)):=by
 unfold wI at h;have e:k.high mark aw=(if k.uN mark aw then (k,none) else (nf k.n,some ⟨aw,kq k aw,[rP k]⟩)):=rfl;by_cases hb:k.uN mark aw
 ·rw[zzd hb]at e
  rw[e]at h ⊢
  obtain⟨rfl,rfl⟩:=h;exact⟨u7,H,false,k,bw.le_refl H,rfl,rfl,by simp[eU,Value.oneCell'],.inl ⟨rfl,rfl⟩⟩
 rw[zzb hb]at e
 rw[e]at h ⊢
 obtain⟨x,H',hh,rfl,hx,rfl⟩:=h;exact⟨x,H',true,_,hh,rfl,rfl,mL hx,.inr ⟨rfl,_,rfl,hx⟩⟩
def cny{k k':dM}{mark aw:Int}{t:cJ}(h:k.high mark aw=(k',some t)):t=⟨aw,kq k aw,[rP k]⟩:=by
 unfold dM.high at h;split at h
 ·cases h
 cases h;rfl
def QP(mp wp:Nat)(H:bw)(m:dJ)(hm:m.Ok)(x:lM)(t:cM)(hx:lL H x t)(hid : -9223372036854775808<=m.cI.id/\m.cI.id<=9223372036854775807):
  SP 217 [cH mp,agg (eV x)] [.ob (db mp wp H m),.mem H] (LF mp wp H (m.high t)):=by
 refine Enzz λW F w hS=>?_;apply cOb;delta bW a_ c_ aW b_ cP ai bR;have hn:=hm.rows;have Dt:=hm.reqs.1;refine zu hS λxb w hS=>?_;unfold eV at hS;rw[hx.aw,hx.mark]at hS
 obtain⟨rv,hr,hS⟩:=db.iff.1 (SL.cD hS (t:=.ob (db mp wp H m)::.pt xb [Γ t.aw,Γ x.kind,x.cv,x.sv,Γ t.mark] 89::.mem H::F) Xi);refine Gm λzb w hS=>?_;refine⟨λus w=>∃(yb:Nat) (y:iK) (H1:bw) (q:Bool) (k':dM),us=[cH yb,.bool q]/\H.le H1/\(∀v∈eU y,v.oneCell'=true)/\((q=false/\m.cI.high t.mark t.aw=(k',none))\/(q=true/\∃z,m.cI.high t.mark t.aw=(k',some z)/\ik H1 y z)) /\
   SL W (.pt yb (eU y) 240::.pt zb [Γ 0,Θ,Θ] 240::.pt xb [Γ t.aw,Γ x.kind,x.cv,x.sv,Γ t.mark] 89::.pt mp (Ae m wp rv) 140::.ob (dN wp k')::.mem H1::F) w,?_,?_⟩
 ·refine Gn λw hS=>?_;refine⟨?_,?_⟩
  ·refine Cc (Yw wp m.cI H t.mark t.aw (by omega)) ?_;clear hS;rintro _ post hq w hS;obtain⟨y,H1,q,k',du,rfl,rfl,uZ,hc⟩:=hq.all;try simp only[app]at hS
   refine Gm λyb w hS=>?_;refine zt hS Xu rfl rfl uZ λw hS=>?_;exact⟨yb,y,H1,q,k',rfl,du,uZ,hc,aR hS⟩
  refine Gb λyb w hS=>?_;refine Cc (Yw wp m.cI H t.mark t.aw (by omega)) ?_;clear hS;rintro _ post hq w hS;obtain⟨y,H1,q,k',du,rfl,rfl,uZ,hc⟩:=hq.all;(try simp only[app]at hS);refine Gp ?_
  refine zt hS Xu rfl rfl uZ λw hS=>?_;exact⟨yb,y,H1,q,k',rfl,du,uZ,hc,aR hS⟩
 clear hS;rintro v5 v6 w ⟨yb,y,H1,q,k',cT,du,uZ,hc,hS⟩;cases cT;rcases hc with ⟨rfl,hh⟩|⟨rfl,z,hh,hz⟩
 ·refine z8 (zq ?_);refine Gn λw hS=>?_;have e:m.high t=(m,⟨t.aw,[],[]⟩):=by unfold dJ.high;rw[hh]
  have hk:k'=m.cI:=by
   unfold dM.high at hh;split at hh
   ·cases hh;rfl
   cases hh
  subst hk;rw[e];have hS:=db.put m rv (hr.mono du) hS Xp;exact⟨_,⟨⟨t.aw,Θ,Θ⟩,H1,du,rfl,⟨rfl,de.nil _ _,de.nil _ _⟩,rfl⟩,aR hS⟩
 refine z8 (zp ?_);have Vf:=cny hh;subst Vf;have F5:=hz.aw;have xQ:=hz.iX;have UL:=hz.ops;have hS:SL W (.pt yb [Γ y.aw,y.ov,y.nv] 240::_) w:=hS;refine Gp ?_;refine zF (j:=0) hS Xh xd xQ (x:=rP m.cI) rfl (by simp) ?_;refine Gb λnb w hS=>?_;refine Cc (ZP H1 rv m.reqs m.cI.id m.cI.dG m.cI.last (hr.mono du) (by omega) hid) ?_;clear hS;rintro u post ⟨H2,dF,rfl,hq⟩ w hS;try simp only[app]at hS
 have fu:=bw.le_trans du dF;cases mq:mi m.reqs m.cI.id m.cI.dG m.cI.last with
 | none=>
  rw[mq]at hq
  subst hq;have e:m.high t=({m with cI:=k'},⟨t.aw,kq m.cI t.aw,[]⟩):=by unfold dJ.high;rw[hh];simp only;rw[mq]
  rw[e];refine Gp ?_;refine zq ?_;refine Gn λw hS=>?_;have oo:y.ov.oneCell'=true:=UL.one;refine zt (vs:=[Γ y.aw,y.ov,Θ]) hS Xu rfl rfl (Kr oo rfl) λw hS=>?_;refine Gp ?_;have hS:=db.put (mp:=mp) {m with cI:=k'} rv (hr.mono fu) hS Xp;exact⟨_,⟨⟨y.aw,y.ov,Θ⟩,H2,fu,rfl,⟨F5,UL.mono dF,de.nil _ _⟩,rfl⟩,aR hS⟩
 | some L=>
  rw[mq]at hq
  obtain⟨rx,rfl,UW⟩:=hq;have e:m.high t=({m with cI:=k',reqs:=L},⟨t.aw,kq m.cI t.aw,[rP m.cI]⟩):=by unfold dJ.high;rw[hh];simp only;rw[mq]
  rw[e];have ox:rx.oneCell'=true:=UW.one;refine Gp ?_;refine zp ?_;refine Gn λw hS=>?_;refine zt (vs:=[Γ y.aw,y.ov,y.nv]) hS Xu rfl rfl uZ λw hS=>?_;refine Gp ?_;have hS:=db.put (mp:=mp) {m with cI:=k',reqs:=L} rx UW hS Xp;exact⟨_,⟨y,H2,fu,rfl,hz.mono dF,rfl⟩,aR hS⟩
def LM(mp wp:Nat)(H:bw)(y:dJ × (cJ × Int))(u:Ε)(post:Β):Prop:=∃(x:iK) (H':bw),H.le H'/\u= .tuple #[agg (eU x),Γ y.2.2]/\ik H' x y.2.1/\post=[.ob (db mp wp H' y.1),.mem H']
def Ye(mp wp:Nat)(H:bw)(m:dJ)(hm:m.Ok)(x:lM)(t:cM)(hx:lL H x t)(hid : -9223372036854775808<=m.cI.id/\m.cI.id<=9223372036854775807):
  SP 155 [cH mp,agg (eV x)] [.ob (db mp wp H m),.mem H] (LM mp wp H (m.take t)):=by
 refine Enzz λW F w hS=>?_;apply cMi;delta aI bW a_ c_ b_ cP ai bR;have iu:=hm.mg;refine zu hS λxb w hS=>?_;refine Gm λzb w hS=>?_;refine Cg (yo H x t hx) λw hS=>?_;unfold dJ.take;refine zy (λh=>?_) (λh=>?_)
 ·rw[zzd h];refine Gn λw hS=>?_;exact⟨_,⟨u7,H,bw.le_refl H,rfl,⟨rfl,de.nil _ _,de.nil _ _⟩,rfl⟩,aR hS⟩
 rw[zzb (by simp[h])];obtain⟨m1,m2,m3,m4,m5,m6,m7⟩:=my h;have hl:=hx.aw;have hk:=hx.kind;have FU:=hx.mark;obtain⟨rv,hr,hS⟩:=db.iff.1 (SL.cD hS (t:=.ob (db mp wp H m)::.pt zb [Γ 0,Θ,Θ] 240::.pt xb (eV x) 89::.mem H::F) Xi);refine Gn λw hS=>?_;rw[hl];have FX:∀{w:Ζ},(t.aw≠m.at_+1\/m.cI.waits t.kind t.mark=true)->SL W (.pt mp (Ae m wp rv) 140::.ob (dN wp m.cI)::.mem H::F) w->∃post,LM mp wp H (if t.aw≠m.at_+1\/m.cI.waits t.kind t.mark=true then (m,(⟨0,[],[]⟩,10))
   else if t.kind=1 then let r:=({m with at_:=t.aw}:dJ).AO t;(r.1,(r.2,0))
   else if t.kind=3 then let r:=({m with at_:=t.aw}:dJ).high t;(r.1,(r.2,0))
   else ({m with at_:=t.aw,cI:=m.cI.low t.mark},(⟨t.aw,[],[]⟩,0))) (.tuple #[agg (eU u7),Γ 10]) post/\SL W (app post F) w:=λh hS=>by
  rw[zzd h];have hS:=db.put m rv hr hS Xp;exact⟨_,⟨u7,H,bw.le_refl H,rfl,⟨rfl,de.nil _ _,de.nil _ _⟩,rfl⟩,aR hS⟩
 refine za (λh1=>?_) (λh1=>?_)
 ·refine Gn λw hS=>?_;exact FX (.inl h1) (aR hS)
 refine Gp ?_;refine yC (vs:=[cH wp]) hS Xh rfl (λj v e=>by
  match j,e with
  | 0,e=>exact e) ?_
 refine Gp ?_;refine Cg (ZO wp m.cI x) λw hS=>?_;rw[hk,FU];refine yU (λh2=>?_) (λh2=>?_)
 ·refine Gn λw hS=>?_;exact FX (.inr h2) (aR hS)
 clear FX;rw[zzb (show ¬(t.aw≠m.at_+1\/m.cI.waits t.kind t.mark=true) by rw[h2];simp;omega)];refine Gn λw hS=>?_;rw[hl]at hS
 have hS:SL W (.pt mp (Ae {m with at_:=t.aw} wp rv) 140::.ob (dN wp m.cI)::.pt zb [Γ 0,Θ,Θ] 240::.pt xb (eV x) 89::.mem H::F) w:=aR hS;have cL:({m with at_:=t.aw}:dJ).Ok:=⟨hm.reqs,hm.t1,hm.rows,by show 0<=t.aw/\t.aw<=1099511627776;omega⟩;rw[hk];refine za (λh3=>?_) (λh3=>?_)
 ·rw[zzd h3];have hS:=db.put (mp:=mp) {m with at_:=t.aw} rv hr hS Xp;refine Gp ?_;refine Cc (qa mp wp H {m with at_:=t.aw} cL x t hx m5 m7 m4) ?_;clear hS;rintro _ post ⟨y,H1,du,rfl,hy,rfl⟩ w hS;try simp only[app]at hS
  refine zt hS Xu rfl rfl (mL hy) λw hS=>?_;refine Gp ?_;exact⟨_,⟨y,H1,du,rfl,hy,rfl⟩,aR hS⟩
 rw[zzb h3];refine cA (λh4=>?_) (λh4=>?_)
 ·rw[zzd h4];have hS:=db.put (mp:=mp) {m with at_:=t.aw} rv hr hS Xp;refine Gp ?_;refine Cc (QP mp wp H {m with at_:=t.aw} cL x t hx hid) ?_;clear hS;rintro _ post ⟨y,H1,du,rfl,hy,rfl⟩ w hS;try simp only[app]at hS
  refine zt hS Xu rfl rfl (mL hy) λw hS=>?_;refine Gp ?_;exact⟨_,⟨y,H1,du,rfl,hy,rfl⟩,aR hS⟩
 rw[zzb h4];refine Gn λw hS=>?_;rw[FU];refine Cc (cU0 wp m.cI t.mark) ?_;clear hS;rintro _ post ⟨⟨q,rfl⟩,rfl⟩ w hS;refine Gn λw hS=>?_;rw[hl];have hS:=db.put (mp:=mp) (wp:=wp) {m with at_:=t.aw,cI:=m.cI.low t.mark} rv hr hS Xp;exact⟨_,⟨⟨t.aw,Θ,Θ⟩,H,bw.le_refl H,rfl,⟨rfl,de.nil _ _,de.nil _ _⟩,rfl⟩,aR hS⟩
def pc(m:Int × Int):Ξ:=[Γ m.2,Γ m.1]
def AV(m:Int × Int):(pc m).length=2:=rfl
def Ta(m:Int × Int):∀v∈pc m,v.oneCell'=true:=by simp[pc,Value.oneCell']
structure Hg(d:dH)(a:Nat)(nI:Bool)(lf:Int):Prop where
 t:nI=true->d.at_=a/\d.left=lf/\a<d.l.length
 f:nI=false->d.at_=(a:Int)-1/\d.left=0/\a<=d.l.length
structure Ek where
 v:Ε
 a:Nat
 nI:Bool
 lf:Int
abbrev vd(x:Ek):Ξ:=[x.v,Γ x.a,.bool x.nI,Γ x.lf]
abbrev s5(v:Ε)(l:List (Int × Int)):Μ:=.ob (bF v 415 2 l.length (l.map pc).flatten)
def fo(p:Nat)(d:dH):zC:=jT λx:Ek=>zH (Hg d x.a x.nI x.lf) [.pt p (vd x) 401,s5 x.v d.l]
def fo.iff{W w:Ζ}{l:Β}{p:Nat}{d:dH}:SL W (.ob (fo p d)::l) w↔∃x:Ek,Hg d x.a x.nI x.lf/\SL W (.pt p (vd x) 401::s5 x.v d.l::l) w:=by
 unfold fo;simp only[SL.ex,SL.fact,zzv,zzq]
def fo.BN{W w:Ζ}{l F:Β}{p:Nat}{d:dH}(v:Ε)(a:Nat)(nI:Bool)(lf:Int)(h:Hg d a nI lf)(hS:SL W l w)(k:gE [.pt p [v,Γ a,.bool nI,Γ lf] 401,s5 v d.l] l F):SL W (.ob (fo p d)::F) w:=fo.iff.2 ⟨⟨v,a,nI,lf⟩,h,hS.pick k⟩
def bFz:SP 203 [] [] (λv post=>∃p:Nat,v= Δ p/\post=[.ob (fo p w9)]):=by
 refine Enzz λW F w hS=>?_;apply cNw;delta ai bR;refine yZ rfl ?_;refine⟨_,rfl,zE hS λp w hS=>?_⟩;have hS:SL W (s5 Θ []::.pt p (vd ⟨Θ,0,false,0⟩) 401::F) w:=bF.nil hS;exact⟨_,⟨p,rfl,rfl⟩,SL.cD (fo.BN (d:=w9) Θ 0 false 0 ⟨(λh=>by cases h),λ_=>⟨rfl,rfl,zzi _⟩⟩ hS Xp) Xi⟩
def Y7(b:Nat)(id:Int)(m:Int × Int):SP 370 [agg (pc m),Δ b] [.pt b [Γ id] 3] (cE (.bool (decide (m.1=id))) [.pt b [Γ id] 3]):=by
 refine Enzz λW F w hS=>?_;apply cRt;delta a_;refine zu hS λxb w hS=>?_;unfold pc at hS;refine Gp ?_;(exact cF hS)
def ZL(p:Nat)(x:Ek)(l:List (Int × Int))(id:Int)(hn:l.length<=1000):
  SP 337 [Δ p,Γ id] [.pt p (vd x) 401,s5 x.v l] (cE (Γ (lz (l.findIdx? λm=>decide (m.1=id)))) [.pt p (vd x) 401,s5 x.v l]):=by
 refine Enzz λW F w hS=>?_;apply cRa;delta bW;refine⟨rfl,zE hS λb w hS=>?_⟩;unfold vd at hS;refine Gp ?_;have hC:=JY (t:=415) AV rfl (λv0 v1 w R h=>cRr v0 v1 w R h) (λm=>Y7 b id m) x.v l (by omega);simp only[zzv,zzq]at hC;refine Cg (hC) λw hS=>?_;(exact cF hS)
def bFb(p:Nat)(d:dH)(id weight:Int)(hn:d.l.length<=1000):SP 291 [Δ p,Γ id,Γ weight] [.ob (fo p d)] (λv post=>(∃e:Int,v= Γ e)/\post=[.ob (fo p (d.add id weight))]):=by
 refine Enzz λW F w hS=>?_;apply cP6;delta aI bW c_ ai;have fK:∀{e:Int} {w:Ζ},(id<1\/64<id\/weight<1\/8<weight)->SL W (.ob (fo p d)::F) w->∃post,((∃e':Int,Γ e= Γ e')/\post=[.ob (fo p (d.add id weight))])/\SL W (app post F) w:=λh hS=>by
  rw[show d.add id weight=d by unfold dH.add;rw[zzd h]];exact⟨_,⟨⟨_,rfl⟩,rfl⟩,hS⟩
 refine Gp ?_;refine za (λh=>fK (by omega) hS) (λh1=>?_);refine Gp ?_;refine za (λh=>fK (by omega) hS) (λh2=>?_);refine Gp ?_;refine za (λh=>fK (by omega) hS) (λh3=>?_);refine Gp ?_;refine za (λh=>fK (by omega) hS) (λh4=>?_);clear fK;obtain⟨x,hr,hS⟩:=fo.iff.1 hS;refine Cg (ZL p x d.l id hn) λw hS=>?_;have ha:d.add id weight=match Bx d id with|some _=>d|none=>{d with l:=d.l++[(id,weight)]}:=by
  unfold dH.add;rw[zzb (by omega)];rfl
 rw[ha];unfold Bx;cases hf:d.l.findIdx? (λm=>decide (m.1=id)) with
 | some i=>
  refine za (λ_=>?_) (λh=>by simp only[lz]at h;omega);exact⟨_,⟨⟨_,rfl⟩,rfl⟩,fo.iff.2 ⟨x,hr,aR hS⟩⟩
 | none=>
  refine za (λh=>by simp only[lz]at h;omega) (λ_=>?_);unfold vd at hS;refine Gm λb w hS=>?_;refine yz (n:=d.l.length) (xs:=d.l) (y:=(id,weight)) (enc:=pc) hS Xr Xh AV Ta rfl (by omega) (by omega) λv2 w hS=>?_;have hS:=hS.rm (x:=(id,weight));have o1:v2.oneCell'=true:=bF.one hS;refine Gn λw hS=>?_;refine⟨_,⟨⟨_,rfl⟩,rfl⟩,SL.cD (fo.BN (d:={d with l:=d.l++[(id,weight)]}) v2 x.a x.nI x.lf ⟨λh=>?_,λh=>?_⟩ hS Xp) Xi⟩
  ·have:=hr.t h;exact⟨this.1,this.2.1,by show x.a<(d.l++[_]).length;rw[zza];omega⟩
  have:=hr.f h;exact⟨this.1,this.2.1,by show x.a<=(d.l++[_]).length;rw[zza];omega⟩
def bFd(p:Nat)(d:dH)(id:Int)(hn:d.l.length<=1000):SP 290 [Δ p,Γ id] [.ob (fo p d)] (λv post=>(∃e:Int,v= Γ e)/\post=[.ob (fo p (d.del id))]):=by
 refine Enzz λW F w hS=>?_;apply cP5;delta aI bW c_ ai;obtain⟨x,hr,hS⟩:=fo.iff.1 hS;refine Cg (ZL p x d.l id hn) λw hS=>?_;unfold dH.del Bx;cases hf:d.l.findIdx? (λm=>decide (m.1=id)) with
 | none=>
  refine za (λ_=>?_) (λh=>by simp only[lz]at h;omega);exact⟨_,⟨⟨_,rfl⟩,rfl⟩,fo.iff.2 ⟨x,hr,aR hS⟩⟩
 | some i=>
  have hi:i<d.l.length:=(yyn.1 hf).1;have hxa:x.a<=d.l.length:=by
   cases ht:x.nI with
   | true=>have:=hr.t ht;omega
   | false=>exact (hr.f ht).2.2
  simp only[lz];refine Χ ?_;unfold vd at hS;refine Gp ?_;refine Cc (Im (sz:=2) (gn:=16) (z:=[Γ 0,Γ 0]) (zv:=.agg #[Γ 0,Γ 0]) (λv0 v1 v2 w R h=>cRb v0 v1 v2 w R h) underlying399 (λw=>by kernel_rfl) rfl rfl (by simp[Value.oneCell']) x.v d.l.length i (d.l.map pc).flatten hi (sW Ta _) (by omega) (by omega)) ?_;clear hS;rintro v post rfl w hS;try simp only[app]at hS
  have ef:List.take (i*2) (d.l.map pc).flatten++List.drop ((i+1)*2) (d.l.map pc).flatten=((d.l.eraseIdx i).map pc).flatten:=by
   rw[uz AV,vE AV,List.eraseIdx_eq_take_drop_succ];simp
  have el:d.l.length-1=(d.l.eraseIdx i).length:=by rw[uuv,zzd hi]
  rw[ef,el]at hS
  have o1:v.oneCell'=true:=bF.one hS;refine Gn λw hS=>?_;refine za (λh1=>?_) (λh1=>?_)
  ·refine Gn λw hS=>?_;have hx:((x.a:Int)-1)=((x.a-1:Nat):Int):=by omega
   rw[hx]at hS
   refine⟨_,⟨⟨_,rfl⟩,rfl⟩,SL.cD (fo.BN (d:=⟨d.l.eraseIdx i,if (i:Int)<=d.at_ then d.at_-1 else d.at_,if (i:Int)=d.at_ then 0 else d.left⟩) v (x.a-1) x.nI x.lf ⟨λh=>?_,λh=>?_⟩ hS Xp) Xi⟩
   ·obtain⟨h2,h3,h4⟩:=hr.t h;refine⟨?_,?_,by show x.a-1<(d.l.eraseIdx i).length;omega⟩
    ·show (if (i:Int)<=d.at_ then d.at_-1 else d.at_)=_;rw[zzd (by omega)];omega
    show (if (i:Int)=d.at_ then 0 else d.left)=_;rw[zzb (by omega)];exact h3
   obtain⟨h2,h3,h4⟩:=hr.f h;refine⟨?_,?_,by show x.a-1<=(d.l.eraseIdx i).length;omega⟩
   ·show (if (i:Int)<=d.at_ then d.at_-1 else d.at_)=_;rw[zzd (by omega)];omega
   show (if (i:Int)=d.at_ then 0 else d.left)=_;rw[h3];simp
  refine cA (λh2=>?_) (λh2=>?_)
  ·refine Gn λw hS=>?_;refine⟨_,⟨⟨_,rfl⟩,rfl⟩,SL.cD (fo.BN (d:=⟨d.l.eraseIdx i,if (i:Int)<=d.at_ then d.at_-1 else d.at_,if (i:Int)=d.at_ then 0 else d.left⟩) v x.a false x.lf ⟨(λh=>by cases h),λ_=>?_⟩ hS Xp) Xi⟩;cases ht:x.nI with
   | true=>
    obtain⟨h3,h4,h5⟩:=hr.t ht;refine⟨?_,?_,by show x.a<=(d.l.eraseIdx i).length;omega⟩
    ·show (if (i:Int)<=d.at_ then d.at_-1 else d.at_)=_;rw[zzd (by omega)];omega
    show (if (i:Int)=d.at_ then 0 else d.left)=_;rw[zzd (by omega)]
   | false=>
    obtain⟨h3,h4,h5⟩:=hr.f ht;refine⟨?_,?_,by show x.a<=(d.l.eraseIdx i).length;omega⟩
    ·show (if (i:Int)<=d.at_ then d.at_-1 else d.at_)=_;rw[zzb (by omega)];omega
    show (if (i:Int)=d.at_ then 0 else d.left)=_;rw[h4];simp
  refine⟨_,⟨⟨_,rfl⟩,rfl⟩,SL.cD (fo.BN (d:=⟨d.l.eraseIdx i,if (i:Int)<=d.at_ then d.at_-1 else d.at_,if (i:Int)=d.at_ then 0 else d.left⟩) v x.a x.nI x.lf ⟨λh=>?_,λh=>?_⟩ hS Xp) Xi⟩
  ·obtain⟨h3,h4,h5⟩:=hr.t h;refine⟨?_,?_,by show x.a<(d.l.eraseIdx i).length;omega⟩
   ·show (if (i:Int)<=d.at_ then d.at_-1 else d.at_)=_;rw[zzb (by omega)];exact h3
   show (if (i:Int)=d.at_ then 0 else d.left)=_;rw[zzb (by omega)];exact h4
  obtain⟨h3,h4,h5⟩:=hr.f h;refine⟨?_,?_,by show x.a<=(d.l.eraseIdx i).length;omega⟩
  ·show (if (i:Int)<=d.at_ then d.at_-1 else d.at_)=_;rw[zzb (by omega)];exact h3
  show (if (i:Int)=d.at_ then 0 else d.left)=_;rw[h4];simp
def QB(p:Nat)(d:dH)(hd:d.Ok)(hn:d.l.length<=1000):SP 222 [Δ p] [.ob (fo p d)] (λv post=>v= .tuple #[Γ d.next.2,.bool (decide (d.l≠[]))]/\post=[.ob (fo p d.next.1)]):=by
 refine Enzz λW F w hS=>?_;apply cOh;delta aI bW a_ c_ cP ai;have iu:=hd.oZ;have hl8:=hd.Ge;have pw:=hd.Gd;obtain⟨x,hr,hS⟩:=fo.iff.1 hS;unfold vd at hS;refine Gp ?_;refine zz hS (v:=x.v) (t:=415) (sz:=2) (n:=d.l.length) (cells:=(d.l.map pc).flatten) Xh ?_;refine cA (λh=>?_) (λh=>?_)
 ·have he:d.l=[]:=zzl (by omega);have e:d.next=(d,0):=by unfold dH.next;rw[zzd he]
  rw[e,zz3 (by simp[he])];exact⟨_,⟨rfl,rfl⟩,fo.iff.2 ⟨x,hr,aR hS⟩⟩
 have dO:d.l≠[]:=λe=>h (by rw[e];rfl);have eg:0<=d.place/\d.place<d.l.length:=by
  unfold dH.place;have:=hd.neg;have:=hd.mg;split
  ·split<;>omega
  omega
 obtain⟨j,hj⟩:∃j:Nat,d.place=j:=⟨d.place.toNat,by omega⟩;have gW:j<d.l.length:=by omega
 have xM:d.l[j]?=some d.mA:=by
  unfold dH.mA;rw[hj,zzz,zzc gW];rfl
 have hw:=hd.w _ (yy5 xM);refine⟨λus w=>∃(a:Nat) (t:Bool) (lf:Int),us=[]/\((t=true/\lf=d.left/\d.left≠0/\(a:Int)=d.at_)\/(t=false/\(a:Int)=d.at_+1/\d.left=0))/\SL W (.pt p [x.v,Γ a,.bool t,Γ lf] 401::s5 x.v d.l::F) w,?_,?_⟩
 ·refine Gp ?_;refine yU (λht=>?_) (λht=>?_)
  ·obtain⟨h3,h4,h5⟩:=hr.t ht;refine cA (λh0=>?_) (λh0=>?_)
   ·refine Gn λw hS=>?_;exact⟨x.a+1,false,x.lf,rfl,.inr ⟨rfl,by omega,by omega⟩,aR hS⟩
   exact⟨x.a,true,x.lf,rfl,.inl ⟨rfl,h4.symm,by omega,h3.symm⟩,by rw[<- ht];exact aR hS⟩
  obtain⟨h3,h4,h5⟩:=hr.f ht;exact⟨x.a,false,x.lf,rfl,.inr ⟨rfl,by omega,h4⟩,by rw[<- ht];exact aR hS⟩
 clear hS;rintro w ⟨a,t,lf,-,hc,hS⟩;refine⟨λus w=>us=[]/\SL W (.pt p [x.v,Γ j,.bool true,Γ (if d.left=0 then d.mA.2 else d.left)] 401::s5 x.v d.l::F) w,?_,?_⟩
 ·refine Gp ?_;rcases hc with ⟨rfl,rfl,gl,ju⟩|⟨rfl,gl,ju⟩
  ·refine zp ?_;have e:d.place=d.at_:=by unfold dH.place;rw[zzb gl]
   have:a=j:=by omega
   subst this;rw[zzb gl];exact⟨rfl,aR hS⟩
  refine zq ?_;refine⟨λus w=>us=[]/\SL W (.pt p [x.v,Γ j,.bool false,Γ lf] 401::s5 x.v d.l::F) w,?_,?_⟩
  ·refine Gn λw hS=>?_;refine zz hS (v:=x.v) (t:=415) (sz:=2) (n:=d.l.length) (cells:=(d.l.map pc).flatten) Xh ?_;refine Gp ?_;have e:d.place=if (d.l.length:Int)<=d.at_+1 then 0 else d.at_+1:=by unfold dH.place;rw[zzd ju]
   refine za (λh0=>?_) (λh0=>?_)
   ·rw[zzd (by omega)]at e
    have:j=0:=by omega
    subst this;refine Gn λw hS=>?_;have hS:SL W (.pt p [x.v,Γ ((0:Nat):Int),.bool false,Γ lf] 401::s5 x.v d.l::F) w:=hS;exact aR hS
   rw[zzb (by omega)]at e
   have:a=j:=by omega
   subst this;exact⟨rfl,aR hS⟩
  clear hS;rintro w ⟨-,hS⟩;refine Gn λw hS=>?_;obtain⟨fa,fc,Va,_,hfx⟩:=bF.at hS (v:=x.v) (t:=415) (sz:=2) (n:=d.l.length) (cells:=(d.l.map pc).flatten) Xh;obtain⟨fb,rfl,hfc⟩:=hfx j gW;rw[Va];refine zG gW (yN (yN ?_));have mP:=hfc _ _ (pX AV d.l j 0 d.mA (Γ d.mA.2) xM rfl);refine⟨_,_,rfl,by rw[yya];exact mP,?_⟩;refine Gn λw hS=>?_;rw[zzd ju,<- Va];exact aR hS
 clear hS hc;rintro w ⟨-,hS⟩;refine Gn λw hS=>?_;refine yh (i:=1) hS (v:=x.v) (t:=415) Xh AV xM gW (u:=Γ d.mA.1) rfl ?_;have e:d.next=(⟨d.l,d.place,(if d.left=0 then d.mA.2 else d.left)-1⟩,d.mA.1):=by unfold dH.next;rw[zzb dO]
 rw[e,zzo dO];exact⟨_,⟨rfl,rfl⟩,SL.cD (fo.BN (d:=⟨d.l,d.place,(if d.left=0 then d.mA.2 else d.left)-1⟩) x.v j true ((if d.left=0 then d.mA.2 else d.left)-1) ⟨λ_=>⟨hj,rfl,gW⟩,(λh=>by cases h)⟩ hS Xp) Xi⟩
def cAu(kind mark:Int):ib [Γ 0,Γ 0,Θ,Θ,Γ 0] [(0,1,Γ 1),(1,1,Γ kind),(4,1,Γ mark)]=some (eV ⟨1,kind,Θ,Θ,mark⟩):=by simp[ib,Value.cells,eV]
def Ys(sp tp dp lp:Nat)(k:cW)(H:bw)(kind mark:Int){N:Nat}(hk:jH k N)(hN:N<=1000000000)(ed:k.d.ops<=90000):
  SP 223 [cH sp,Γ kind,Γ mark] [.ob (dc sp tp dp lp k),.ob (cw dp k.d),.mem H] (Ap sp tp dp lp H (k.nE kind mark)):=by
 refine Enzz λW F w hS=>?_;apply cOi;delta aI cP Hy ai bR;have hx:lL H ⟨1,kind,Θ,Θ,mark⟩ ⟨1,kind,[],[],mark⟩:=⟨rfl,rfl,rfl,de.nil _ _,de.nil _ _⟩;have fK:∀{w:Ζ},¬((kind=2\/kind=3)/\eG ⟨1,kind,[],[],mark⟩=true)->SL W (.ob (dc sp tp dp lp k)::.ob (cw dp k.d)::.mem H::F) w->∃post,Ap sp tp dp lp H (k.nE kind mark) (.tuple #[Γ 0,Γ 1]) post/\SL W (app post F) w:=λh hS=>by
  rw[show k.nE kind mark=(k,(0,1)) from zzb h];exact⟨_,⟨rfl,rfl⟩,hS⟩
 refine yZ (cAu kind mark) ?_;refine Gb λxb w hS=>?_;have FK:∀{w:Ζ},(kind=2\/kind=3)->SL W (.pt xb (eV ⟨1,kind,Θ,Θ,mark⟩) 89::.ob (dc sp tp dp lp k)::.ob (cw dp k.d)::.mem H::F) w->ze 5 (cH xb) w λEh=>aF 97 [Eh] w λv20 na=>y6 v20 λv21=>df v21 (∃post,Ap sp tp dp lp H (k.nE kind mark) (.tuple #[Γ 0,Γ 1]) post/\SL W (app post F) na)
   (ze 5 (cH xb) na λv24=>aF 100 [cH sp,v24] na λv25 Lo=>zf 0 v25 λv26=>zf 1 v25 λv27=>∃post,Ap sp tp dp lp H (k.nE kind mark) (.tuple #[v26,v27]) post/\SL W (app post F) Lo):=λh2 hS=>by
  refine zr hS Xh rfl ?_;refine Cg (yo H ⟨1,kind,Θ,Θ,mark⟩ ⟨1,kind,[],[],mark⟩ hx) λw hS=>?_;refine zy (λh=>fK (λx=>by rw[x.2]at h;cases h) (aR hS)) (λh=>?_);rw[show k.nE kind mark=k.gK ⟨1,kind,[],[],mark⟩ from zzd ⟨h2,h⟩];refine zr hS Xh rfl ?_;refine Cg (Y0 sp tp dp lp k H ⟨1,kind,Θ,Θ,mark⟩ ⟨1,kind,[],[],mark⟩ hx h hk hN ed) λw hS=>?_;exact cF hS
 refine za (λh=>?_) (λh=>FK (.inl (by omega)) (aR hS));refine Gp ?_;exact za (λh2=>fK (λx=>by omega) (aR hS)) (λh2=>FK (.inr (by omega)) (aR hS))
abbrev oW(v:Ε)(l:List Rq):Μ:=.ob (bF v 86 7 l.length (l.map gF).flatten)
def cDg{L:List Rq}{i:Nat}(h:i<L.length):je (L.take (i+1))=je (L.take i)++(if L[i].done=false then [L[i]] else []):=by
 unfold je;rw[zze h,yyx,xx5];cases L[i].done<;>simp
def Kv(L:List Rq)(i:Nat):(je (L.take i)).length<=L.length:=by
 have:=yyp (λr:Rq=>!r.done) (L.take i);rw[zzg]at this
 unfold je;omega
def yY(v:Ε)(L:List Rq)(hn:L.length<=1000):SP 72 [v] [oW v L] (λu post=>post=[oW u (je L),oW v L]):=by
 refine Enzz λW F w hS=>?_;apply cTv;delta aI a_ cP ai bR;refine zz hS (v:=v) (t:=86) (sz:=7) (n:=L.length) (cells:=(L.map gF).flatten) Xh ?_;have hS:SL W (oW Θ []::_) w:=bF.nil hS;refine⟨λus w=>∃(i:Nat) (u:Ε),us=[u,Γ i]/\i<=L.length/\SL W (oW u (je (L.take i))::oW v L::F) w,λus _=>match us with|[_,.int _ i]=>(L.length-i).toNat|_=>0,⟨0,Θ,rfl,by omega,hS⟩,?_⟩;clear hS;rintro v3 v8 w ⟨i,u,cT,hi,hS⟩;cases cT;refine cA (λh=>?_) (λh=>?_)
 ·have cG:i<L.length:=by omega
  have hx:L[i]?=some L[i]:=zzc cG;have fj:=cDg cG;have hle:=Kv L i;refine zU hS (v:=v) (t:=86) Xh nj hx cG ?_;generalize L[i]=r at *
  refine Gb λxb w hS=>?_;refine zy (λhd=>?_) (λhd=>?_)
  ·rw[zzd hd]at fj
   refine zr hS Xh rfl ?_;refine Gm λyb w hS=>?_;refine yz (n:=(je (L.take i)).length) (xs:=je (L.take i)) (y:=r) (enc:=gF) hS Xr Xh nj E_ rfl (by omega) (by omega) λv2 w hS=>?_;have hS:=hS.rm (x:=r);rw[<- fj]at hS
   refine Gp ?_;exact⟨⟨i+1,v2,rfl,by omega,aR hS⟩,by dsimp only;omega⟩
  rw[zzb (by simp[hd]),zz2]at fj
  rw[<- fj]at hS
  refine Gp ?_;exact⟨⟨i+1,v3,rfl,by omega,aR hS⟩,by dsimp only;omega⟩
 rw[zz7 (by omega)]at hS
 exact⟨_,rfl,aR hS⟩
abbrev iY(sp mp wp gp:Nat)(n:Int):Ξ:=[cH sp,cH mp,cH wp,cH gp,Γ n]
def cIk(sp mp wp:Nat)(H:bw)(m:dJ)(n:Int):SP 146 [cH sp,cH mp,Γ n] [.ob (db mp wp H m)] (λv post=>(¬(1<=n/\n<=64)/\v= .tuple #[.pointer none,Γ 1]/\post=[.ob (db mp wp H m)]) \/
  ((1<=n/\n<=64)/\∃pp gp:Nat,v= .tuple #[cH pp,Γ 0]/\post=[.pt pp (iY sp mp wp gp n) 234,.ob (fo gp w9),.ob (db mp wp H m)])):=by
 refine Enzz λW F w hS=>?_;apply cMa;delta aI b_ ai cY;refine Gp ?_;refine za (λh=>⟨_,.inl ⟨by omega,rfl,rfl⟩,hS⟩) (λh1=>?_);refine Gp ?_;refine za (λh=>⟨_,.inl ⟨by omega,rfl,rfl⟩,hS⟩) (λh2=>?_);obtain⟨rv,hr,hS⟩:=db.iff.1 hS;refine Gp ?_;refine yC (vs:=[cH wp]) hS Xh rfl (λj v e=>by
  match j,e with
  | 0,e=>exact e) ?_
 refine Cg (YT wp) λw hS=>?_;refine Cc (bFz) ?_;clear hS;rintro _ post ⟨gp,rfl,rfl⟩ w hS;(try simp only[app]at hS);refine Gp ?_
 refine⟨_,rfl,zE hS λpp w hS=>?_⟩;have hS:=db.put m rv hr hS Xp;exact⟨_,.inr ⟨by omega,pp,gp,rfl,rfl⟩,aR hS⟩
def Zv(sp mp wp pp gp:Nat)(n:Int)(H:bw)(m:dJ)(hn:m.reqs.length<=1000):SP 79 [cH pp] [.pt pp (iY sp mp wp gp n) 234,.ob (db mp wp H m),.mem H] (cE (.bool (D3 m)) [.pt pp (iY sp mp wp gp n) 234,.ob (db mp wp H m),.mem H]):=by
 refine Enzz λW F w hS=>?_;apply cT1;delta aI bW cz ai;unfold D3;refine Gp ?_;obtain⟨rv,hr,hS⟩:=db.iff.1 (SL.cD hS (t:=.ob (db mp wp H m)::.pt pp (iY sp mp wp gp n) 234::.mem H::F) Xi);refine Cg (y2 wp m.cI) λw hS=>?_;have hS:=db.put m rv hr hS Xp;refine za (λh=>?_) (λh1=>?_)
 ·rw[zzo (.inl h)];exact cF hS
 refine cA (λh=>?_) (λh2=>?_)
 ·rw[zzo (.inr (.inl h))];exact cF hS
 refine cA (λh3=>?_) (λh3=>?_)
 ·refine Gp ?_;refine Cc (yy mp wp H m hn) ?_;clear hS;rintro u post rfl w hS;try simp only[app]at hS
  refine Cc (yY u m.reqs hn) ?_;clear hS;rintro u2 post rfl w hS;try simp only[app]at hS
  refine zz hS (v:=u2) (t:=86) (sz:=7) (n:=(je m.reqs).length) (cells:=((je m.reqs).map gF).flatten) Xh ?_;refine Gp ?_;have e:decide (m.cI.state=1\/m.cI.state=2\/m.cI.state=0/\je m.reqs≠[])=decide ((0:Int)<((je m.reqs).length:Int)):=by
   rw[yyj];constructor
   ·rintro (h|h|h)
    ·exact absurd h h1
    ·exact absurd h h2
    have:=wwb.2 h.2;omega
   intro h;exact .inr (.inr ⟨h3,λe=>by rw[e]at h;simp at h⟩)
  rw[e];exact cF hS
 rw[zz3 (λh=>h.elim h1 (λh=>h.elim h2 (λh=>h3 h.1)))];exact cF hS
def bFc(d:dH)(id:Int):(d.del id).l.length<=d.l.length:=by
 unfold dH.del;split
 ·exact zzi _
 exact List.length_eraseIdx_le ..
def bFa(d:dH)(id w:Int):(d.add id w).l.length<=d.l.length+1:=by
 unfold dH.add;split
 ·omega
 split
 ·omega
 simp
def E6:∀(L:List Rq) (d:dH),(L.foldl (λd r=>d.del r.id) d).l.length<=d.l.length
 | [],d=>zzi _
 | r::L,d=>yyw (E6 L (d.del r.id)) (bFc d r.id)
def HL:∀(L:List Rq) (d:dH),(L.foldl (λd r=>d.add r.id r.weight) d).l.length<=d.l.length+L.length
 | [],d=>zzi _
 | r::L,d=>by
  have h1:=HL L (d.add r.id r.weight);have h2:=bFa d r.id r.weight;rw[xxq,zzj];omega
def bF0{L:List Rq}{i:Nat}(h:i<L.length):(L.take (i+1)).filter (·.done)=(L.take i).filter (·.done)++(if L[i].done=true then [L[i]] else []):=by
 rw[zze h,yyx,xx5];cases L[i].done<;>simp
def cIs(sp mp wp pp gp:Nat)(n:Int)(H:bw)(m:dJ)(d:dH)(hn:m.reqs.length<=64)(hd:d.l.length<=500):SP 221 [cH pp] [.pt pp (iY sp mp wp gp n) 234,.ob (fo gp d),.ob (db mp wp H m),.mem H] (λv post=>post=[.pt pp (iY sp mp wp gp n) 234,.ob (fo gp (mC d m.reqs)),.ob (db mp wp H m),.mem H]):=by
 refine Enzz λW F w hS=>?_;apply cOg;delta aI bW a_ ai;refine Gp ?_;refine Cc (yy mp wp H m (by omega)) ?_;clear hS;rintro u post rfl w hS;try simp only[app]at hS
 refine zz hS (v:=u) (t:=86) (sz:=7) (n:=m.reqs.length) (cells:=(m.reqs.map gF).flatten) Xh ?_;refine⟨λus w=>∃i:Nat,us=[Γ i]/\i<=m.reqs.length/\SL W (.ob (fo gp (((m.reqs.take i).filter (·.done)).foldl (λd r=>d.del r.id) d))::oW u m.reqs::.ob (db mp wp H m)::.mem H::.pt pp (iY sp mp wp gp n) 234::F) w,λus _=>match us with|[.int _ i]=>(m.reqs.length-i).toNat|_=>0,⟨0,rfl,by omega,SL.cD hS (t:=.ob (fo gp d)::oW u m.reqs::.ob (db mp wp H m)::.mem H::.pt pp (iY sp mp wp gp n) 234::F) Xi⟩,?_⟩;clear hS;rintro v12 w ⟨i,cT,hi,hS⟩;cases cT;refine cA (λh=>?_) (λh=>?_)
 ·have cG:i<m.reqs.length:=by omega
  have hx:m.reqs[i]?=some m.reqs[i]:=zzc cG;have fj:=bF0 cG;have hle:=E6 ((m.reqs.take i).filter (·.done)) d;refine zU hS (v:=u) (t:=86) Xh nj hx cG ?_;generalize m.reqs[i]=r at *
  refine Gb λxb w hS=>?_;refine yU (λhq=>?_) (λhq=>?_)
  ·rw[zzd hq]at fj
   refine Gn λw hS=>?_;refine Cc (bFd gp (((m.reqs.take i).filter (·.done)).foldl (λd r=>d.del r.id) d) r.id (by omega)) ?_;clear hS;rintro _ post ⟨⟨e,rfl⟩,rfl⟩ w hS;(try simp only[app]at hS);refine Gp ?_
   refine⟨⟨i+1,rfl,by omega,?_⟩,by dsimp only;omega⟩;rw[fj,ww6];exact SL.cD hS (t:=.ob (fo gp ((((m.reqs.take i).filter (·.done)).foldl (λd r=>d.del r.id) d).del r.id))::oW u m.reqs::.ob (db mp wp H m)::.mem H::.pt pp (iY sp mp wp gp n) 234::F) Xi
  rw[zzb (by simp[hq]),zz2]at fj
  rw[<- fj]at hS
  refine Gp ?_;exact⟨⟨i+1,rfl,by omega,aR hS⟩,by dsimp only;omega⟩
 rw[zz7 (by omega)]at hS
 have rJ:mC d m.reqs=(je m.reqs).foldl (λd r=>d.add r.id r.weight) ((m.reqs.filter (·.done)).foldl (λd r=>d.del r.id) d):=rfl;have po:=E6 (m.reqs.filter (·.done)) d;rw[rJ];generalize (m.reqs.filter (·.done)).foldl (λd r=>d.del r.id) d=d1 at *
 refine Gp ?_;refine Cc (yy mp wp H m (by omega)) ?_;clear hS;rintro u1 post rfl w hS;try simp only[app]at hS
 refine Cc (yY u1 m.reqs (by omega)) ?_;clear hS;rintro u2 post rfl w hS;try simp only[app]at hS
 have xS:(je m.reqs).length<=64:=by
  have:=Kv m.reqs m.reqs.length;rw[zz0]at this;omega
 generalize je m.reqs=L at *
 refine zz hS (v:=u2) (t:=86) (sz:=7) (n:=L.length) (cells:=(L.map gF).flatten) Xh ?_;refine⟨λus w=>∃i:Nat,us=[Γ i]/\i<=L.length/\SL W (.ob (fo gp ((L.take i).foldl (λd r=>d.add r.id r.weight) d1))::oW u2 L::.ob (db mp wp H m)::.mem H::.pt pp (iY sp mp wp gp n) 234::F) w,λus _=>match us with|[.int _ i]=>(L.length-i).toNat|_=>0,⟨0,rfl,by omega,SL.cD hS (t:=.ob (fo gp d1)::oW u2 L::.ob (db mp wp H m)::.mem H::.pt pp (iY sp mp wp gp n) 234::F) Xi⟩,?_⟩;clear hS;rintro v33 w ⟨i,cT,hi,hS⟩;cases cT;refine cA (λh=>?_) (λh=>?_)
 ·have cG:i<L.length:=by omega
  have hx:L[i]?=some L[i]:=zzc cG;have gg:L.take (i+1)=L.take i++[L[i]]:=zze cG;have hle:=HL (L.take i) d1;rw[zzg]at hle
  refine zU hS (v:=u2) (t:=86) Xh nj hx cG ?_;generalize L[i]=r at *
  refine Gb λxb w hS=>?_;refine Cc (bFb gp ((L.take i).foldl (λd r=>d.add r.id r.weight) d1) r.id r.weight (by omega)) ?_;clear hS;rintro _ post ⟨⟨e,rfl⟩,rfl⟩ w hS;(try simp only[app]at hS);refine Gp ?_
  refine⟨⟨i+1,rfl,by omega,?_⟩,by dsimp only;omega⟩;rw[gg,ww6];exact SL.cD hS (t:=.ob (fo gp (((L.take i).foldl (λd r=>d.add r.id r.weight) d1).add r.id r.weight))::oW u2 L::.ob (db mp wp H m)::.mem H::.pt pp (iY sp mp wp gp n) 234::F) Xi
 rw[zz7 (by omega)]at hS
 exact⟨_,rfl,aR hS⟩
structure fI.Ok(p:fI):Prop where
 m:p.m.Ok
 d:p.d.Ok
 dl:p.d.l.length<=64
 src:∃N,jH p.k N/\N<=900000000
 n:1<=p.n/\p.n<=64
 row:(mC p.d p.m.reqs).Ok
 id : -9223372036854775808<=p.m.cI.id/\p.m.cI.id<=9223372036854775807
abbrev Ew(sp tp dp lp mp wp pp gp:Nat)(H:bw)(p:fI):Β:=[.pt pp (iY sp mp wp gp p.n) 234,.ob (fo gp p.d),.ob (db mp wp H p.m),.ob (dc sp tp dp lp p.k),.ob (cw dp p.k.d),.mem H]
def Ey(sp tp dp lp mp wp pp gp:Nat)(H:bw)(y:fI × (Int × Int))(v:Ε)(post:Β):Prop:=∃H',H.le H'/\v= .tuple #[Γ y.2.1,Γ y.2.2]/\post=Ew sp tp dp lp mp wp pp gp H' y.1
def cIj(sp tp dp lp mp wp pp gp:Nat)(H:bw)(p:fI)(hp:p.Ok)(ed:p.k.d.ops<=90000):SP 158 [cH pp] (Ew sp tp dp lp mp wp pp gp H p) (Ey sp tp dp lp mp wp pp gp H p.DL):=by
 refine Enzz λW F w hS=>?_;apply cMl;delta aI bW a_ cP ai;obtain⟨N,hk,hN⟩:=hp.src;have Dt:=hp.m.reqs.1;have po:=hp.dl;have rJ:=hp.row;have hd0:=sH hk.g.ok.bI;have FL:=hk.g.hd;refine Cc (cIs sp mp wp pp gp p.n H p.m p.d Dt (by omega)) ?_;clear hS;rintro _ post rfl w hS;(try simp only[app]at hS);refine Gp ?_
 have uV:(mC p.d p.m.reqs).l.length<=1000:=by
  have h1:=HL (je p.m.reqs) ((p.m.reqs.filter (·.done)).foldl (λd r=>d.del r.id) p.d);have h2:=E6 (p.m.reqs.filter (·.done)) p.d;have h3:=Kv p.m.reqs p.m.reqs.length;rw[zz0]at h3
  unfold mC;omega
 unfold fI.DL;generalize hx:mC p.d p.m.reqs=d1 at *
 refine Cg (QB gp d1 rJ uV) λw hS=>?_;refine Cc (yy mp wp H p.m (by omega)) ?_;clear hS;rintro u post rfl w hS;try simp only[app]at hS
 have fC:∀{w:Ζ},vg p.m.reqs d1.next.2=none->SL W (.pt pp (iY sp mp wp gp p.n) 234::.ob (fo gp d1.next.1)::.ob (db mp wp H p.m)::.ob (dc sp tp dp lp p.k)::.ob (cw dp p.k.d)::.mem H::F) w->∃post,Ey sp tp dp lp mp wp pp gp H (p.we d1.next) (.tuple #[Γ 0,Γ 0]) post/\SL W (app post F) w:=λe hS=>by
  rw[show p.we d1.next=({p with d:=d1.next.1},(0,0)) by unfold fI.we;rw[e]];exact⟨_,⟨H,bw.le_refl H,rfl,rfl⟩,hS⟩
 refine Gp ?_;refine zy (λhq=>?_) (λhq=>?_)
 ·refine fC ?_ (aR hS);have he:d1.l=[]:=Decidable.of_not_not (yy2 hq);unfold dH.next vg;rw[zzd he];rfl
 have dO:d1.l≠[]:=zzp hq;refine zz hS (v:=u) (t:=86) (sz:=7) (n:=p.m.reqs.length) (cells:=(p.m.reqs.map gF).flatten) Xh ?_;refine Gp ?_;have hid:1<=d1.next.2:=by
  unfold dH.next;rw[zzb dO];have eg:0<=d1.place/\d1.place<d1.l.length:=by
   have:=rJ.neg;have:=rJ.mg;have:=rJ.oZ;have:0<d1.l.length:=wwb.2 dO;unfold dH.place;split
   ·split<;>omega
   omega
  have hm:d1.mA∈d1.l:=by
   unfold dH.mA;rw[zzc (show d1.place.toNat<d1.l.length by omega)];exact zzh _
  exact (rJ.w _ hm).1
 refine za (λh=>fC (by unfold vg;rw[zzb (by omega),yyt (by omega)]) (aR hS)) (λh=>?_);clear fC;obtain⟨j,hj⟩:∃j:Nat,d1.next.2=(j:Int)+1:=⟨(d1.next.2-1).toNat,by omega⟩;have gW:j<p.m.reqs.length:=by omega
 have lP:vg p.m.reqs d1.next.2=some p.m.reqs[j]:=by
  unfold vg;rw[zzb (by omega),hj,show ((j:Int)+1-1).toNat=j by omega,zzc gW]
 rw[show p.we d1.next=({p with d:=d1.next.1}:fI).DM p.m.reqs[j] by unfold fI.we;rw[lP]];unfold fI.DM;clear lP;rw[hj];generalize d1.next.1=d2 at hS ⊢;refine Gp ?_;refine Cg (zI sp tp dp lp p.k hk.g (by omega)) λw hS=>?_;refine Cg (Ys sp tp dp lp p.k H 2 (cO p.k.g.bI+1) hk (by omega) ed) λw hS=>?_;generalize p.k.nE 2 (cO p.k.g.bI+1)=y at hS ⊢;obtain⟨k',a,e⟩:=y;simp only at hS ⊢;refine za (λhe=>?_) (λhe=>?_)
 ·rw[zzd he];exact⟨_,⟨H,bw.le_refl H,rfl,rfl⟩,aR hS⟩
 rw[zzb he];refine Gp ?_;rw[show ((j:Int)+1-1)=(j:Int) by omega];refine zU hS (v:=u) (t:=86) Xh nj (zzc gW) gW ?_;generalize p.m.reqs[j]=r;refine Gb λxb w hS=>?_;obtain⟨rv,hr,hS⟩:=db.iff.1 (SL.cD hS (t:=.ob (db mp wp H p.m)::.pt pp (iY sp mp wp gp p.n) 234::.ob (fo gp d2)::.ob (dc sp tp dp lp k')::.ob (cw dp k'.d)::.mem H::F) Xi);refine Cc (cU4 wp p.m.cI (cO p.k.g.bI+1) r.id r.table r.dG) ?_;clear hS;rintro _ post ⟨⟨q,rfl⟩,rfl⟩ w hS;try simp only[app]at hS
 have hS:=db.put (mp:=mp) {p.m with cI:=p.m.cI.tY (cO p.k.g.bI+1) r.id r.table r.dG} rv hr hS Xp;exact⟨_,⟨H,bw.le_refl H,rfl,rfl⟩,aR hS⟩
def q7(sp tp dp lp mp wp pp gp:Nat)(H:bw)(p:fI)(hp:p.Ok)(ed:p.k.d.ops<=90000):SP 163 [cH pp] (Ew sp tp dp lp mp wp pp gp H p) (Ey sp tp dp lp mp wp pp gp H p.Dc):=by
 refine Enzz λW F w hS=>?_;apply cMr;delta aI bW aW b_ ai;obtain⟨N,hk,hN⟩:=hp.src;refine Gn λw hS=>?_;obtain⟨rv,hr,hS⟩:=db.iff.1 (SL.cD hS (t:=.ob (db mp wp H p.m)::.pt pp (iY sp mp wp gp p.n) 234::.ob (fo gp p.d)::.ob (dc sp tp dp lp p.k)::.ob (cw dp p.k.d)::.mem H::F) Xi);refine Cg (cU1 wp p.m.cI) λw hS=>?_;unfold fI.Dc;refine Cg (Ys sp tp dp lp p.k H 3 p.m.cI.mark hk (by omega) ed) λw hS=>?_;generalize p.k.nE 3 p.m.cI.mark=y at hS ⊢;obtain⟨k',a,e⟩:=y;simp only at hS ⊢;refine za (λhe=>?_) (λhe=>?_)
 ·rw[zzd he];have hS:=db.put (mp:=mp) p.m rv hr hS Xp;exact⟨_,⟨H,bw.le_refl H,rfl,rfl⟩,aR hS⟩
 rw[zzb he];refine Gp ?_;refine Cc (cU8 wp p.m.cI) ?_;clear hS;rintro _ post ⟨⟨q,rfl⟩,rfl⟩ w hS;try simp only[app]at hS
 have hS:=db.put (mp:=mp) {p.m with cI:=p.m.cI.shut} rv hr hS Xp;exact⟨_,⟨H,bw.le_refl H,rfl,rfl⟩,aR hS⟩
def q8(sp tp dp lp mp wp pp gp:Nat)(H:bw)(p:fI)(hp:p.Ok)(ed:p.k.d.ops<=90000):SP 103 [cH pp] (Ew sp tp dp lp mp wp pp gp H p) (Ey sp tp dp lp mp wp pp gp H p.step):=by
 refine Enzz λW F w hS=>?_;apply cK6;delta aI bW aW b_ cP ai;obtain⟨N,hk,hN⟩:=hp.src;have Dt:=hp.m.reqs.1;have cW8:=hp.n;unfold fI.step;refine Cg (Zv sp mp wp pp gp p.n H p.m (by omega)) λw hS=>?_;refine zy (λhq=>?_) (λhq=>?_)
 ·rw[zzd hq];exact⟨_,⟨H,bw.le_refl H,rfl,rfl⟩,aR hS⟩
 rw[zzb (by simp[hq])];obtain⟨rv,hr,hS⟩:=db.iff.1 (SL.cD hS (t:=.ob (db mp wp H p.m)::.pt pp (iY sp mp wp gp p.n) 234::.ob (fo gp p.d)::.ob (dc sp tp dp lp p.k)::.ob (cw dp p.k.d)::.mem H::F) Xi);refine Gp ?_;refine Cg (y2 wp p.m.cI) λw hS=>?_;refine za (λh0=>?_) (λh0=>?_)
 ·rw[zzd h0];have hS:=db.put (mp:=mp) p.m rv hr hS Xp;refine Cc (cIj sp tp dp lp mp wp pp gp H p hp ed) ?_;clear hS;rintro _ post ⟨H1,du,rfl,rfl⟩ w hS;(try simp only[app]at hS);refine Gp ?_
  exact⟨_,⟨H1,du,rfl,rfl⟩,aR hS⟩
 rw[zzb h0];refine cA (λh1=>?_) (λh1=>?_)
 ·rw[zzd h1];refine Gn λw hS=>?_;refine Cg (Qm wp p.m.cI) λw hS=>?_;refine Cg (Qk wp p.m.cI) λw hS=>?_;refine Cc (q6 sp tp dp lp p.k p.m.cI.table p.m.cI.after p.n (λC hC=>by have:=hk.len C hC;omega) (λC hC=>(hk.rows C hC).sorted) (by omega) (by omega)) ?_;clear hS;rintro u post rfl w hS;try simp only[app]at hS
  obtain⟨H1,du,hR,hS⟩:=zw (H:=H) (v:=u) hS Xp;have mP:(p.k.wY p.m.cI.table p.m.cI.after p.n).length<=64:=by
   unfold cW.wY oA;rw[zzg];omega
  generalize p.k.wY p.m.cI.table p.m.cI.after p.n=C at hR mP ⊢;refine Gp ?_;refine Cc (cUx wp p.m.cI H1 u C hR (by omega)) ?_;clear hS;rintro _ post ⟨⟨q,rfl⟩,rfl⟩ w hS;try simp only[app]at hS
  have hS:=db.put (mp:=mp) {p.m with cI:=p.m.cI.fill C} rv (hr.mono du) hS Xp;exact⟨_,⟨H1,du,rfl,rfl⟩,aR hS⟩
 rw[zzb h1];have hS:=db.put (mp:=mp) p.m rv hr hS Xp;refine Cc (q7 sp tp dp lp mp wp pp gp H p hp ed) ?_;clear hS;rintro _ post ⟨H1,du,rfl,rfl⟩ w hS;(try simp only[app]at hS);refine Gp ?_
 exact⟨_,⟨H1,du,rfl,rfl⟩,aR hS⟩
def aws(dp:Nat)(d:DS)(H:bw)(n:Nat)(f:Int)(r:Ε)(post:Β):Prop:=∃H',H.le H'/\post=[.ob (cw dp d),.mem H']/\match iQ d.R n f with
 | none=>∃a b,r= .tuple #[a,b,.bool false]
 | some y=>∃v,vo H' v y.2/\r= .tuple #[Γ y.1,v,.bool true]
def bWr(dp:Nat)(d:DS)(H:bw)(n:Nat)(f:Int){N:Nat}(cL:d.Ok N)(hN:N<=140737488355328):
  SP 194 [cH dp,Γ f,Γ (n:Nat)] [.ob (cw dp d),.mem H] (aws dp d H n f):=by
 refine Enzz λW F w hS=>?_;apply cNm;delta aI cP ai bR;refine Cc (Yk dp d N cL hN f) ?_;clear hS;rintro r post hq w hS;unfold Ci at hq;cases hg:dS PF.id d.R f with
 | none=>
  rw[hg]at hq
  obtain⟨rfl,rfl⟩:=hq;have hi:iQ d.R n f=none:=by unfold iQ;rw[hg]
  (try simp only[app]at hS);refine Gp ?_
  refine zq ?_;refine⟨[.ob (cw dp d),.mem H],⟨H,bw.le_refl H,rfl,?_⟩,aR hS⟩;rw[hi];exact⟨_,_,rfl⟩
 | some x=>
  rw[hg]at hq
  obtain⟨u,rfl,rfl⟩:=hq;have kj:=cL.len x (uA hg).1;(try simp only[app]at hS);refine Gp ?_
  refine zp ?_;refine Cc (qQ (.ob (bF u 5 1 x.b.length (x.b.map dd))) H u x.b dX.own (by omega)) ?_;clear hS;rintro r post hq w hS;unfold B4 at hq;cases hd:kC x.b with
  | none=>
   rw[hd]at hq
   obtain⟨rfl,H',hh,rfl⟩:=hq;have hi:iQ d.R n f=none:=by unfold iQ;rw[hg];simp only;rw[hd]
   (try simp only[app]at hS);refine Gp ?_
   refine Χ ?_;refine⟨[.ob (cw dp d),.mem H'],⟨H',hh,rfl,?_⟩,aR hS⟩;rw[hi];exact⟨_,_,rfl⟩
  | some y=>
   rw[hd]at hq
   obtain⟨v,H',hh,hT,rfl,rfl⟩:=hq;have hi:iQ d.R n f=if y.2.length=n then some y else none:=by unfold iQ;rw[hg];simp only;rw[hd]
   (try simp only[app]at hS);refine Gp ?_
   refine Υ ?_;refine yV hT ?_;refine Gp ?_;refine⟨[.ob (cw dp d),.mem H'],⟨H',hh,rfl,?_⟩,aR hS⟩;rw[hi];by_cases hl:y.2.length=n
   ·rw[zzd hl,zzo (by omega)];exact⟨v,hT,rfl⟩
   rw[zzb hl,zz3 (by omega)];exact⟨_,_,rfl⟩
def loadAt(R:List PF)(n:Nat)(x:sa):Nat->sa
 | 0=>x
 | 1=>gA R n 0 x
 | _=>gA R n 1 (gA R n 0 x)
def F8{R:List PF}{n:Nat}{f:Int}{y:Int × iM}(h:iQ R n f=some y):jo y.1 y.2=true/\y.2.length=n:=by
 unfold iQ at h;split at h
 ·cases h
 split at h
 ·cases h
 rename_i hd;split at h
 ·rename_i hl;cases h;exact⟨bFk hd,hl⟩
 cases h
def cHs{α:Type}{l m:List α}{i:Nat}(hi:i<l.length)(h:m.length=l.length):(l.take i++m.drop i).set i l[i]=l.take (i+1)++m.drop (i+1):=by
 rw[vvy _ _ (by rw[zzg];omega),zzg,show i-min i l.length=0 by omega,yyq (by omega:i<m.length),List.set_cons_zero,zze hi,zzk];rfl
def cAg{R:List PF}{n:Nat}{x:sa}{j:Nat}(h:j<=1):loadAt R n x (j+1)=gA R n j (loadAt R n x j):=by
 match j,h with
 | 0,_=>rfl
 | 1,_=>rfl
def VT{R:List PF}{n:Nat}{f:Int}{x:sa}(h:x.2.2.length=n):(gA R n f x).2.2.length=n:=by
 unfold gA;cases hi:iQ R n f with
 | none=>exact h
 | some y=>
  simp only;split
  ·exact h
  exact (F8 hi).2
def cAf{R:List PF}{n:Nat}{f:Int}{x:sa}(h:0<=x.2.1/\x.2.1<=1099511627776):0<=(gA R n f x).2.1/\(gA R n f x).2.1<=1099511627776:=by
 unfold gA;cases hi:iQ R n f with
 | none=>exact h
 | some y=>
  simp only;split
  ·exact h
  have:=(sS.1 (F8 hi).1).1;exact⟨this.1,this.2.1⟩
def cAn(sp tp dp lp:Nat)(d:DS)(H:bw)(x0:sa)(n:Nat)(U8:x0.2.2.length=n)(h8:n<=8){N:Nat}(cL:d.Ok N)(hN:N<=140737488355328):
  SP 135 [cH sp] [.pt sp (mE tp dp lp x0.1 x0.2.1) 133,.ob (dV tp x0.2.2),.ob (cw dp d),.mem H] (λ_ post=>∃H',H.le H'/\post=[.pt sp (mE tp dp lp (gA d.R n 1 (gA d.R n 0 x0)).1 (gA d.R n 1 (gA d.R n 0 x0)).2.1) 133,.ob (dV tp (gA d.R n 1 (gA d.R n 0 x0)).2.2),.ob (cw dp d),.mem H']):=by
 refine Enzz λW F w hS=>?_;apply cL0;delta aI bW c_ aW b_ cP ai;refine⟨λus w=>∃(j:Nat) (H':bw),us=[Γ j]/\j<=2/\H.le H'/\(loadAt d.R n x0 j).2.2.length=n/\SL W (.pt sp (mE tp dp lp (loadAt d.R n x0 j).1 (loadAt d.R n x0 j).2.1) 133::.ob (dV tp (loadAt d.R n x0 j).2.2)::.ob (cw dp d)::.mem H'::F) w,
  λus _=>match us with|[.int _ i]=>(2-i).toNat|_=>0,⟨0,H,rfl,by omega,bw.le_refl H,U8,hS⟩,?_⟩
 clear hS;rintro v2 w ⟨j,H',cT,hj,hh,kj,hS⟩;cases cT;refine cA (λh=>?_) (λh=>?_)
 ·have uO:j<=1:=by omega
  have lx:=cAg (R:=d.R) (n:=n) (x:=x0) uO;have gL:∀{w:Ζ} {H2:bw} (y:sa),gA d.R n j (loadAt d.R n x0 j)=y->H.le H2->SL W (.pt sp (mE tp dp lp y.1 y.2.1) 133::.ob (dV tp y.2.2)::.ob (cw dp d)::.mem H2::F) w ->
    ∃(j':Nat) (H':bw),[Γ ((j+1:Nat):Int)]=[Γ j']/\j'<=2/\H.le H'/\(loadAt d.R n x0 j').2.2.length=n/\SL W (.pt sp (mE tp dp lp (loadAt d.R n x0 j').1 (loadAt d.R n x0 j').2.1) 133::.ob (dV tp (loadAt d.R n x0 j').2.2)::.ob (cw dp d)::.mem H'::F) w:=λy hy fu hS=>by
   refine⟨j+1,_,rfl,by omega,fu,?_,?_⟩
   ·rw[lx];exact VT kj
   rw[lx,hy];exact hS
  generalize hx:loadAt d.R n x0 j=x at *
  refine Gn λw hS=>?_;refine Cg (yt tp x.2.2) λw hS=>?_;refine Cc (bWr dp d H' x.2.2.length j cL hN) ?_;clear hS;rintro r post ⟨H2,dF,rfl,hq⟩ w hS;try simp only[app]at hS
  rw[kj]at hq
  have fu:=bw.le_trans hh dF;cases hi:iQ d.R n j with
  | none=>
   rw[hi]at hq
   obtain⟨a,b,rfl⟩:=hq;refine Gp ?_;refine⟨λus w=>False,?_,λw h=>h.elim⟩;refine z8 (zq ?_);refine Gp ?_;exact⟨gL x (by unfold gA;rw[hi]) fu (aR hS),by dsimp only;omega⟩
  | some y=>
   rw[hi]at hq
   obtain⟨v,hT,rfl⟩:=hq;obtain⟨ki,F5⟩:=F8 hi;have tB:=(sS.1 ki).2;refine Gp ?_;refine⟨λus w=>us=[]/\¬(0<=x.1/\y.1<=x.2.1)/\SL W (.pt sp (mE tp dp lp x.1 x.2.1) 133::.ob (dV tp x.2.2)::.ob (cw dp d)::.mem H2::F) w,?_,?_⟩
   ·refine z8 (zp ?_);refine cA (λh0=>?_) (λh0=>?_)
    ·refine cA (λh1=>?_) (λh1=>?_)
     ·refine Gp ?_;exact⟨gL x (by unfold gA;rw[hi];simp only;rw[zzd ⟨h0,h1⟩]) fu (aR hS),by dsimp only;omega⟩
     exact⟨rfl,λh=>h1 h.2,aR hS⟩
    exact⟨rfl,λh=>h0 h.1,aR hS⟩
   clear hS;rintro w ⟨-,hc,hS⟩;refine Gn λw hS=>?_;refine yV hT ?_;have hS:SL W (_::.ob (dV tp (y.2.take 0++x.2.2.drop 0))::_) _:=hS;refine⟨λus w=>∃i:Nat,us=[Γ i]/\i<=y.2.length/\SL W (.ob (dV tp (y.2.take i++x.2.2.drop i))::.pt sp (mE tp dp lp j y.1) 133::.ob (cw dp d)::.mem H2::F) w,
    λus _=>match us with|[.int _ i]=>(y.2.length-i).toNat|_=>0,⟨0,rfl,by omega,aR hS⟩,?_⟩
   clear hS;rintro v54 w ⟨i,cT,cG,hS⟩;cases cT;refine cA (λh=>?_) (λh=>?_)
   ·have cG:i<y.2.length:=by omega
    have px:=cHs (m:=x.2.2) cG (by omega);have ly:i<(y.2.take i++x.2.2.drop i).length:=by rw[zza,zzg,zzs];omega
    have TS:=tB _ (zzh cG);refine qe hS Xh hT cG λu hu=>?_;generalize y.2[i]=C at *
    generalize y.2.take i++x.2.2.drop i=T at *
    refine Gp ?_;refine Cg (cKc tp T H2 u i C ly hu TS.sorted (by have:=TS.len;omega)) λw hS=>?_;refine⟨⟨i+1,rfl,by omega,?_⟩,by dsimp only;omega⟩;rw[<- px];exact aR hS
   obtain rfl:i=y.2.length:=by omega
   rw[zz0,yy7 (by omega),zz2]at hS
   refine Gp ?_;exact⟨gL (j,y.1,y.2) (by unfold gA;rw[hi];simp only;rw[zzb hc]) fu (aR hS),by dsimp only;omega⟩
 obtain rfl:j=2:=by omega
 exact⟨_,⟨H',hh,rfl⟩,hS⟩
def cW.lY(k:cW):Option iM:=match oT k.ts.length k.image (cX k.g.bI) (fk k.g.bI) k.ts with
 | none=>none
 | some ts=>if k.image<=cO k.g.bI/\fk k.g.bI<=k.image+1 then some ts else none
def bIy{L:List dt}(h:i_ L):cO L-fk L+1=((cX L).length:Int):=by
 by_cases hL:L=[]
 ·subst hL;rfl
 rw[h.head hL];omega
def cAp{L:List dt}{N:Nat}(h:∀s∈L,k_ s N):1<=fk L/\fk L<=1099511627776:=by
 cases L with
 | nil=>exact⟨yyf _,by show (1:Int)<=_;decide⟩
 | cons s r=>exact⟨(h s (.head _)).n0,(h s (.head _)).n1⟩
def cFv{n:Nat}{image:Int}{b:Φ}{r:List Φ}{aw:Int}{ts:iM}:oT n image (b::r) aw ts=match kQ b with
  | .error _=>none
  | .ok t=>if t.aw=aw/\(∀c∈t.changes,c.table<(n:Int)) then oT n image r (aw+1) (if image<aw then gd ts t.changes else ts) else none:=rfl
def cFx(sp tp dp lp:Nat)(H:bw)(k:cW){N:Nat}(hg:ij k.g N)(hN:N<=1000000000)(hs:∀C∈k.ts,gi C){L0:Nat}(hn:∀C∈k.ts,C.length<=L0)(hL:L0+16*(cX k.g.bI).length<=900000)(lO:0<=k.image/\k.image<=1099511627776):
  SP 136 [cH sp] [.ob (dc sp tp dp lp k),.mem H] (λv post=>∃H',H.le H'/\match k.lY with
   | none=>v= .bool false/\post=[.mem H']
   | some ts=>v= .bool true/\post=[.ob (dc sp tp dp lp {k with ts:=ts}),.mem H']):=by
 refine Enzz λW F w hS=>?_;apply cL1;delta aI bW a_ aW b_ cP cz ai bR;have hF:∀{w:Ζ} {H':bw},k.lY=none->H.le H'->SL W (.mem H'::F) w->∃post,(∃H',H.le H'/\match k.lY with
   | none=>(.bool false:Ε)= .bool false/\post=[.mem H']
   | some ts=>(.bool false:Ε)= .bool true/\post=[.ob (dc sp tp dp lp {k with ts:=ts}),.mem H'])/\SL W (app post F) w:=λhr hh hS=>by
  rw[hr];exact⟨[.mem _],⟨_,hh,rfl,rfl⟩,hS⟩
 have sF:=bIy hg.seq;have rH:=cAp hg.ok.bI;have tI:=hg.hd;refine Cg (ZI sp tp dp lp k hg hN) λw hS=>?_;refine⟨λus w=>∃(i:Nat) (T:iM) (H2:bw),us=[Γ (fk k.g.bI+i)]/\i<=(cX k.g.bI).length/\oT k.ts.length k.image (cX k.g.bI) (fk k.g.bI) k.ts=oT k.ts.length k.image ((cX k.g.bI).drop i) (fk k.g.bI+i) T/\T.length=k.ts.length/\(∀C∈T,gi C)/\(∀C∈T,C.length<=L0+16*i)/\H.le H2/\SL W (.ob (dc sp tp dp lp {k with ts:=T})::.mem H2::F) w,
  λus _=>match us with|[.int _ i]=>(cO k.g.bI+1-i).toNat|_=>0,⟨0,k.ts,H,by simp,by omega,by simp,rfl,hs,by simpa using hn,bw.le_refl H,aR hS⟩,?_⟩
 clear hS;rintro v3 w ⟨i,T,H2,cT,hi,dQ,vL,tB,xx,hh,hS⟩;cases cT;refine Cg (zI sp tp dp lp {k with ts:=T} hg hN) λw hS=>?_;refine za (λh=>?_) (λh=>?_)
 ·have h:fk k.g.bI+i<=cO k.g.bI:=h;have cG:i<(cX k.g.bI).length:=by omega
  have Du:=hg.seq.read i;rw[zzc cG]at Du
  rw[yyq cG,cFv]at dQ
  generalize (cX k.g.bI)[i]=bs at *
  have kh:1<=fk k.g.bI+i/\fk k.g.bI+i<=1099511627776:=by omega
  generalize hlq:fk k.g.bI+i=aw at *
  have uU:(match kQ bs with
   | .error _=>none
   | .ok t=>if t.aw=aw/\(∀c∈t.changes,c.table<(k.ts.length:Int)) then oT k.ts.length k.image ((cX k.g.bI).drop (i+1)) (aw+1) (if k.image<aw then gd T t.changes else T) else none)=none->k.lY=none:=λh=>by unfold cW.lY;rw[dQ,h]
  refine Cc (Zj sp tp dp lp {k with ts:=T} hg hN H2 aw (by omega)) ?_;clear hS;rintro r post hq w hS;unfold Cj cW.gN at hq;simp only at hq;rw[Du]at hq
  simp only at hq;cases hd:kQ bs with
  | error e=>
   rw[hd]at hq uU
   obtain⟨dO,H3,fB,rfl,rfl⟩:=hq;refine Gm λb w hS=>?_;refine za (λ_=>?_) (λh=>absurd dO h);exact hF (uU rfl) (bw.le_trans hh fB) (aR hS)
  | ok t=>
   rw[hd]at hq uU dQ
   obtain⟨x,H3,fB,rfl,hx,rfl⟩:=hq;have pe:=bw.le_trans hh fB;obtain⟨ht1,F1,ht3,ht4,ht5,U1,ht7⟩:=my (Il hd);try simp only[app]at hS
   refine Gp ?_;refine zE hS λxb w hS=>?_;refine zt (vs:=eV x) hS Xu rfl rfl (vB (aw:=x.aw) (kind:=x.kind) (mark:=x.mark) hx.cv.one hx.sv.one) λw hS=>?_;unfold eV at hS;rw[hx.aw,hx.kind,hx.mark]at hS
   refine Gn λw hS=>?_;refine Χ ?_;refine cA (λhl=>?_) (λhl=>?_)
   ·exact hF (uU (by simp only;rw[zzb λh=>hl h.1])) pe (aR hS)
   have hS:=dc.iff.1 (SL.cD hS (t:=.ob (dc sp tp dp lp {k with ts:=T})::.pt xb [Γ t.aw,Γ t.kind,x.cv,x.sv,Γ t.mark] 89::.mem H3::F) Xi);refine Gp ?_;refine Cg (yt tp T) λw hS=>?_;refine Cg (Z3 H3 x.cv t.changes T.length hx.cv (by omega)) λw hS=>?_;rw[vL];refine zy (λhb=>?_) (λhb=>?_)
   ·have hb:=yy2 hb;exact hF (uU (by simp only;rw[zzb λh=>hb h.2])) pe (aR hS)
   have hb:=zzp hb;have eK:t.changes.all (iq T.length)=true:=zz5.2 λc hc=>zzo ⟨(Ac.1 (U1 c hc)).1,by rw[vL];exact hb c hc⟩;simp only at dQ;rw[zzd (show t.aw=aw/\∀c∈t.changes,c.table<(k.ts.length:Int) from ⟨by omega,hb⟩)]at dQ
   have Jo:aw+1=fk k.g.bI+((i+1:Nat):Int):=by omega
   rw[Jo]at dQ
   refine cA (λmu=>?_) (λmu=>?_)
   ·rw[zzd (show k.image<aw by omega)]at dQ
    refine Gn λw hS=>?_;refine Cg (ZV tp T H3 x.cv t.changes hx.cv (by omega) tB (L0+16*i) xx (by omega)) λw hS=>?_;rw[zzd eK]at hS
    rw[Jo];refine⟨⟨i+1,gd T t.changes,H3,rfl,by omega,dQ,by rw[um];exact vL,EM tB λc hc=>zz5.1 eK c hc,λC hC=>?_,pe,SL.cD (dc.put {k with ts:=gd T t.changes} hS Xp) Xi⟩,by dsimp only;omega⟩;have:=EL (L0+16*i) (l:=t.changes) xx (λc hc=>zz5.1 eK c hc) C hC;omega
   rw[zzb (show ¬k.image<aw by omega)]at dQ
   refine Gp ?_;rw[Jo];exact⟨⟨i+1,T,H3,rfl,by omega,dQ,vL,tB,λC hC=>by have:=xx C hC;omega,pe,SL.cD (dc.put {k with ts:=T} hS Xp) Xi⟩,by dsimp only;omega⟩
 have h:¬fk k.g.bI+i<=cO k.g.bI:=h;obtain rfl:i=(cX k.g.bI).length:=by omega
 rw[vv5]at dQ
 have dQ:oT k.ts.length k.image (cX k.g.bI) (fk k.g.bI) k.ts=some T:=dQ;have hR:k.lY=if k.image<=cO k.g.bI/\fk k.g.bI<=k.image+1 then some T else none:=by unfold cW.lY;rw[dQ]
 have hS:SL W (.pt sp (mE tp dp lp k.eh k.image) 133::.ob (dV tp T)::.ob (dx lp dp k.g)::_) _:=dc.iff.1 hS;refine Gn λw hS=>?_;have hS:=dc.put {k with ts:=T} hS Xp;refine Cg (zI sp tp dp lp {k with ts:=T} hg hN) λw hS=>?_;have hS:SL W (.pt sp (mE tp dp lp k.eh k.image) 133::.ob (dV tp T)::.ob (dx lp dp k.g)::_) _:=dc.iff.1 hS;refine cA (λh1=>?_) (λh1=>?_)
 ·have h1:k.image<=cO k.g.bI:=h1;refine Gp ?_;have hS:=dc.put {k with ts:=T} hS Xp;refine Cg (ZI sp tp dp lp {k with ts:=T} hg hN) λw hS=>?_;have hS:SL W (.pt sp (mE tp dp lp k.eh k.image) 133::.ob (dV tp T)::.ob (dx lp dp k.g)::_) _:=dc.iff.1 hS;refine Gp ?_;have hS:=dc.put {k with ts:=T} hS Xp;by_cases h2:fk k.g.bI<=k.image+1
  ·rw[zzo (show fk ({k with ts:=T}:cW).g.bI<=k.image+1 from h2)];refine⟨[.ob (dc sp tp dp lp {k with ts:=T}),.mem H2],⟨H2,hh,?_⟩,aR hS⟩;rw[hR,zzd ⟨h1,h2⟩];exact⟨rfl,rfl⟩
  rw[zz3 (show ¬fk ({k with ts:=T}:cW).g.bI<=k.image+1 from h2)];exact hF (by rw[hR,zzb λh=>h2 h.2]) hh (aR hS)
 exact hF (by rw[hR,zzb λh=>h1 h.1]) hh (aR hS)
def He(dp:Nat)(H:bw)(y:DS × Except Int cW)(r:Ε)(post:Β):Prop:=match y.2 with
 | .error e=>e≠0/\∃H',H.le H'/\r= .tuple #[.pointer none,Γ e]/\post=[.ob (cw dp y.1),.mem H']
 | .ok k=>∃sp tp lp H',H.le H'/\r= .tuple #[cH sp,Γ 0]/\post=[.ob (dc sp tp dp lp k),.ob (cw dp y.1),.mem H']
def VV{R:List PF}{n:Nat}{x:sa}(hx:x.2.2.length=n/\(0<=x.2.1/\x.2.1<=1099511627776)/\∀C∈x.2.2,Cl C)(f:Int):(gA R n f x).2.2.length=n/\(0<=(gA R n f x).2.1/\(gA R n f x).2.1<=1099511627776)/\∀C∈(gA R n f x).2.2,Cl C:=by
 refine⟨VT hx.1,cAf hx.2.1,?_⟩;unfold gA;cases hi:iQ R n f with
 | none=>exact hx.2.2
 | some y=>
  simp only;split
  ·exact hx.2.2
  exact (sS.1 (F8 hi).1).2
def cAk(R:List PF)(n:Nat):(lB R n).2.2.length=n/\(0<=(lB R n).2.1/\(lB R n).2.1<=1099511627776)/\∀C∈(lB R n).2.2,Cl C:=
 VV (VV (x:=(-1,0,List.replicate n [])) ⟨xxn,⟨show (0:Int)<=0 by decide,show (0:Int)<=1099511627776 by decide⟩,λC hC=>by rw[(uuh.1 hC).2];exact⟨List.Pairwise.nil,by simp,by decide⟩⟩ 0) 1
def cH7(H:bw)(dp:Nat)(d:DS)(cU size:Int){N B:Nat}(cL:d.Ok B)(hB:B<=140737488355328)(hw:ry d.R 16 N)(hN:N<=900000000)(ed:d.ops<=90000)(hn:∀d' g,ff d 16 size=(d',.ok g)->(cX g.bI).length<=50000):
  SP 92 [cH dp,Γ cU,Γ size] [.ob (cw dp d),.mem H] (He dp H (lD d cU size)):=by
 refine Enzz λW F w hS=>?_;apply cUg;delta aI cP ai cY;have hR:=cL.D4;refine Cc (cJr cU) ?_;clear hS;rintro r post hq w hS;unfold Ce at hq;by_cases ht:cU<1\/8<cU
 ·rw[zzd ht]at hq
  obtain⟨rfl,rfl⟩:=hq;have e:lD d cU size=(d,.error 1):=by unfold lD;rw[zzd ht]
  rw[e];(try simp only[app]at hS);refine Gp ?_
  refine Υ ?_;exact⟨_,⟨by decide,H,bw.le_refl H,rfl,rfl⟩,aR hS⟩
 rw[zzb ht]at hq
 obtain⟨tp,rfl,rfl⟩:=hq;obtain⟨n,rfl⟩:∃n:Nat,cU=n:=⟨cU.toNat,by omega⟩;rw[zzz]at hS
 (try simp only[app]at hS);refine Gp ?_
 refine Χ ?_;refine Cc (WL dp d 16 size cL hB hw (by omega) (by omega) (by omega)) ?_;clear hS;rintro r post hq w hS;unfold lD;rw[zzb ht];unfold Cf at hq;have C':=Gu (base:=16) (size:=size) cL;cases tN:ff d 16 size with
 | mk d' o=>
  rw[tN]at hq C'
  cases o with
  | error e=>
   obtain⟨he,rfl,rfl⟩:=hq;(try simp only[app]at hS);refine Gp ?_
   refine za (λ_=>?_) (λh=>absurd he h);exact⟨_,⟨he,H,bw.le_refl H,rfl,rfl⟩,aR hS⟩
  | ok g=>
   obtain⟨lp,rfl,rfl⟩:=hq;have hG:=WK hw (by omega) tN;have cWo:=hn d' g tN;obtain⟨x1,x2,x3⟩:=cAk d'.R n;(try simp only[app]at hS);refine Gp ?_
   refine Χ ?_;refine Gp ?_;refine zu hS λsp w hS=>?_;refine Cc (cAn sp tp dp lp d' H (-1,0,List.replicate n []) n xxn (by omega) C' hB) ?_;clear hS;rintro _ post ⟨H2,fu,rfl⟩ w hS;try simp only[app]at hS
   have hli:gA d'.R n 1 (gA d'.R n 0 (-1,0,List.replicate n []))=lB d'.R n:=rfl;rw[hli]at hS
   simp only[zzz];generalize lB d'.R n=x at *
   obtain⟨nw,im,ts⟩:=x;simp only at x1 x2 x3 hS ⊢;have hS:=dc.eX (d:=d') hS Xp;refine Cc (cFx sp tp dp lp H2 ⟨g,d',ts,nw,im⟩ hG (by omega) (λC hC=>(x3 C hC).sorted) (L0:=1000) (λC hC=>(x3 C hC).len) (by show 1000+16*(cX g.bI).length<=900000;omega) x2) ?_;clear hS;rintro r post ⟨H3,fB,hq⟩ w hS;have pe:=bw.le_trans fu fB;have hK:cW.lY ⟨g,d',ts,nw,im⟩=match oT n im (cX g.bI) (fk g.bI) ts with
    | none=>none
    | some ts=>if im<=cO g.bI/\fk g.bI<=im+1 then some ts else none:=by rw[<- x1];rfl
   rw[hK]at hq
   clear hK;cases hr:oT n im (cX g.bI) (fk g.bI) ts with
   | none=>
    rw[hr]at hq
    obtain⟨rfl,rfl⟩:=hq;try simp only[app]at hS
    refine z8 (zq ?_);exact⟨_,⟨by decide,H3,pe,rfl,rfl⟩,aR hS⟩
   | some ts2=>
    rw[hr]at hq
    simp only at hq;by_cases hc:im<=cO g.bI/\fk g.bI<=im+1
    ·rw[zzd hc]at hq
     obtain⟨rfl,rfl⟩:=hq;try simp only[app]at hS
     refine z8 (zp ?_);simp only;rw[zzd hc];exact⟨_,⟨sp,tp,lp,H3,pe,rfl,rfl⟩,aR hS⟩
    rw[zzb hc]at hq
    obtain⟨rfl,rfl⟩:=hq;try simp only[app]at hS
    refine z8 (zq ?_);simp only;rw[zzb hc];exact⟨_,⟨by decide,H3,pe,rfl,rfl⟩,aR hS⟩
def Q9(H:bw)(dp:Nat)(d:DS)(cU size:Int){N:Nat}(cL:d.Ok N)(hN:N<=900000000)(ed:d.ops<=90000)(hn:∀d' g,ff d 16 size=(d',.ok g)->(cX g.bI).length<=50000):
  SP 92 [cH dp,Γ cU,Γ size] [.ob (cw dp d),.mem H] (He dp H (lD d cU size)):=
 cH7 H dp d cU size cL (by omega) (ry.all cL.len 16) hN ed hn
structure Tm where
 id:Int
 when:Int
deriving DecidableEq
instance:Inhabited Tm:=⟨⟨0,0⟩⟩
def gr(t:Tm):Ξ:=[Γ t.id,Γ t.when]
def tm(t:Tm):(gr t).length=2:=rfl
def CN(t:Tm):∀v∈gr t,v.oneCell'=true:=by simp[gr,Value.oneCell']
def sq(x:Int):Int:=min (max x 0) 1125899906842624
def pD(a b:Tm):Prop:=a.when<b.when\/(a.when=b.when/\a.id<b.id)
def re(L:List Tm)(id:Int):List Tm:=L.filter λt=>decide (t.id≠id)
def erase_filter:∀(l:List Tm) (i:Nat) (id:Int),(l.map (·.id)).Nodup->(∃h:i<l.length,l[i].id=id)->re l id=l.eraseIdx i
 | [],i,id,_,⟨h,_⟩=>by simp at h
 | x::l,0,id,hn,⟨_,he⟩=>by
  simp only[vvq]at he;rw[zzr,ww8]at hn
  unfold re;rw[vvo (by simpa using he),List.eraseIdx_cons_zero,yy4];intro y hy;have:y.id≠x.id:=λe=>hn.1 (e▸zzx.2 ⟨y,hy,rfl⟩);simpa [he] using this
 | x::l,i+1,id,hn,⟨h,he⟩=>by
  rw[zzr,ww8]at hn
  have hl:i<l.length:=by simpa using h
  have lk:l[i].id=id:=by simpa using he
  have hx:x.id≠id:=λe=>hn.1 (by rw[e,<- lk];exact zzx.2 ⟨_,zzh hl,rfl⟩);have ih:=erase_filter l i id hn.2 ⟨hl,lk⟩;unfold re at ih ⊢;rw[vvn (by simpa using hx),uui,ih]
def czp{l:List Tm}{id:Int}(h:∀t∈l,t.id≠id):re l id=l:=by
 unfold re;rw[yy4];intro t ht;simpa using h t ht
def czq{l l':List Tm}(h:l.Perm l')(id:Int):(re l id).Perm (re l' id):=h.filter _
def czo{l:List Tm}(h:(l.map (·.id)).Nodup)(id:Int):((re l id).map (·.id)).Nodup:=h.sublist (List.filter_sublist.map _)
def Fe{α β:Type}(f:α->List β):∀(xs:List α) (s:Nat) (h:s<xs.length) (y:α),∃R,(xs.flatMap f).Perm (f xs[s]++R)/\((xs.set s y).flatMap f).Perm (f y++R)
 | [],s,h,y=>by simp at h
 | x::xs,0,h,y=>⟨xs.flatMap f,by simp,by simp⟩
 | x::xs,s+1,h,y=>by
  obtain⟨R,h1,h2⟩:=Fe f xs s (by simpa using h) y;refine⟨f x++R,?_,?_⟩
  ·simp only[List.flatMap_cons,vvs];refine (h1.append_left _).trans ?_;rw[<- zzk,<- zzk];exact vvx.append_right _
  simp only[List.set_cons_succ,List.flatMap_cons];refine (h2.append_left _).trans ?_;rw[<- zzk,<- zzk];exact vvx.append_right _
structure sj(xs:List (Ε × List Tm))(L:List Tm):Prop where
 len:xs.length=16
 at_:∀s (h:s<xs.length),∀t∈xs[s].2,md t.id 16=s
 perm:(xs.flatMap (·.2)).Perm L
 nodup:(L.map (·.id)).Nodup
def sj.sub{xs:List (Ε × List Tm)}{L:List Tm}(h:sj xs L)(s:Nat)(hs:s<xs.length):(xs[s].2.map (·.id)).Nodup/\∀t∈xs[s].2,t∈L:=by
 obtain⟨R,h1,_⟩:=Fe (·.2) xs s hs xs[s];have hp:=h1.symm.trans h.perm;have hn:=(hp.map (·.id)).nodup_iff.2 h.nodup;rw[zzt]at hn
 exact⟨(ttf.1 hn).1,λt ht=>hp.subset (zz6.2 (.inl ht))⟩
def sj.mem{xs:List (Ε × List Tm)}{L:List Tm}(h:sj xs L){t:Tm}(ht:t∈L):∃hs:md t.id 16<xs.length,t∈xs[md t.id 16].2:=by
 have:=h.perm.symm.subset ht;obtain⟨x,hx,U4⟩:=List.mem_flatMap.1 this;obtain⟨s,hs,rfl⟩:=xxa.1 hx;have e:=h.at_ s hs t U4;subst e;exact⟨hs,U4⟩
def sj.del{xs:List (Ε × List Tm)}{L:List Tm}(h:sj xs L){id:Int}{i:Nat}(hs:md id 16<xs.length)(hi:i<(xs[md id 16].2).length)(he:(xs[md id 16].2)[i].id=id)(v:Ε):
  sj (xs.set (md id 16) (v,(xs[md id 16].2).eraseIdx i)) (re L id):=by
 obtain⟨hn,rK⟩:=h.sub _ hs;have e:=erase_filter _ i id hn ⟨hi,he⟩;refine⟨by simpa using h.len,λs lQ t ht=>?_,?_,czo h.nodup id⟩
 ·rw[xxr]at ht
  split at ht
  ·rename_i es;subst es;exact h.at_ _ hs t (vvl ht)
  exact h.at_ s (by simpa using lQ) t ht
 obtain⟨R,h1,h2⟩:=Fe (·.2) xs (md id 16) hs (v,(xs[md id 16].2).eraseIdx i);refine h2.trans ?_;simp only;rw[<- e];have h3:=czq (h1.symm.trans h.perm) id;unfold re at h3 ⊢;rw[yyx]at h3
 have hR:R.filter (λt=>decide (t.id≠id))=R:=by
  rw[yy4];intro t ht;have xP:=((h1.symm.trans h.perm).map (·.id)).nodup_iff.2 h.nodup;rw[zzt,ttf]at xP
  have:=xP.2.2 id (zzx.2 ⟨_,zzh hi,he⟩) t.id (zzx.2 ⟨t,ht,rfl⟩);simpa using λe=>this e.symm
 rw[hR]at h3
 exact h3
def sj.gone{xs:List (Ε × List Tm)}{L:List Tm}(h:sj xs L){id:Int}(hs:md id 16<xs.length)(hn:∀t∈xs[md id 16].2,t.id≠id):∀t∈L,t.id≠id:=λt ht e=>by
 obtain⟨_,hm⟩:=h.mem ht;subst e;exact hn t hm rfl
def bRz{l:List Tm}{id:Int}{i:Nat}(h:l.findIdx? (λt=>decide (t.id=id))=some i):∃hi:i<l.length,l[i].id=id:=by
 obtain⟨hi,h1,_⟩:=yyn.1 h;exact⟨hi,by simpa using h1⟩
def bR0{l:List Tm}{id:Int}(h:l.findIdx? (λt=>decide (t.id=id))=none):∀t∈l,t.id≠id:=λt ht=>by
 have:=xxu.1 h t ht;simpa using this
set_option maxRecDepth 100000
open Go.RowKit
abbrev mF(p:Ε × List Tm):zC:=bF p.1 353 2 p.2.length (p.2.map gr).flatten
def jS(xs:List (Ε × List Tm))(now:Int):Ξ:=xs.map (·.1)++[Γ now]
abbrev Cp(wp:Nat)(xs:List (Ε × List Tm))(now:Int):Β:=[.pt wp (jS xs now) 171,.ob (zh mF xs)]
def gQ(wp:Nat)(L:List Tm)(now:Int):zC:=jT λxs:List (Ε × List Tm)=>zH (sj xs L) (Cp wp xs now)
def gQ.iff{W w:Ζ}{wp:Nat}{L:List Tm}{now:Int}{l:Β}:SL W (.ob (gQ wp L now)::l) w↔∃xs,sj xs L/\SL W (.pt wp (jS xs now) 171::.ob (zh mF xs)::l) w:=by
 unfold gQ Cp;simp only[SL.ex,SL.fact,zzv,zzq]
def Ls{xs:List (Ε × List Tm)}{now:Int}{s o:Nat}{p:Ε × List Tm}(h:xs[s]?=some p)(ho:o=s):(jS xs now)[o]?=some p.1:=by
 subst ho;have hl:=(zzf.1 h).1;unfold jS;rw[zzm (by simpa using hl),ww5,h];rfl
def Ej{xs:List (Ε × List Tm)}{now:Int}(h:xs.length=16):(jS xs now)[0+16]?=some (Γ now):=by
 unfold jS;rw[yyb (by simp[h])];simp[h]
def cUu{xs:List (Ε × List Tm)}{now:Int}{s o:Nat}(hs:s<xs.length)(ho:o=s)(v:Ε)(l:List Tm):(jS xs now).set o v=jS (xs.set s (v,l)) now:=by
 subst ho;unfold jS;rw[ww1 _ _ (by simpa using hs),vvr]
def cUv{xs:List (Ε × List Tm)}{now n2:Int}(h:xs.length=16):(jS xs now).set (0+16) (Γ n2)=jS xs n2:=by
 unfold jS;rw[vvy _ _ (by simp[h])];simp[h]
def YL(x:Int):SP 91 [Γ x] [] (cE (Γ (sq x)) []):=by
 refine Enzz λW F w hS=>?_;apply cUf;delta ai;refine Gp ?_;(exact cF hS)
def Yt(v:Int):SP 301 [Γ v] [] (cE (Γ (md v 16:Int)) []):=by
 refine Enzz λW F w hS=>?_;apply cQf;have hv:0<=IntKind.u64.wrap v:=by rw[vva];omega
 refine zW ?_;refine Zt (by omega) ?_;have e:(IntKind.u64.wrap v).tmod 16=(md v 16:Int):=by
  rw[xx2 hv];unfold md;have:=vvh (IntKind.u64.wrap v) (show (16:Int)≠0 by omega);omega
 rw[e];have:=ix v 16 (by decide);refine yA (by omega) ?_;(exact cF hS)
def cB4(x:Int):SP 36 [Γ x] [] (λv post=>∃wp:Nat,v= Δ wp/\post=[.ob (gQ wp [] (sq x))]):=by
 refine Enzz λW F w hS=>?_;apply cRl;delta ai bR;refine Cg (YL x) λw hS=>?_;refine⟨_,rfl,zE hS ?_⟩;clear hS;intro wp w hS;have hS:SL W (.pt wp (jS (List.replicate 16 (.slice none 0 0,[])) (sq x)) 171::F) w:=hS;refine⟨_,⟨wp,rfl,rfl⟩,?_⟩;refine gQ.iff.2 ⟨List.replicate 16 (.slice none 0 0,[]),⟨by simp,λs h t ht=>(by rw[List.getElem_replicate]at ht;cases ht),by simp[List.replicate],by simp⟩,?_⟩;have hn:∀k,SL W (.ob (zh mF (List.replicate k (.slice none 0 0,[])))::.pt wp (jS (List.replicate 16 (.slice none 0 0,[])) (sq x)) 171::F) w:=by
  intro k;induction k with
  | zero=>exact zh.nil hS
  | succ k ih=>
   refine zh.iff.2 ?_;have:=zh.iff.1 ih;exact bF.nil this
 exact (hn 16).perm (.swap _ _ _)
def zY(wp:Nat)(L:List Tm)(now:Int):SP 59 [Δ wp] [.ob (gQ wp L now)] (cE (Γ now) [.ob (gQ wp L now)]):=by
 refine Enzz λW F w hS=>?_;apply cTi;delta bW;obtain⟨xs,hx,hS⟩:=gQ.iff.1 hS;refine Gp ?_;refine zT hS Xh (Ej hx.len) ?_;exact⟨_,⟨rfl,rfl⟩,gQ.iff.2 ⟨xs,hx,hS⟩⟩
def qS(b:Nat)(id:Int)(t:Tm):SP 351 ([agg (gr t)]++(#[Δ b]:Array Ε).toList) [.pt b [Γ id] 3] (cE (.bool (decide (t.id=id))) [.pt b [Γ id] 3]):=by
 refine Enzz λW F w hS=>?_;apply cRg;delta a_;refine⟨_,rfl,zE hS ?_⟩;clear hS;intro b2 w hS;refine Gp ?_;exact cF hS
def Ql(wp:Nat)(xs:List (Ε × List Tm))(now id:Int)(p:Ε × List Tm)(hp:xs[md id 16]?=some p)(xq:xs.length=16)(hn:p.2.length<=1000000):
  SP 300 [Δ wp,Γ id] (Cp wp xs now) (cE (Γ (lz (p.2.findIdx? λt=>decide (t.id=id)))) (Cp wp xs now)):=by
 refine Enzz λW F w hS=>?_;apply cQe;delta b_;refine⟨rfl,zE hS ?_⟩;clear hS;intro b w hS;refine Gn λw hS=>?_;refine Cg (Yt id) λw hS=>?_;have hm:=ix id 16 (by decide);refine yB hm ?_;refine zT hS Xh (Ls hp (by omega)) ?_;have hS:=zh.take (SL.cD hS (t:=.ob (zh mF xs)::.pt b [Γ id] 3::.pt wp (jS xs now) 171::F) Xi) hp;have hC:=JY (t:=353) tm rfl (λv0 v1 w R h=>cRf v0 v1 w R h) (λt=>qS b id t) p.1 p.2 (by omega);simp only[zzv,zzq]at hC;refine Cc (hC) ?_;clear hS;rintro v post ⟨rfl,rfl⟩ w hS;try simp only[app]at hS
 have hS:=zh.put (y:=p) (SL.cD hS (t:=.ob (mF p)::.ob (zh mF (xs.eraseIdx (md id 16)))::.pt wp (jS xs now) 171::F) Xi) (by omega);have e:xs.set (md id 16) p=xs:=by
  obtain⟨h1,h2⟩:=zzf.1 hp;rw[<- h2];simp
 rw[e]at hS
 (exact cF hS)
def bFu(wp:Nat)(L:List Tm)(now id:Int)(hn:L.length<=1000000):SP 240 [Δ wp,Γ id] [.ob (gQ wp L now)]
  (cE (.bool (decide (∃t∈L,t.id=id))) [.ob (gQ wp (re L id) now)]):=by
 refine Enzz λW F w hS=>?_;apply cOz;delta aI b_ cz ai;obtain⟨xs,hx,hS⟩:=gQ.iff.1 hS;have hm:=ix id 16 (by decide);have hs:md id 16<xs.length:=by rw[hx.len];exact hm
 have hp:xs[md id 16]?=some xs[md id 16]:=by simp[hs]
 obtain⟨hnd,rK⟩:=hx.sub _ hs;have eg:(xs[md id 16].2).length<=1000000:=by
  obtain⟨R,h1,_⟩:=Fe (·.2) xs _ hs xs[md id 16];have:=(h1.symm.trans hx.perm).length_eq;rw[zza]at this;omega
 have hxd:=λi (hi:i<(xs[md id 16].2).length) he v=>hx.del hs (i:=i) hi he v;have cnu:=hx.gone hs;generalize xs[md id 16]=p at *
 refine Cc (Ql wp xs now id p hp hx.len eg) ?_;clear hS;rintro v post ⟨rfl,rfl⟩ w hS;try simp only[app]at hS
 cases hf:p.2.findIdx? (λt=>decide (t.id=id)) with
 | none=>
  have fC:=cnu (bR0 hf);simp only[lz];refine Gp ?_;refine Υ ?_;have e:decide (∃t∈L,t.id=id)=false:=by
   rw[xxc];rintro ⟨t,ht,he⟩;exact fC t ht he
  rw[e,czp fC];exact⟨_,⟨rfl,rfl⟩,gQ.iff.2 ⟨xs,hx,aR hS⟩⟩
 | some i=>
  obtain⟨hi,he⟩:=bRz hf;simp only[lz];refine Gp ?_;refine Χ ?_;refine Cg (Yt id) λw hS=>?_;refine yB hm ?_;refine zT hS Xh (Ls hp (by omega)) ?_;refine Gp ?_;have hS:=zh.take (SL.cD hS (t:=.ob (zh mF xs)::.pt wp (jS xs now) 171::F) Xi) hp;refine Cc (Im (sz:=2) (gn:=16) (z:=[Γ 0,Γ 0]) (zv:=.agg #[Γ 0,Γ 0]) (λv0 v1 v2 w R h=>cQg v0 v1 v2 w R h) underlying168 (λw=>by kernel_rfl) rfl rfl (by simp[Value.oneCell']) p.1 p.2.length i (p.2.map gr).flatten hi (sW CN _) (by omega) (by omega)) ?_;clear hS;rintro v post rfl w hS;try simp only[app]at hS
  refine yB hm ?_;have o1:v.oneCell'=true:=bF.one hS;refine Zu hS Xu (Ls hp (by omega)) o1 ?_;clear hS;intro w hS;have ef:List.take (i*2) (p.2.map gr).flatten++List.drop ((i+1)*2) (p.2.map gr).flatten=((p.2.eraseIdx i).map gr).flatten:=by
   rw[uz tm,vE tm,List.eraseIdx_eq_take_drop_succ];simp
  have el:p.2.length-1=(p.2.eraseIdx i).length:=by rw[uuv,zzd hi]
  rw[ef,el,cUu hs (by omega) v (p.2.eraseIdx i)]at hS
  have hS:=zh.put (y:=(v,p.2.eraseIdx i)) (SL.cD hS (t:=.ob (mF (v,p.2.eraseIdx i))::.ob (zh mF (xs.eraseIdx (md id 16)))::.pt wp (jS (xs.set (md id 16) (v,p.2.eraseIdx i)) now) 171::F) Xi) hs;have e:decide (∃t∈L,t.id=id)=true:=by
   rw[uug];exact⟨_,rK _ (zzh hi),he⟩
  rw[e];exact⟨_,⟨rfl,rfl⟩,gQ.iff.2 ⟨_,hxd i hi he v,aR hS⟩⟩
def aWk{K:Ε->Prop}{w:Ζ}{xs:List (Ε × List Tm)}{k:Nat}{p:Ε × List Tm}(hp:xs[k]?=some p)(xq:k<16)(h:K p.1):eS prog (Instr.index 169 (.agg (xs.map (·.1)).toArray) (Γ (k:Int))) w K:=
 Xt underlying169 (λw=>by kernel_rfl) (λw=>by kernel_rfl) xq (by rw[ww5,hp];rfl) h
def cUt{xs:List (Ε × List Tm)}{now:Int}(h:xs.length=16):∀j v,(xs.map (·.1))[j]?=some v->(jS xs now)[0+0+j]?=some v:=λj v e=>by
 unfold jS;rw[zzm (by have:=(zzf.1 e).1;omega),show 0+0+j=j by omega];exact e
def kD(now:Int)(L:List Tm):List Tm:=L.filter λt=>decide (t.when<=now)
def bIb(wp:Nat)(xs:List (Ε × List Tm))(now:Int)(xq:xs.length=16)(hn:(xs.flatMap (·.2)).length<=1000000):SP 234 [Δ wp] (Cp wp xs now)
  (λv post=>post=[.pt wp (jS xs now) 171,.ob (zh mF xs),.ob (bF v 353 2 (kD now (xs.flatMap (·.2))).length ((kD now (xs.flatMap (·.2))).map gr).flatten)]):=by
 refine Enzz λW F w hS=>?_;apply cOu;delta aI bW a_ b_ ai bR;refine Gp ?_;refine yC (vs:=xs.map (·.1)) hS Xh (by simp[xq]) (cUt xq) ?_;have hf:∀k (h:k<xs.length),(xs.take (k+1)).flatMap (·.2)=(xs.take k).flatMap (·.2)++xs[k].2:=λk h=>by
  rw[zze h,vv9];simp
 have eK:∀k,((xs.take k).flatMap (·.2)).length<=1000000:=λk=>by
  have:xs=xs.take k++xs.drop k:=by simp
  rw[this,vv9,zza]at hn;omega
 refine⟨λus w=>∃(k:Nat) (v:Ε),us=[v,Γ k]/\k<=16/\SL W (.ob (bF v 353 2 (kD now ((xs.take k).flatMap (·.2))).length ((kD now ((xs.take k).flatMap (·.2))).map gr).flatten)::.pt wp (jS xs now) 171::.ob (zh mF xs)::F) w,
  λus _=>match us with|[_,.int _ k]=>(16-k).toNat|_=>0,⟨0,_,rfl,by omega,bF.nil hS⟩,?_⟩
 clear hS;rintro v3 v10 w ⟨k,v,hv,hk,hS⟩;cases hv;refine cA (λh=>?_) (λh=>?_)
 ·have FR:k<xs.length:=by omega
  have hp:xs[k]?=some xs[k]:=by simp[FR]
  have h1:=hf k FR;have h2:=eK (k+1);refine aWk hp (by omega) ?_;rw[h1,zza]at h2
  have jY:∀(v:Ε) (w:Ζ),SL W (.ob (bF v 353 2 (kD now ((xs.take (k+1)).flatMap (·.2))).length ((kD now ((xs.take (k+1)).flatMap (·.2))).map gr).flatten)::.pt wp (jS xs now) 171::.ob (zh mF xs)::F) w ->
    (∃(k':Nat) (v':Ε),([v,Γ (k+1:Nat)]:Ξ)=[v',Γ k']/\k'<=16/\SL W (.ob (bF v' 353 2 (kD now ((xs.take k').flatMap (·.2))).length ((kD now ((xs.take k').flatMap (·.2))).map gr).flatten)::.pt wp (jS xs now) 171::.ob (zh mF xs)::F) w) /\
    ((16:Int)-((k+1:Nat):Int)).toNat<((16:Int)-(k:Int)).toNat:=λv w hS=>⟨⟨k+1,v,rfl,by omega,hS⟩,by omega⟩
  rw[h1]at jY
  have hT:=λ{A:Β} {w:Ζ} (hS:SL W (.ob (zh mF xs)::A) w)=>zh.take hS hp;generalize xs[k]=p at *
  generalize (xs.take k).flatMap (·.2)=A at *
  have uG:=hT (SL.cD hS (t:=.ob (zh mF xs)::F) Xi);refine zz uG .hd ?_;clear uG;refine⟨λus w=>∃(j:Nat) (v:Ε),us=[v,Γ j]/\j<=p.2.length/\SL W (.ob (bF v 353 2 (kD now (A++p.2.take j)).length ((kD now (A++p.2.take j)).map gr).flatten)::.pt wp (jS xs now) 171::.ob (zh mF xs)::F) w,
   λus _=>match us with|[_,.int _ j]=>(p.2.length-j).toNat|_=>0,⟨0,_,rfl,by omega,by simpa using hS⟩,?_⟩
  clear hS;rintro v4 v17 w ⟨j,v,hv,hj,hS⟩;cases hv;refine cA (λh=>?_) (λh=>?_)
  ·have gW:j<p.2.length:=by omega
   have uG:=hT (SL.cD hS (t:=.ob (zh mF xs)::F) Xi);refine zU uG .hd tm (x:=p.2[j]) (by simp[gW]) gW ?_;clear uG;have lx:kD now (A++p.2.take (j+1))=if p.2[j].when<=now then kD now (A++p.2.take j)++[p.2[j]] else kD now (A++p.2.take j):=by
    unfold kD;rw[zze gW,<- zzk,yyx (l₁:=A++p.2.take j)];by_cases hw:p.2[j].when<=now<;>simp[hw]
   have po:(kD now (A++p.2.take j)).length<=1000000:=by
    refine yyw (yyp _ _) ?_;rw[zza,zzg];omega
   generalize p.2[j]=t at lx;refine zE hS ?_;clear hS;intro b w hS;refine zt (vs:=gr t) hS .hd rfl rfl (CN _) ?_;clear hS;intro w hS;refine Gn λw hS=>?_;refine zT hS Xh (Ej xq) ?_;refine cA (λhw=>?_) (λhw=>?_)
   ·refine zr hS .hd rfl ?_;refine zM (cells:=gr t) hS (by simp[ib,cQ,Value.cells,gr]) ?_;clear hS;intro b2 w hS;rw[zzd hw]at lx
    refine zJ (m:=1) hS Xr (jR (cs:=gr t) hS .hd rfl) rfl rfl (CN _) (by omega) (by omega) ?_;clear hS;intro v' w hS;refine Gp ?_;refine⟨⟨j+1,v',by simp,by omega,?_⟩,by dsimp only;omega⟩;rw[lx,vF,zza,yyc];exact aR hS
   rw[zzb hw]at lx
   refine Gp ?_;refine⟨⟨j+1,v4,by simp,by omega,?_⟩,by dsimp only;omega⟩;rw[lx];exact aR hS
  have hjj:j=p.2.length:=by omega
  subst hjj;rw[zz0]at hS
  refine Gp ?_;exact jY v4 w hS
 have FR:k=16:=by omega
 subst FR;have e:xs.take 16=xs:=by rw[<- xq,zz0]
 rw[e]at hS
 exact⟨_,rfl,aR hS⟩
