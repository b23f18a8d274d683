/- Part. -/
import Derived.Test.YthohmpdacdmclaaGreatDoorJ12
import Derived.Lib.ConvBytes
namespace Go.Proofs.YthohmpdacdmclaaGreatDoor
set_option linter.all false
open Go.RowKit Go.Proofs.Tryz
section
variable {W w:Ζ} {l:Β} {P:Program}
def Ye{src dst e:Ι}{u:TypeDesc}{bs:Φ}{K:Ε->Ζ->Prop}(hS:SL W l w)(h1:P.underlying src=some u)(h2:P.underlying dst=some (.slice e))(h3:P.underlying e=some (.int .u8))
  (h:∀v w',SL W (.ob (bd v e 1 bs.length (bs.map bU))::l) w'->K v w'):zQ P (convert src dst (.string (cU bs))) w K:=by
 refine⟨_,_,Lib.run_convert_string_bytes w src dst e (cU bs) h1 h2 h3,h _ _ ?_⟩;have hg:(cU bs).size<=grownCap w (cU bs).size 0 e:=grownCap_ge _ _ _ _;have e1:(Lib.bytesCells w e (cU bs)).toList=bs.map bU++List.replicate (grownCap w bs.length 0 e-bs.length) (.int .u8 0):=by
  unfold Lib.bytesCells;rw[ma];simp[cU,bU]
 have hn:SL W (.pt w.heap.size (Lib.bytesCells w e (cU bs)).toList e::l) (w.drew.alloc (.cells (Lib.bytesCells w e (cU bs)) e)):=by
  have:=(hS.drew).new (cs:=(Lib.bytesCells w e (cU bs)).toList) (t:=e);simpa using this
 have hm:=hn.mark (n:=(Lib.bytesCells w e (cU bs)).size) .hd (by simp);rw[e1]at hm
 rw[ma]at hg ⊢
 exact bd.mk hg (by simp) (by simp) hm
end
structure rm(H:a_)(vs:List gO)(zs:List bB):Prop where
 len:vs.length=zs.length
 at_:∀j (h:j<vs.length) (h':j<zs.length),gn H vs[j] zs[j]
def rm.mono{H H':a_}(hh:H.le H'){vs:List gO}{zs:List bB}(h:rm H vs zs):rm H' vs zs:=⟨h.len,λj a b=>(h.at_ j a b).mono hh⟩
def rm.snoc{H:a_}{vs:List gO}{zs:List bB}(h:rm H vs zs){x:gO}{z:bB}(hx:gn H x z):rm H (vs++[x]) (zs++[z]):=by
 have hl:=h.len;refine⟨by simp[hl],λj a b=>?_⟩;by_cases hj:j<vs.length
 ·rw[yy2 hj,yy2 (by omega)];exact h.at_ j hj (by omega)
 have e:j=vs.length:=by rw[zza,yyb]at a;omega
 subst e;rw[xxw (zzj _),xxw (by omega)];simpa [hl] using hx
set_option maxRecDepth 100000
def hU(x:bB):Η:=cU (fr x)
def WD:∀{l:List bB} {b:Int} {i:Nat} (h:eV b l) (hi:i<l.length),ir b (l.take i)<l[i].aw
 | [],_,_,_,hi=>absurd hi (by simp)
 | x::l,b,0,h,_=>h.1
 | x::l,b,i+1,h,hi=>WD (l:=l) (b:=x.aw) h.2 (by simpa using hi)
structure Bv(bL:Nat)(zs:List bB):Prop where
 it:∀x∈zs,uM bL x
 jf:eV 0 zs
 le:zs.length<=64
def Bv.at{bL:Nat}{zs:List bB}(h:Bv bL zs)(i:Nat)(hi:i<=zs.length):mF bL (ju (zs.take i)) i:=by
 have:=C7 (n:=bL) (l:=zs.take i) (λx hx=>h.it x (yyg hx)) (h.jf.take i);rw[zzf,xxd hi]at this
 exact this
def Bv.lt{bL:Nat}{zs:List bB}(h:Bv bL zs){i:Nat}(hi:i<zs.length):(ju (zs.take i)).aw<zs[i].aw:=by
 rw[U6];exact WD h.jf hi
def mH.add{W w:Ζ}{l:Β}{v:Ε}{A B:List fB}(h:SL W (.ob (bd v 354 5 (A.length+B.length) ((A.map iR).flatten++(B.map iR).flatten))::l) w):SL W (mH v (A++B)::l) w:=by
 rw[show mH v (A++B)= .ob (bd v 354 5 (A.length+B.length) ((A.map iR).flatten++(B.map iR).flatten)) by simp[mH]];exact h
def mG.add{W w:Ζ}{l:Β}{v:Ε}{A B:List gF}(h:SL W (.ob (bd v 357 7 (A.length+B.length) ((A.map jP).flatten++(B.map jP).flatten))::l) w):SL W (mG v (A++B)::l) w:=by
 rw[show mG v (A++B)= .ob (bd v 357 7 (A.length+B.length) ((A.map jP).flatten++(B.map jP).flatten)) by simp[mG]];exact h
def bru(A:List fB):∀v∈(A.map iR).flatten,v.oneCell'=true:=λv hv=>by
 obtain⟨l,hl,h⟩:=wwi.1 hv;obtain⟨o,_,rfl⟩:=zz5.1 hl;exact B4 o v h
def bqz(A:List gF):∀v∈(A.map jP).flatten,v.oneCell'=true:=λv hv=>by
 obtain⟨l,hl,h⟩:=wwi.1 hv;obtain⟨o,_,rfl⟩:=zz5.1 hl;exact HG o v h
def QL(H:a_)(v:Ε)(vs:List gO)(zs:List bB)(hv:cn H 3 v vs.length (vs.map dD).flatten)(hi:rm H vs zs){bL:Nat}(hj:Bv bL zs)(cY:zs≠[]):
  SP 253 [v] [.mem H] (λu post=>∃xv H',H.le H'/\u= .tuple #[agg (dD xv),Γ 0]/\gn H' xv (ju zs)/\post=[.mem H']):=by
 refine Enzz λW F w hS=>?_;apply bGe;delta aI aW bJ BK ai bK bc;have hlen:=hi.len;have H9:=hj.le;refine Gb λrb w hS=>?_;refine Gb λob w hS=>?_;refine zn hv ?_;have hS:=bd.nil (t:=354) (sz:=5) hS;have hS:=bd.nil (t:=357) (sz:=7) hS;have hS:SL W (mG Θ (ju (zs.take 0)).notes::mH Θ (ju (zs.take 0)).ops::.pt ob [Γ (ju (zs.take 0)).aw,Θ,Θ] 236::_) _:=hS;refine⟨λus w=>∃(i:Nat) (ov nv:Ε),us=[.bool true,Γ i]/\i<=zs.length/\SL W (mH ov (ju (zs.take i)).ops::mG nv (ju (zs.take i)).notes::.pt ob [Γ (ju (zs.take i)).aw,ov,nv] 236::.pt rb [Γ 0,Θ,Θ] 236::.mem H::F) w,
  λus _=>match us with|[_,.int _ i]=>(zs.length-i).toNat|_=>0,⟨0,Θ,Θ,rfl,zz6 _,aR hS⟩,?_⟩
 clear hS;rintro v5 v10 w ⟨i,ov,nv,bM,bn,hS⟩;cases bM;refine Gp ?_;have gZ:=hj.at i bn;refine za (λh=>?_) (λh=>?_)
 ·have sX:i<vs.length:=by omega
  have jc:i<zs.length:=by omega
  have hx:=hi.at_ i sX jc;have hw:=hj.it _ (zzk jc);have b9:=hj.lt jc;refine zB hS Xh bde hv (zzd sX) sX ?_;have ht:=bmx jc;generalize zs[i]=z at *
  generalize vs[i]=x at *
  have hex:dD x=[Γ z.aw,x.ov,x.nv]:=by unfold dD;rw[hx.aw]
  refine Gb λxb w hS=>?_;refine zr hS Xu rfl rfl (lK hx) λw hS=>?_;refine zz hS Xh rfl ?_;refine Cc (zW H x z hx) ?_;clear hS;rintro _ post ⟨rfl,rfl⟩ w hS;try simp only[app]at hS
  rw[hw.may];refine Gp ?_;refine zq ?_;rw[hex]at hS
  have hz5:=hw.ops;have UD:=hw.g_;have fY:=gZ.len;have IB:=gZ.g_;generalize hP:ju (zs.take i)=P at *
  refine⟨λus w=>us=[.bool true]/\SL W (.pt xb [Γ z.aw,x.ov,x.nv] 236::mH ov P.ops::mG nv P.notes::.pt ob [Γ P.aw,ov,nv] 236::.pt rb [Γ 0,Θ,Θ] 236::.mem H::F) w,?_,?_⟩
  ·refine Gp ?_;rw[zzm b9];exact⟨rfl,aR hS⟩
  clear hS;rintro _ w ⟨bM,hS⟩;cases bM;refine Gn λw hS=>?_;refine zL (n:=P.ops.length) (m:=z.ops.length) hS Xr (Kl hS Xh hx.ops) (by rw[Ag wx]) rfl (bru _) (by omega) (by omega) λJZ w hS=>?_;have hS:=mH.add hS;have o1:=bd.one hS;refine Gn λw hS=>?_;refine zL (n:=P.notes.length) (m:=z.notes.length) hS Xr (Kl hS Xh hx.g_) (by rw[Ag wu]) rfl (bqz _) (by omega) (by omega) λJQ w hS=>?_;have hS:=mG.add hS;have o2:=bd.one hS;refine Gn λw hS=>?_;refine⟨⟨i+1,JZ,JQ,rfl,by omega,?_⟩,by dsimp only;omega⟩;rw[ht];show SL W (mH JZ (P.ops++z.ops)::mG JQ (P.notes++z.notes)::.pt ob [Γ z.aw,JZ,JQ] 236::_) w;exact aR hS
 have gh:i=zs.length:=by omega
 subst gh;have vt:0<zs.length:=wwz.2 cY;rw[zz0]at hS gZ
 have fY:=gZ.len;have IB:=gZ.g_;generalize ju zs=P at *
 refine zn hv ?_;refine Gp ?_;refine za (λh0=>by omega) (λh0=>?_);refine Gp ?_;refine zy hS (v:=ov) (t:=354) (sz:=5) (n:=P.ops.length) (cells:=(P.ops.map iR).flatten) Xh ?_;refine Gp ?_;refine za (λh0=>by omega) (λh0=>?_);refine Gp ?_;refine zy hS (v:=nv) (t:=357) (sz:=7) (n:=P.notes.length) (cells:=(P.notes.map jP).flatten) Xh ?_;refine Gp ?_;refine za (λh1=>by omega) (λh1=>?_);refine Gp ?_;refine zq ?_;have o1:=bd.one (Has.front (c:=mH ov P.ops) hS Xr);have o2:=bd.one (Has.front (c:=mG nv P.notes) hS Xr);obtain⟨H1,bX,jt,hS⟩:=zA (H:=H) (v:=ov) hS Xp;obtain⟨H2,cF,nF,hS⟩:=zA (H:=H1) (v:=nv) hS Xp;refine zz hS Xh rfl ?_;refine zr (vs:=[Γ P.aw,ov,nv]) hS Xu rfl rfl (lK (x:=⟨P.aw,ov,nv⟩) (t:=P) ⟨rfl,jt.mono cF,nF⟩) λw hS=>?_;refine zz hS Xh rfl ?_;exact⟨_,⟨⟨P.aw,ov,nv⟩,H2,a_.le_trans bX cF,rfl,⟨rfl,jt.mono cF,nF⟩,rfl⟩,aR hS⟩
structure sE where
 wp:Nat
 kp:Nat
 gp:Nat
 dp:Nat
 lp:Nat
 pp:Nat
 qp:Nat
 qb:Nat
 rp:Nat
abbrev oI(kp qp rp bI:Nat)(l:Int)(ov nv:Ε)(n:Nat):Ξ:=[gW kp,gW qp,gW rp,Γ bI,Γ l,ov,nv,Γ n]
def cD(p:sE)(c:cT)(H:a_)(s:ed):zC:=iX λh:Ε × Ε=>zF (gn H ⟨s.held.aw,h.1,h.2⟩ s.held)
 [.pt p.wp (oI p.kp p.qp p.rp c.bI s.held.aw h.1 h.2 s.n) 299,.ob (b5 p.kp p.gp p.dp p.lp p.pp H s.k),.ob (Gate p.qp p.qb c.cap s.out (s.L.map hU)),jK p.rp c.b c.m c.j s.fh s.eG]
section
variable {W w:Ζ} {l F:Β} {p:sE} {c:cT} {H:a_} {s:ed}
def cD.iff:SL W (.ob (cD p c H s)::l) w↔∃ov nv,gn H ⟨s.held.aw,ov,nv⟩ s.held/\SL W (.pt p.wp (oI p.kp p.qp p.rp c.bI s.held.aw ov nv s.n) 299::.ob (b5 p.kp p.gp p.dp p.lp p.pp H s.k)::.ob (Gate p.qp p.qb c.cap s.out (s.L.map hU))::jK p.rp c.b c.m c.j s.fh s.eG::l) w:=by
 unfold cD;simp only[SL.ex,SL.fact,zzn,zzo];exact⟨λ⟨x,h⟩=>⟨x.1,x.2,h⟩,λ⟨a,b,h⟩=>⟨(a,b),h⟩⟩
def cD.open(hS:SL W l w)(r:eW (.ob (cD p c H s)) l F):∃ov nv,gn H ⟨s.held.aw,ov,nv⟩ s.held/\SL W (.pt p.wp (oI p.kp p.qp p.rp c.bI s.held.aw ov nv s.n) 299::.ob (b5 p.kp p.gp p.dp p.lp p.pp H s.k)::.ob (Gate p.qp p.qb c.cap s.out (s.L.map hU))::jK p.rp c.b c.m c.j s.fh s.eG::F) w:=cD.iff.1 (hS.perm r.perm)
def cD.put(s:ed){ov nv:Ε}(hS:SL W l w)(hi:gn H ⟨s.held.aw,ov,nv⟩ s.held)(k:fK [.pt p.wp (oI p.kp p.qp p.rp c.bI s.held.aw ov nv s.n) 299,.ob (b5 p.kp p.gp p.dp p.lp p.pp H s.k),.ob (Gate p.qp p.qb c.cap s.out (s.L.map hU)),jK p.rp c.b c.m c.j s.fh s.eG] l F):SL W (.ob (cD p c H s)::F) w:=cD.iff.2 ⟨ov,nv,hi,hS.pick k⟩
def cD.dI{k:bO}{L:List bB}{out n:Nat}{fh eG:Int}{held:bB}{ov nv:Ε}(hS:SL W l w)(hi:gn H ⟨held.aw,ov,nv⟩ held)(q:fK [.pt p.wp (oI p.kp p.qp p.rp c.bI held.aw ov nv n) 299,.ob (b5 p.kp p.gp p.dp p.lp p.pp H k),.ob (Gate p.qp p.qb c.cap out (L.map hU)),jK p.rp c.b c.m c.j fh eG] l F):SL W (.ob (cD p c H ⟨k,L,out,fh,eG,held,n⟩)::F) w:=cD.iff.2 ⟨ov,nv,hi,hS.pick q⟩
def cD.mono{H':a_}(hh:H.le H')(h:SL W (.ob (cD p c H s)::l) w):SL W (.ob (cD p c H' s)::l) w:=by
 obtain⟨ov,nv,hi,hS⟩:=cD.iff.1 h;have hS:=b5.jU hh hS Xr;exact cD.put s hS (hi.mono hh) Xp
def cD.jU{H':a_}(hh:H.le H')(hS:SL W l w)(r:eW (.ob (cD p c H s)) l F):SL W (.ob (cD p c H' s)::F) w:=cD.mono hh (hS.perm r.perm)
def Gate.btt{g b cap out:Nat}{L:Ψ}(hS:SL W l w)(hA:L.length+out<=cap/\cap<=64)(k:fK [.pt g [Δ b,Γ out] 114,.ob (Ring b cap L)] l F):SL W (.ob (Gate g b cap out L)::F) w:=Gate.close hA (hS.pick k)
def bf6{g b cap out:Nat}{L:Ψ}(hS:SL W l w)(r:eW (.ob (Gate g b cap out L)) l F):(L.length+out<=cap/\cap<=64)/\SL W (.pt g [Δ b,Γ out] 114::.ob (Ring b cap L)::F) w:=Gate.open (hS.perm r.perm)
end
def bKk(kp qp rp n:Nat)(h1:1<=n)(h2:n<=64):SP 116 [gW kp,gW qp,gW rp,Γ n] [] (λv post=>∃p:Nat,v= .tuple #[gW p,Γ 0]/\post=[.pt p (oI kp qp rp n 0 Θ Θ 0) 299]):=by
 refine Enzz λW F w hS=>?_;apply bCp;delta aI ai bT bc;refine Gp ?_;refine Χ ?_;refine Gp ?_;refine Χ ?_;refine Gp ?_;refine⟨_,rfl,zD hS λp w hS=>?_⟩;exact⟨_,⟨p,rfl,rfl⟩,hS⟩
def ZQ(p:sE)(c:cT)(H:a_)(s:ed)(now:Int):SP 126 [gW p.wp,Γ now] [.ob (cD p c H s)] (bA (.bool (s.ready now)) [.ob (cD p c H s)]):=by
 refine Enzz λW F w hS=>?_;apply bCz;delta aI bh ai;obtain⟨ov,nv,hi,hS⟩:=cD.iff.1 hS;refine Gp ?_;unfold ed.ready;refine za (λh=>?_) (λh=>?_)
 ·rw[zzc (by omega)];refine Gp ?_;refine Cg (qZ p.rp c.b c.m c.j s.fh s.eG now) λw hS=>?_;have hS:=cD.put s hS hi Xp;(exact bw hS)
 rw[zzb (by omega)];refine Gp ?_;obtain⟨hg,hS⟩:=bf6 hS Xr;refine Gp ?_;refine Cg (yT p.qb c.cap (s.L.map hU)) λw hS=>?_;rw[zzv];have hS:=Gate.btt hS hg Xp;have hS:=cD.put s hS hi Xp;have e:decide ((0:Int)<(s.L.length:Int))=decide (0<s.L.length):=by rw[yye];omega
 rw[e];(exact bw hS)
def bz9{x:bB}(h:du x=true):mO (fr x)= .ok x:=Ri h
def bmt{H:a_}{vs:List gO}{L:List bB}{i:Nat}(h:rm H vs (L.take i))(hi:i<L.length){x:gO}(hx:gn H x L[i]):rm H (vs++[x]) (L.take (i+1)):=by
 rw[zze hi];exact h.snoc hx
def bKh(p:sE)(c:cT)(H:a_)(s:ed){bL f:Nat}(hI:oN c bL s f)(hn:s.n=0)(hL:0<s.L.length):
  SP 200 [gW p.wp] [.ob (cD p c H s),.mem H] (λv post=>v= Γ 0/\∃H',H.le H'/\post=[.ob (cD p c H' (s.hold c.bI)),.mem H']):=by
 refine Enzz λW F w hS=>?_;apply bE2;delta aI bh bS bk bJ ai bc;obtain⟨ov,nv,hi,hS⟩:=cD.iff.1 hS;have gf:=hI.vC;have ll:=hI.bI;have AF:=hI.room;have om:=hI.cap;obtain⟨F2,oh⟩:∃F2,F2=jK p.rp c.b c.m c.j s.fh s.eG::F:=⟨_,rfl⟩;have hS:=SL.bo hS (t:=.pt p.wp (oI p.kp p.qp p.rp c.bI s.held.aw ov nv s.n) 299::.ob (b5 p.kp p.gp p.dp p.lp p.pp H s.k)::.ob (Gate p.qp p.qb c.cap s.out (s.L.map hU))::.mem H::jK p.rp c.b c.m c.j s.fh s.eG::F) Xi;rw[<- oh]at hS
 have e_:s.hold c.bI=⟨s.k,s.L.drop (min c.bI s.L.length),s.out+min c.bI s.L.length,s.fh,s.eG,ju (s.L.take (min c.bI s.L.length)),min c.bI s.L.length⟩:=by
  unfold ed.hold;rw[zzc hn];rcases Nat.le_total c.bI s.L.length with h|h
  ·rw[xxd h]
  rw[Nat.min_eq_right h,xxb h,zzz h,xxb (zzj _),zzz (zzj _)]
 have hm:∃m,m=min c.bI s.L.length:=⟨_,rfl⟩;obtain⟨m,hm⟩:=hm;rw[<- hm]at e_
 refine⟨λus w=>∃(lv:Ε) (vs:List gO) (H2:a_),us=[lv]/\H.le H2/\rm H2 vs (s.L.take m)/\SL W (.ob (bd lv 236 3 vs.length (vs.map dD).flatten)::.pt p.wp (oI p.kp p.qp p.rp c.bI s.held.aw ov nv s.n) 299::.ob (b5 p.kp p.gp p.dp p.lp p.pp H2 s.k)::.ob (Gate p.qp p.qb c.cap (s.out+m) ((s.L.drop m).map hU))::.mem H2::F2) w,?_,?_⟩
 ·have hS:=bd.nil (t:=236) (sz:=3) hS;have hS:SL W (.ob (bd Θ 236 3 ([]:List gO).length (([]:List gO).map dD).flatten)::.pt p.wp (oI p.kp p.qp p.rp c.bI s.held.aw ov nv s.n) 299::.ob (b5 p.kp p.gp p.dp p.lp p.pp H s.k)::.ob (Gate p.qp p.qb c.cap (s.out+0) ((s.L.drop 0).map hU))::.mem H::F2) w:=hS;refine⟨λus w=>∃(i:Nat) (lv:Ε) (vs:List gO) (H2:a_),us=[lv]/\vs.length=i/\i<=c.bI/\i<=s.L.length/\H.le H2/\rm H2 vs (s.L.take i)/\SL W (.ob (bd lv 236 3 vs.length (vs.map dD).flatten)::.pt p.wp (oI p.kp p.qp p.rp c.bI s.held.aw ov nv s.n) 299::.ob (b5 p.kp p.gp p.dp p.lp p.pp H2 s.k)::.ob (Gate p.qp p.qb c.cap (s.out+i) ((s.L.drop i).map hU))::.mem H2::F2) w,
   λus _=>match us with|[.slice _ n _]=>c.bI-n|_=>0,⟨0,Θ,[],H,rfl,rfl,by omega,by omega,a_.le_refl H,⟨rfl,λj h=>by simp at h⟩,hS⟩,?_⟩
  clear hS;rintro lv w ⟨i,_,vs,H2,bM,Ja,lr,bn,dW,Al,hS⟩;cases bM;obtain⟨a,cp,rfl,_⟩:=bd.at hS .hd;subst Ja;refine bj (λh=>?_) (λh=>?_)
  ·refine Gp ?_;by_cases gh:vs.length=s.L.length
   ·have e0:s.L.drop vs.length=[]:=xxb (by omega);rw[e0,yy6]at hS
    refine Cg (bgg p.qp p.qb c.cap (s.out+vs.length)) λw hS=>?_;refine zu ?_;have mT:m=vs.length:=by omega
    subst mT;have e1:([]:Ψ)=(s.L.drop vs.length).map hU:=by rw[e0];rfl
    rw[e1]at hS
    exact⟨_,vs,H2,rfl,dW,Al,aR hS⟩
   have jc:vs.length<s.L.length:=by omega
   have hw:=hI.it _ (zzk jc);have bg5:=λ{H3:a_} (dG:H2.le H3) {x:gO} (hx:gn H3 x s.L[vs.length])=>bmt (Al.mono dG) jc hx;rw[yyn jc,zzp]at hS
   generalize s.L[vs.length]=z at *
   refine Cg (bgh p.qp p.qb c.cap (s.out+vs.length) (hU z) ((s.L.drop (vs.length+1)).map hU)) λw hS=>?_;refine zq ?_;refine Ye (bs:=fr z) hS yyz xxt wwk λbv w hS=>?_;refine Cc (YK (.ob (bd bv 5 1 (fr z).length ((fr z).map bU))) H2 bv (fr z) cK.own) ?_;clear hS;rintro r post hq w hS;unfold vS at hq;rw[bz9 hw.may]at hq
   obtain⟨x,H3,dG,rfl,hx,rfl⟩:=hq;try simp only[app]at hS
   have hS:=b5.jU dG hS Xr;refine Gm λb w hS=>?_;refine zr hS Xu rfl rfl (lK hx) λw hS=>?_;refine Gp ?_;refine Χ ?_;refine zz hS Xh rfl ?_;refine Gb λyb w hS=>?_;refine zL (n:=vs.length) (m:=1) hS Xr (jx (cs:=dD x) hS Xh rfl) rfl rfl (lK hx) (by omega) (by omega) λlv2 w hS=>?_;rw[<- u0]at hS
   rw[show s.out+vs.length+1=s.out+(vs.length+1) by omega]at hS
   have hS:=hS.nf (xs:=vs) (x:=x);obtain⟨a2,cp2,rfl,_⟩:=bd.at hS .hd;refine⟨⟨vs.length+1,_,vs++[x],H3,rfl,by simp,by omega,by omega,a_.le_trans dW dG,bg5 dG hx,aR hS⟩,?_⟩;simp only[zza,yyb];omega
  have mT:m=vs.length:=by omega
  subst mT;exact⟨_,vs,H2,rfl,dW,Al,aR hS⟩
 clear hS;rintro lv w ⟨_,vs,H2,bM,dW,Al,hS⟩;cases bM;obtain⟨H3,dG,hR,hS⟩:=zA (H:=H2) (v:=lv) hS Xp;have hS:=b5.jU dG hS Xr;have cY:s.L.take m≠[]:=λh=>by
  have:=yyp List.length h;rw[zzf,yyw]at this
  omega
 have Ja:vs.length=m:=by have:=Al.len;rw[zzf]at this;omega
 refine Cc (QL H3 lv vs (s.L.take m) hR (Al.mono dG) (bL:=bL) ⟨λx hx=>hI.it x (yyg hx),hI.jf.take _,by rw[zzf];omega⟩ cY) ?_;clear hS;rintro _ post ⟨xv,H4,lL,rfl,hx,rfl⟩ w hS;try simp only[app]at hS
 have hS:=b5.jU lL hS Xr;have iL:=hx.aw;obtain⟨xl,xo,xn⟩:=xv;simp only at iL;subst iL;refine Gm λb w hS=>?_;refine zr hS Xu rfl rfl (lK hx) λw hS=>?_;refine Gp ?_;refine Υ ?_;refine zz hS Xh rfl ?_;refine zn hR ?_;rw[Ja];refine Gp ?_;refine Zn (o:=4) (vs:=dD ⟨(ju (s.L.take m)).aw,xo,xn⟩) hS Xu rfl (by show 7<=8;decide) (lK hx) λw hS=>?_;simp only[dD,List.take,List.drop,zzn,zzo]at hS;refine Gn λw hS=>?_;rw[e_];rw[oh]at hS
 have hS:=cD.dI (p:=p) (c:=c) (held:=ju (s.L.take m)) (n:=m) hS hx Xp;exact⟨_,⟨rfl,H4,a_.le_trans dW (a_.le_trans dG lL),rfl⟩,aR hS⟩
def bKg(kp gp dp lp pp:Nat)(H:a_)(k:bO)(x:gO)(t:bB)(hx:gn H x t)(hi:Bu t)(wP:∀o∈t.ops,kJ o.key){N m:Nat}(hk:Bw k N m):
  SP 201 [agg [gW kp],agg (dD x)] [.ob (b5 kp gp dp lp pp H k),.mem H] (xI kp gp dp lp pp H (k.eX t)):=by
 refine Enzz λW F w hS=>?_;apply bE3;delta aW;refine zx hS λab w hS=>?_;refine zx hS λxb w hS=>?_;refine Gp ?_;refine Cc (YW kp gp dp lp pp H k x t hx hi wP hk) ?_;clear hS;rintro v post ⟨rfl,H',hh,rfl⟩ w hS;try simp only[app]at hS
 exact⟨_,⟨rfl,H',hh,rfl⟩,aR hS⟩
def awt(O:a_->ed->Μ)(H:a_)(y:ed × Int × Int)(v:Ε)(post:Β):Prop:=v= .tuple #[Γ y.2.1,Γ y.2.2]/\∃H',H.le H'/\post=[O H' y.1,.mem H']
def oN.iok{c:cT}{bL f:Nat}{s:ed}(h:oN c bL s f)(hn:0<s.n):du s.held=true/\Bu s.held/\∀o∈s.held.ops,kJ o.key:=by
 have h1:=h.room;have h2:=h.out;have h3:=h.cap;rcases h.held with ⟨h4,_⟩|⟨_,h4⟩
 ·omega
 have hm:=(h4.may hn (by omega)).1;exact⟨hm,Jz hm⟩
def bmr{a b c d:Ε}{l:Int}{ov nv e:Ε}:∀j v,([Γ l,ov,nv]:Ξ)[j]?=some v->[a,b,c,d,Γ l,ov,nv,e][4+j]?=some v
 | 0,v,h=>h
 | 1,v,h=>h
 | 2,v,h=>h
 | j+3,v,h=>by simp at h
def bKr(p:sE)(c:cT)(H:a_)(s:ed)(now draw:Int){bL f N m:Nat}(hI:oN c bL s f)(hf:f<=1000000)(hk:Bw s.k N m):
  SP 140 [gW p.wp,Γ now,Γ draw] [.ob (cD p c H s),.mem H] (awt (λH s=>.ob (cD p c H s)) H (s.step c now draw)):=by
 refine Enzz λW F w hS=>?_;apply bDe;delta aI bh bS bk bJ ai bc;refine Cc (ZQ p c H s now) ?_;clear hS;rintro _ post ⟨rfl,rfl⟩ w hS;try simp only[app]at hS
 unfold ed.step;cases hr:s.ready now with
 | false=>
  rw[zzb (by decide)];refine Gp ?_;refine zu ?_;exact⟨_,⟨rfl,H,a_.le_refl H,rfl⟩,aR hS⟩
 | true=>
 rw[zzc rfl];refine Gp ?_;refine zq ?_;obtain⟨Ie,kG⟩:=hI.hold hr;have o_:(s.hold c.bI).k=s.k:=by unfold ed.hold;split<;>rfl
 refine⟨λus w=>∃H2,us=[]/\H.le H2/\SL W (.ob (cD p c H2 (s.hold c.bI))::.mem H2::F) w,?_,?_⟩
 ·obtain⟨ov,nv,hi,hS⟩:=cD.open hS Xr;refine Gp ?_;have hS:=cD.put s hS hi Xp;refine za (λh=>?_) (λh=>?_)
  ·have hL:0<s.L.length:=by
    unfold ed.ready at hr;rw[zzb (by omega),zz1]at hr
    exact hr
   refine Cc (bKh p c H s hI (by omega) hL) ?_;clear hS;rintro _ post ⟨rfl,H2,dW,rfl⟩ w hS;(try simp only[app]at hS);refine Gp ?_
   refine Χ ?_;exact⟨H2,rfl,dW,aR hS⟩
  have e:s.hold c.bI=s:=by unfold ed.hold;rw[zzb (by omega)]
  rw[e];exact⟨H,rfl,a_.le_refl H,aR hS⟩
 clear hS;rintro w ⟨H2,-,dW,hS⟩;rw[<- o_]at hk
 clear hI o_ hr;generalize s.hold c.bI=s1 at *
 obtain⟨ov,nv,hi,hS⟩:=cD.open hS Xr;obtain⟨hm,Iz,wP⟩:=Ie.iok kG;have tS:=Ie.f0;have Aq:=Ie.f1;have hg:=SY s1.n s1.out;refine Gn λw hS=>?_;refine yh (vs:=[gW p.kp]) hS Xh rfl (λj v h=>?_) ?_
 ·match j,h with
  | 0,h=>exact h
  | j+1,h=>simp at h
 refine Gp ?_;refine yh (vs:=[Γ s1.held.aw,ov,nv]) hS Xh rfl bmr ?_;have hI2:gn H2 ⟨s1.held.aw,ov,nv⟩ s1.held:=hi;refine Cc (bKg p.kp p.gp p.dp p.lp p.pp H2 s1.k ⟨s1.held.aw,ov,nv⟩ s1.held hI2 Iz wP hk) ?_;clear hS;rintro _ post ⟨rfl,H3,dG,rfl⟩ w hS;try simp only[app]at hS
 have lh:=a_.le_trans dW dG;have TI:=hi.mono dG;unfold ed.hand;generalize s1.k.eX s1.held=y at *
 obtain⟨k',e⟩:=y;simp only at hS ⊢;refine bj (λh0=>?_) (λh0=>?_)
 ·rw[zzc h0];refine Gn λw hS=>?_;refine Cg (Qx s1.n p.qp p.qb c.cap s1.out (s1.L.map hU)) λw hS=>?_;refine Cg (bAw p.rp c.b c.m c.j s1.fh s1.eG) λw hS=>?_;refine Zn (o:=4) (vs:=[Γ 0,Θ,Θ]) hS Xu rfl (by show 7<=8;decide) (by simp[Value.oneCell']) λw hS=>?_;simp only[List.take,List.drop,zzn,zzo]at hS;refine Gn λw hS=>?_;have hS:SL W (_::_::_::_::.pt p.wp (oI p.kp p.qp p.rp c.bI mX.aw Θ Θ 0) 299::_) w:=hS;have hS:=cD.dI (p:=p) (c:=c) (H:=H3) (L:=s1.L) (held:=mX) (n:=0) (ov:=Θ) (nv:=Θ) hS ⟨rfl,cn.nil _ _,cn.nil _ _⟩ Xp;exact⟨_,⟨rfl,H3,lh,rfl⟩,aR hS⟩
 rw[zzb h0];refine bj (λh9=>?_) (λh9=>?_)
 ·rw[zzc h9];refine Gp ?_;refine Cg (bBd p.rp c.b c.m c.j s1.fh s1.eG now draw (by omega)) λw hS=>?_;have hS:=cD.dI (p:=p) (c:=c) (H:=H3) (L:=s1.L) (held:=s1.held) hS TI Xp;exact⟨_,⟨rfl,H3,lh,rfl⟩,aR hS⟩
 rw[zzb h9];have hS:=cD.dI (p:=p) (c:=c) (H:=H3) (L:=s1.L) (held:=s1.held) hS TI Xp;exact⟨_,⟨rfl,H3,lh,rfl⟩,aR hS⟩
def aRu(s:Η):s=cU s.data.toList:=by cases s;simp[cU]
def aRt(l:Φ):(cU l).data.toList=l:=by simp[cU]
def Zz{l:Φ}{k:Nat}{kk:IntKind}{K:Ε->Prop}(hk:k<=l.length)(h:K (.string (cU (l.take k)))):y8 (.string (cU l)) none (some (.int kk (k:Int))) K:=by
 refine⟨cU l,0,k,rfl,⟨kk,rfl⟩,rfl,zz6 _,by rw[ma];exact hk,?_⟩;have:(cU l).extract 0 k=cU (l.take k):=by apply ByteArray.ext;simp[cU,ByteArray.data_extract]
 rw[this];exact h
def WW{l:Φ}{k:Nat}{kk:IntKind}{K:Ε->Prop}(hk:k<=l.length)(h:K (.string (cU (l.drop k)))):y8 (.string (cU l)) (some (.int kk (k:Int))) none K:=by
 refine⟨cU l,k,(cU l).size,rfl,rfl,⟨kk,rfl⟩,by rw[ma];exact hk,zzj _,?_⟩;have:(cU l).extract k (cU l).size=cU (l.drop k):=by
  apply ByteArray.ext;rw[ma];simp[cU,ByteArray.data_extract];rw[zzz (by rw[zzq];omega)]
 rw[this];exact h
def qN{P:Program}{w:Ζ}{t:Ι}{l:Φ}{j:Nat}{k:IntKind}{K:Ε->Prop}(ht:P.underlying t=some .string)(hj:j<l.length)(h:K (.int .u8 (l[j]).toNat)):dP P (Instr.index t (.string (cU l)) (.int k (j:Int))) w K:=by
 have e:(cU l)[j]'(by rw[ma];exact hj)=l[j]:=by simp[cU,ByteArray.getElem_eq_getElem_data]
 exact WX ht (by rw[ma];exact hj) (by rw[e];exact h)
def Z2(l p:Φ):SP 352 [.string (cU l),.string (cU p)] [] (bA (.bool (decide (l.take p.length=p))) []):=by
 refine Enzz λW F w hS=>?_;apply bIa;delta aI br;refine Gp ?_;rw[ma,ma];refine za (λh=>?_) (λh=>?_)
 ·refine Gp ?_;rw[ma];refine Zz (by omega) ?_;refine Gp ?_;rw[show decide (cU (l.take p.length)=cU p)=decide (l.take p.length=p) by rw[yye];exact Rh];(exact bw hS)
 rw[zzx λe=>by
  have:=yyp List.length e;rw[zzf]at this
  omega]
 (exact bw hS)
def ZR(l p:Φ):SP 344 [.string (cU l),.string (cU p)] [] (bA (.tuple #[.string (cU (if l.take p.length=p then l.drop p.length else l)),.bool (decide (l.take p.length=p))]) []):=by
 refine Enzz λW F w hS=>?_;apply bH6;delta bJ;refine Cg (Z2 l p) λw hS=>?_;refine zw (λh=>?_) (λh=>?_)
 ·have h:=yyu h;rw[zzb h,zzx h];(exact bw hS)
 have h:=zzt h;rw[zzc h,zzm h];refine Gp ?_;rw[ma];refine WW ?_ ?_
 ·have:=yyp List.length h;rw[zzf]at this
  omega
 (exact bw hS)
def ZZ(l p:Φ):SP 319 [.string (cU l),.string (cU p)] [] (bA (.tuple #[.string (cU (if l.take p.length=p then l.drop p.length else l)),.bool (decide (l.take p.length=p))]) []):=by
 refine Enzz λW F w hS=>?_;apply bHt;refine Cg (ZR l p) λw hS=>?_;(exact bw hS)
def bfn(l:Φ)(c:Κ):firstIdx (cU l) c=km (l.findIdx? λx=>decide (x=c)):=by
 have gx:∀i,i<l.length->(cU l)[i]! = l[i]!:=λi hi=>by
  have h2:i<(cU l).size:=by rw[ma];exact hi
  rw[wws (cU l) i h2,wws l i hi];simp[cU,ByteArray.getElem_eq_getElem_data]
 unfold firstIdx;rw[ma];cases hf:l.findIdx? (λx=>decide (x=c)) with
 | none=>
  have h1:=wwb.1 hf;have:(List.range l.length).find? (λi=>(cU l)[i]! == c)=none:=by
   rw[List.find?_range_eq_none];intro i hi;rw[gx i hi,wws l i hi];have:=yyu (h1 _ (zzk hi));simpa using this
  rw[this];rfl
 | some j=>
  obtain⟨hj,hk,pS⟩:=yym.1 hf;have:(List.range l.length).find? (λi=>(cU l)[i]! == c)=some j:=by
   rw[List.find?_range_eq_some];refine⟨?_,List.mem_range.2 hj,λi hi=>?_⟩
   ·rw[gx j hj,wws l j hj];simpa using hk
   rw[gx i (by omega),wws l i (by omega)];have:=pS i hi;simpa using this
  rw[this];rfl
def Z4(l:Φ)(c:Κ):SP 356 [.string (cU l),.int .u8 c.toNat] [] (bA (Γ (km (l.findIdx? λx=>decide (x=c)))) []):=by
 refine Enzz λW F w hS=>?_;apply bId;refine⟨Γ (km (l.findIdx? λx=>decide (x=c))),w,?_,?_⟩
 ·have:=run_callFunc_extern func360 (by kernel_rfl) (by kernel_rfl) (by kernel_rfl) (e:=Extern.BytealgIndexByte.indexByte) (by kernel_rfl) #[.string (cU l),.int .u8 c.toNat] w;rw[this,run_indexByte_string,bfn,show ((c.toNat:Int).toNat.toUInt8)=c by simp];rfl
 (exact bw hS)
def qw(l:Φ)(c:Κ):SP 353 [.string (cU l),.string (cU [c])] [] (bA (Γ (km (l.findIdx? λx=>decide (x=c)))) []):=by
 refine Enzz λW F w hS=>?_;apply bIb;delta aI ai;refine Gp ?_;refine⟨λ_ _=>False,?_,λw h=>h.elim⟩;rw[ma];refine Gp ?_;refine za (λh=>absurd h (by simp)) (λ_=>?_);refine bj (λh=>?_) (λ_=>?_)
 ·have h:=Rh.1 h;rw[<- h];exact⟨_,⟨by simp[km],rfl⟩,hS⟩
 refine Gp ?_;refine za (λ_=>?_) (λh=>absurd (by simp) h);refine qN (j:=0) yyz (by simp) ?_;refine Cg (Z4 l c) λw hS=>?_;(exact bw hS)
def k_(l:Φ)(c:Κ):Φ × Φ × Bool:=match l.findIdx? (λx=>decide (x=c)) with
 | none=>(l,[],false)
 | some i=>(l.take i,l.drop (i+1),true)
def a_n(l:Φ)(c:Κ)(hl:l.length<=4611686018427387904):SP 345 [.string (cU l),.string (cU [c])] [] (bA (.tuple #[.string (cU (k_ l c).1),.string (cU (k_ l c).2.1),.bool (k_ l c).2.2]) []):=by
 refine Enzz λW F w hS=>?_;apply bH7;delta aI ai;refine Cg (qw l c) λw hS=>?_;unfold k_;cases hf:l.findIdx? (λx=>decide (x=c)) with
 | none=>
  simp only[km];refine Χ ?_;exact⟨_,⟨rfl,rfl⟩,hS⟩
 | some i=>
  have hi:=(yym.1 hf).1;simp only[km];refine Υ ?_;refine Gn λw hS=>?_;refine Zz (by omega) ?_;refine Gp ?_;rw[ma];have e:([c]:Φ).length=1:=rfl;rw[e];refine Gp ?_;refine WW (by omega) ?_;exact⟨_,⟨rfl,rfl⟩,hS⟩
def a_m(l:Φ)(c:Κ)(hl:l.length<=4611686018427387904):SP 320 [.string (cU l),.string (cU [c])] [] (bA (.tuple #[.string (cU (k_ l c).1),.string (cU (k_ l c).2.1),.bool (k_ l c).2.2]) []):=by
 refine Enzz λW F w hS=>?_;apply bHv;refine Cg (a_n l c hl) λw hS=>?_;(exact bw hS)
def mQ(l:Φ)(a b:Nat):Int:=match l with
 | [d]=>if a<=d.toNat/\d.toNat<=b then (d.toNat:Int)-48 else -1
 | _=>-1
def bAb:∀n:Fin 256,48<=n.1->IntKind.i64.wrap (IntKind.u8.wrap ((n.1:Int)-48))=(n.1:Int)-48:=by decide
def bx2{d:Κ}{K:Ε->Prop}(hd:48<=d.toNat)(h:K (Γ ((d.toNat:Int)-48))):zc .sub (.int .u8 d.toNat) (.int .u8 48) λv=>zM .i64 v K:=by
 refine⟨_,rfl,_,_,rfl,?_⟩;rw[bAb ⟨d.toNat,d.toNat_lt⟩ hd];exact h
def Z0(l:Φ)(a b:Nat)(ha:48<=a):SP 321 [.string (cU l),.int .u8 a,.int .u8 b] [] (bA (Γ (mQ l a b)) []):=by
 refine Enzz λW F w hS=>?_;apply bHw;delta aI ai;refine Gp ?_;rw[ma];refine za (λh=>?_) (λh=>?_)
 ·have e:mQ l a b = -1:=by
   unfold mQ;split
   ·simp at h
   rfl
  rw[e];(exact bw hS)
 obtain⟨d,rfl⟩:∃d,l=[d]:=List.length_eq_one_iff.1 (by omega);refine qN (j:=0) yyz (by simp) ?_;show zc .lss (.int .u8 d.toNat) (.int .u8 a) _;refine bj (λh1=>?_) (λh1=>?_)
 ·rw[show mQ [d] a b = -1 from zzb (by omega)];(exact bw hS)
 refine qN (j:=0) yyz (by simp) ?_;show zc .gtr (.int .u8 d.toNat) (.int .u8 b) _;refine bj (λh2=>?_) (λh2=>?_)
 ·rw[show mQ [d] a b = -1 from zzb (by omega)];(exact bw hS)
 refine qN (j:=0) yyz (by simp) ?_;refine bx2 (d:=d) (by omega) ?_;rw[show mQ [d] a b=(d.toNat:Int)-48 from zzc (by omega)];(exact bw hS)
def R7{l:Φ}{a b:Nat}(h:l.length≠1):mQ l a b = -1:=by
 unfold mQ;split
 ·simp at h
 rfl
def Hz{d:Κ}{a b:Nat}(h:48<=a):mQ [d] a b<0↔¬(a<=d.toNat/\d.toNat<=b):=by
 show (if a<=d.toNat/\d.toNat<=b then (d.toNat:Int)-48 else -1)<0↔_;split<;>omega
def A1(r:Φ):Option (Int × Int):=
 let c:=k_ r 32
 if mQ c.1 48 55<0\/(if c.2.2=true then mQ c.2.1 49 56 else 1)<0 then none else some (mQ c.1 48 55,if c.2.2=true then mQ c.2.1 49 56 else 1)
def Ed{d:Κ}{a b:Nat}(h:a<=d.toNat/\d.toNat<=b):mQ [d] a b=(d.toNat:Int)-48:=zzc h
def XJ{d:Κ}:d.toNat=32↔d=32:=⟨λh=>uu5.1 h,λh=>by rw[h];rfl⟩
def Dj{r:Φ}(h:(k_ r 32).1.length≠1\/((k_ r 32).2.2=true/\(k_ r 32).2.1.length≠1)):A1 r=none:=by
 unfold A1;simp only;rw[zzc];rcases h with h|⟨h,h2⟩
 ·left;rw[R7 h];decide
 right;rw[zzc h,R7 h2];decide
def sH(d:Κ)(r:Φ):k_ (d::r) 32=if d=32 then ([],r,true) else (d::(k_ r 32).1,(k_ r 32).2.1,(k_ r 32).2.2):=by
 unfold k_;rw[List.findIdx?_cons];by_cases hd:d=32
 ·simp[hd]
 rw[zzb (by simpa using hd),zzb hd];cases r.findIdx? (λx=>decide (x=32))<;>simp
def br5(r:Φ):vH r=A1 r:=by
 match r with
 | []=>rw[Dj (.inl (by decide))];rfl
 | [d]=>
  by_cases hd:d=32
  ·subst hd;decide
  have hc:k_ [d] 32=([d],[],false):=by rw[sH,zzb hd];rfl
  unfold A1 vH;rw[hc];simp only;have:=Hz (d:=d) (a:=48) (b:=55) (by decide);by_cases h:48<=d.toNat/\d.toNat<=55
  ·rw[zzc h,zzb (λx=>x.elim (λh2=>by rw[Ed h]at h2;omega) (λh2=>absurd h2 (by decide))),Ed h];rfl
  rw[zzb h,zzc (.inl (this.2 h))]
 | [d,s]=>
  have e:vH [d,s]=none:=rfl;rw[e,Dj];rw[sH];by_cases hd:d=32
  ·rw[zzc hd];left;simp
  rw[zzb hd,sH];by_cases hs:s=32
  ·rw[zzc hs];right;exact⟨rfl,by simp⟩
  rw[zzb hs];left;simp
 | [d,s,e]=>
  by_cases hd:d=32
  ·have e1:vH [d,s,e]=none:=zzb (by rw[hd];simp);rw[e1,Dj];rw[sH,zzc hd];left;simp
  by_cases hs:s=32
  ·have hc:k_ [d,s,e] 32=([d],[e],true):=by rw[sH,zzb hd,sH,zzc hs]
   unfold A1 vH;rw[hc];simp only[ww0];have h1:=Hz (d:=d) (a:=48) (b:=55) (by decide);have h2:=Hz (d:=e) (a:=49) (b:=56) (by decide);by_cases h:(48<=d.toNat/\d.toNat<=55)/\49<=e.toNat/\e.toNat<=56
   ·rw[zzc ⟨h.1,XJ.2 hs,h.2⟩,zzb (by omega),Ed h.1,Ed h.2]
   rw[zzb (λx=>h ⟨x.1,x.2.2⟩),zzc (by omega)]
  have e1:vH [d,s,e]=none:=zzb (λx=>hs (XJ.1 x.2.1));rw[e1,Dj];rw[sH,zzb hd,sH,zzb hs];left;simp
 | d::s::e::f::t=>
  have e1:vH (d::s::e::f::t)=none:=rfl;rw[e1,Dj];rw[sH];by_cases hd:d=32
  ·rw[zzc hd];left;simp
  rw[zzb hd,sH];by_cases hs:s=32
  ·rw[zzc hs];right;exact⟨rfl,by simp⟩
  rw[zzb hs];left;simp
def W6(o:Option (Int × Int)):Ε:=.tuple #[agg [Γ (o.getD (0,0)).1,Γ (o.getD (0,0)).2],.bool o.isSome]
def QJ(s:Η)(hs:s.size<=4611686018427387904):SP 286 [.string s] [] (bA (W6 (FQ s)) []):=by
 refine Enzz λW F w hS=>?_;apply bG6;delta aI aW bJ DU ai;rw[aRu s]at hs ⊢
 generalize hl:s.data.toList=l at *
 rw[ma]at hs
 unfold FQ;rw[aRt];refine Gb λrb w hS=>?_;refine Cg (ZZ l uG) λw hS=>?_;by_cases hp:l.take uG.length=uG
 ·rw[zzc hp,zzm hp,show l.take 9=uG from hp,zzc rfl];refine zq ?_;refine Cg (a_m (l.drop uG.length) 32 (by rw[zzq];omega)) λw hS=>?_;rw[br5,show l.drop 9=l.drop uG.length from rfl];generalize l.drop uG.length=r at *
  unfold A1;generalize k_ r 32=c at *
  obtain⟨A,B,q⟩:=c;simp only at hS ⊢;refine Cc (Z0 A 48 55 (by decide)) ?_;clear hS;rintro _ post ⟨rfl,rfl⟩ w hS;try simp only[app]at hS
  refine Gm λnb w hS=>?_;refine⟨λus w=>us=[]/\SL W (.pt nb [Γ (mQ A 48 55),Γ (if q=true then mQ B 49 56 else 1)] 413::.pt rb [Γ 0,Γ 0] 413::F) w,?_,?_⟩
  ·refine yJ (λhq=>?_) (λhq=>?_)
   ·rw[zzc hq];refine Cg (Z0 B 49 56 (by decide)) λw hS=>?_;(first|exact aR hS|exact⟨rfl,aR hS⟩)
   rw[zzb (by simp[hq])];exact⟨rfl,aR hS⟩
  clear hS;rintro w ⟨-,hS⟩;refine bj (λh=>?_) (λh=>?_)
  ·rw[zzc (.inl h)];refine Gn λw hS=>?_;exact bw hS
  refine bj (λh2=>?_) (λh2=>?_)
  ·rw[zzc (.inr h2)];refine Gn λw hS=>?_;exact bw hS
  rw[zzb (by omega)];refine Gn λw hS=>?_;exact bw hS
 rw[zzx hp,zzb (show ¬l.take 9=uG from hp)];refine zu ?_;refine Gn λw hS=>?_;exact bw hS
def bmc{P:Program}{T:List Bool}{f g:FuncId}{sz:Nat}{α:Type}{enc:α->Ξ}(hn:∀x,(enc x).length=sz)(hT:T.getD g false=true){cap:Array Ε}{c:Μ}{q:α->Bool}{H:a_}
  (vc:∀v0 v1 w R,DR P T sz v0 v1 w R->zJ P f [v0,v1] w R) (one:∀x,Spec P g ([agg (enc x)]++cap.toList) [c] (bA (.bool (q x)) [c]))
  (v:Ε) (xs:List α) (hv:cn H sz v xs.length (xs.map enc).flatten) (hl:xs.length<=9223372036854775806) :
  Spec P f [v,.func (.func g) #[] cap] [c,.mem H] (bA (Γ (km (xs.findIdx? q))) [c,.mem H]):=by
 intro W F w hS;apply vc;unfold DR;have hS:SL W (c::.mem H::F) w:=hS;refine zn hv ?_;refine⟨λvs w=>∃k:Nat,vs=[Γ k]/\k<=xs.length/\(∀j (h:j<xs.length),j<k->q xs[j]=false)/\SL W (c::.mem H::F) w,λvs _=>match vs with|[.int _ k]=>(xs.length-k).toNat|_=>0,⟨0,rfl,by omega,λj h hj=>by omega,hS⟩,?_⟩;clear hS;rintro v8 w ⟨k,hv,hk,hq,hS⟩;cases hv;refine bj (λh=>?_) (λh=>?_)
 ·have mS:k<xs.length:=by omega
  refine zB hS Xh hn ‹_› (x:=xs[k]) (by simp[mS]) mS ?_;refine yE (args':=[agg (enc xs[k])]++cap.toList) hT (one xs[k]) (by simp) hS Xp ?_;clear hS;rintro _ post ⟨rfl,rfl⟩ w hS;try simp only[app]at hS
  cases CN:q xs[k] with
  | true=>
   refine zu ?_;have e:xs.findIdx? q=some k:=yym.2 ⟨mS,CN,λj hj=>by rw[hq j (by omega) hj];decide⟩;rw[e];exact⟨_,⟨rfl,rfl⟩,hS⟩
  | false=>
   refine zq ?_;refine Gp ?_;refine⟨⟨k+1,rfl,by omega,λj h hj=>?_,hS⟩,by dsimp only;omega⟩;rcases xxz j k with CE|CE
   ·exact hq j h CE
   obtain rfl:j=k:=by omega
   exact CN
 have e:xs.findIdx? q=none:=wwb.2 λx hx=>by
  obtain⟨j,hj,rfl⟩:=xxc.1 hx;exact hq j hj (by omega)
 rw[e];exact⟨_,⟨rfl,rfl⟩,hS⟩
structure cI.Ok(m:cI):Prop where
 reqs:fq m.reqs
 t1:1<=m.tables/\m.tables<=8
 rows:m.bz.rows.length<=1000
 lF:0<=m.at_/\m.at_<=1099511627776
abbrev xr(m:cI)(wp:Nat)(rv:Ε):Ξ:=[bx wp,Γ m.tables,Γ m.late,Γ m.at_,rv]
def bW(mp wp:Nat)(H:a_)(m:cI):zC:=iX λrv:Ε=>zF (iz H rv m.reqs) [.pt mp (xr m wp rv) 110,.ob (cM wp m.bz)]
section
variable {W w:Ζ} {l F:Β} {mp wp:Nat} {H H':a_}
def bW.iff{m:cI}:SL W (.ob (bW mp wp H m)::l) w↔∃rv,iz H rv m.reqs/\SL W (.pt mp (xr m wp rv) 110::.ob (cM wp m.bz)::l) w:=by
 unfold bW;simp only[SL.ex,SL.fact,zzn,zzo]
def bW.put(m:cI)(rv:Ε)(hr:iz H rv m.reqs)(hS:SL W l w)(p:fK [.pt mp (xr m wp rv) 110,.ob (cM wp m.bz)] l F):SL W (.ob (bW mp wp H m)::F) w:=bW.iff.2 ⟨rv,hr,hS.pick p⟩
def bW.jU{m:cI}(hh:H.le H')(hS:SL W l w)(r:eW (.ob (bW mp wp H m)) l F):SL W (.ob (bW mp wp H' m)::F) w:=by
 obtain⟨rv,h1,h2⟩:=bW.iff.1 (hS.perm r.perm);exact bW.iff.2 ⟨rv,h1.mono hh,h2⟩
end
def Yp(H:a_)(v:Ε)(L:List Rq)(tables aw:Int)(hv:iz H v L)(hn:L.length<=1000):
  SP 167 [v,Γ tables,Γ aw] [.mem H] (λu post=>∃q:Bool,u= .bool q/\(q=true↔fq L/\∀r∈L,r.table<tables/\r.at_<=aw)/\post=[.mem H]):=by
 refine Enzz λW F w hS=>?_;apply bD3;delta aI aW br ai;refine zn hv ?_;refine⟨λus w=>∃i:Nat,us=[Γ i]/\i<=L.length/\(∀j (h:j<L.length),j<i->L[j].table<tables/\L[j].at_<=aw)/\SL W (.mem H::F) w,λus _=>match us with|[.int _ i]=>(L.length-i).toNat|_=>0,⟨0,rfl,by omega,λj h hj=>by omega,hS⟩,?_⟩;clear hS;rintro v11 w ⟨i,bM,hi,dh,hS⟩;cases bM;refine bj (λh=>?_) (λh=>?_)
 ·have bn:i<L.length:=by omega
  have hx:L[i]?=some L[i]:=zzd bn;have hm:=zzk bn;refine zB hS Xh nC hv hx bn ?_;have oA:L[i].table<tables/\L[i].at_<=aw->∀j (h:j<L.length),j<i+1->L[j].table<tables/\L[j].at_<=aw:=λh j hj gZ=>by
   rcases xxz j i with h2|h2
   ·exact dh j hj h2
   obtain rfl:j=i:=by omega
   exact h
  generalize L[i]=r at *
  refine Gb λxb w hS=>?_;refine za (λh2=>⟨_,⟨false,rfl,⟨(λe=>by cases e),λx=>by have:=(x.2 r hm).1;omega⟩,rfl⟩,aR hS⟩) (λh2=>?_);refine Gp ?_;refine za (λh3=>⟨_,⟨false,rfl,⟨(λe=>by cases e),λx=>by have:=(x.2 r hm).2;omega⟩,rfl⟩,aR hS⟩) (λh3=>?_);refine Gp ?_;exact⟨⟨i+1,rfl,by omega,oA ⟨by omega,by omega⟩,aR hS⟩,by dsimp only;omega⟩
 refine Cc (Zi H v L hv (by omega)) ?_;clear hS;rintro _ post ⟨q,rfl,hq,rfl⟩ w hS;try simp only[app]at hS
 refine⟨_,⟨q,rfl,hq.trans ⟨λx=>⟨x,λr hr=>?_⟩,λx=>x.1⟩,rfl⟩,hS⟩;obtain⟨j,hj,rfl⟩:=yyh hr;exact dh j hj (by omega)
def K2(H:a_)(tables late chunk aw:Int)(L:List Rq)(v:Ε)(post:Β):Prop:=
 (De tables late chunk aw L/\(∃e:Int,e≠0/\v= .tuple #[.pointer none,Γ e])/\post=[.mem H]) \/
 (¬De tables late chunk aw L/\∃(mp wp:Nat) (H':a_),H.le H'/\v= .tuple #[bx mp,Γ 0]/\post=[.ob (bW mp wp H' ⟨tables,late,aw,L,l6 chunk⟩),.mem H'])
def bqa(H:a_)(tables late chunk aw:Int)(v:Ε)(L:List Rq)(hv:iz H v L)(hn:L.length<=1000):
  SP 114 [Γ tables,Γ late,Γ chunk,Γ aw,v] [.mem H] (K2 H tables late chunk aw L):=by
 refine Enzz λW F w hS=>?_;apply bCn;delta aI bJ ai bT bc;have eF:∀{e:Int} {w:Ζ},e≠0->De tables late chunk aw L->SL W (.mem H::F) w->∃post,K2 H tables late chunk aw L (.tuple #[.pointer none,Γ e]) post/\SL W (app post F) w:=λhe h hS=>⟨_,.inl ⟨h,⟨_,he,rfl⟩,rfl⟩,hS⟩;refine Gp ?_;refine za (λh=>eF (by decide) (.inl h) hS) (λh1=>?_);refine Gp ?_;refine za (λh=>eF (by decide) (.inr (.inl h)) hS) (λh2=>?_);refine Gp ?_;refine za (λh=>eF (by decide) (.inr (.inr (.inl h))) hS) (λh3=>?_);obtain⟨n,rfl⟩:∃n:Nat,tables=n:=⟨tables.toNat,by omega⟩;have bMa:(2:Int) ^ n<=256:=by
  have:n<=8:=by omega
  match n,this with
  | 0,_=>decide
  | 1,_=>decide
  | 2,_=>decide
  | 3,_=>decide
  | 4,_=>decide
  | 5,_=>decide
  | 6,_=>decide
  | 7,_=>decide
  | 8,_=>decide
 have vt:(0:Int)<2 ^ n:=Int.pow_pos (by decide);refine QY (by omega) (by omega) ?_;rw[Int.one_mul];refine Gp ?_;refine za (λh=>eF (by decide) (.inr (.inr (.inr (.inl (by rw[zzw];exact h))))) hS) (λh4=>?_);refine Gp ?_;refine za (λh=>eF (by decide) (.inr (.inr (.inr (.inr (.inl h))))) hS) (λh5=>?_);refine Gp ?_;refine za (λh=>eF (by decide) (.inr (.inr (.inr (.inr (.inr (.inl h)))))) hS) (λh6=>?_);refine Cc (Yp H v L n aw hv hn) ?_;clear hS;rintro _ post ⟨q,rfl,hq,rfl⟩ w hS;(try simp only[app]at hS);refine Gp ?_
 refine zw (λhe=>?_) (λhe=>?_)
 ·refine eF (by decide) (.inr (.inr (.inr (.inr (.inr (.inr (.inr (.inr ?_)))))))) hS;by_cases hm:fq L
  ·right;refine Classical.byContradiction λhx=>?_;have:q=true:=hq.2 ⟨hm,λr hr=>by
    refine⟨Int.not_le.1 λh=>hx ⟨r,hr,.inl h⟩,Int.not_lt.1 λh=>hx ⟨r,hr,.inr h⟩⟩⟩
   rw[he]at this;cases this
  exact .inl hm
 obtain⟨hm,dh⟩:=hq.1 he;refine Cc (bKl chunk) ?_;clear hS;rintro r post ki w hS;rcases ki with ⟨h7,rfl,rfl⟩|⟨h7,wp,rfl,rfl⟩
 ·(try simp only[app]at hS);refine Gp ?_
  refine Υ ?_;exact eF (by decide) (.inr (.inr (.inr (.inr (.inr (.inr (by omega))))))) hS
 (try simp only[app]at hS);refine Gp ?_
 refine Χ ?_;refine yW (cells:=[bx wp]) (by simp[gT,Value.cells,bx]) ?_;refine Cc (ya H v L hv hn) ?_;clear hS;rintro u post rfl w hS;try simp only[app]at hS
 obtain⟨H1,bX,hR,hS⟩:=zA (H:=H) (v:=u) hS Xp;have hu:u.oneCell'=true:=hR.one;refine yW (cells:=[bx wp,Γ n,Γ late,Γ aw,u]) (by simp[gT,show ∀n,(Γ n).cells = #[Γ n] from λ_=>rfl,show ∀v,(Value.agg #[v]).cells = #[v] from λ_=>rfl,ux hu]) ?_;refine⟨_,rfl,zD hS λmp w hS=>?_⟩;have bC:¬De n late chunk aw L:=by
  rintro (h|h|h|h|h|h|h|h|h|⟨r,hr,h⟩)
  ·exact h1 h
  ·exact h2 h
  ·exact h3 h
  ·rw[zzw]at h;exact h4 h
  ·exact h5 h
  ·exact h6 h
  ·omega
  ·omega
  ·exact h hm
  have:=dh r hr;omega
 have hS:=bW.put (wp:=wp) ⟨n,late,aw,L,l6 chunk⟩ u hR hS Xp;exact⟨_,.inr ⟨bC,mp,wp,H1,bX,rfl,rfl⟩,aR hS⟩
section
variable (mp wp:Nat) (H:a_) (m:cI)
def yU:SP 49 [bx mp] [.ob (bW mp wp H m)] (bA (Γ m.at_) [.ob (bW mp wp H m)]):=by
 refine Enzz λW F w hS=>?_;apply bIq;delta bh;obtain⟨rv,hr,hS⟩:=bW.iff.1 hS;refine Gp ?_;exact⟨_,⟨rfl,rfl⟩,SL.bo (bW.put m rv hr hS Xp) Xi⟩
def yM(hn:m.reqs.length<=1000):SP 184 [bx mp] [.ob (bW mp wp H m),.mem H] (λu post=>post=[.ob (bd u 295 7 m.reqs.length (m.reqs.map gS).flatten),.ob (bW mp wp H m),.mem H]):=by
 refine Enzz λW F w hS=>?_;apply bEk;delta bh;obtain⟨rv,hr,hS⟩:=bW.iff.1 hS;refine Gp ?_;refine Cc (ya H rv m.reqs hr hn) ?_;clear hS;rintro u post rfl w hS;try simp only[app]at hS
 exact⟨_,rfl,SL.bo (bW.put m rv hr hS Xp) Xi⟩
def YH:SP 44 [agg [bx wp]] [] (bA (bx wp) []):=by
 refine Enzz λW F w hS=>?_;apply bIl;delta aW;refine zx hS λxb w hS=>?_;refine Gp ?_;exact bw hS
def ZI(k:cL)(x:l_):SP 124 [agg [bx wp],agg (eb x)] [.ob (cM wp k)] (bA (.bool (k.waits x.kind x.mark)) [.ob (cM wp k)]):=by
 refine Enzz λW F w hS=>?_;apply bCx;delta aW;refine zx hS λxb w hS=>?_;refine zx hS λyb w hS=>?_;refine Gp ?_;refine Cg (q9 wp k x) λw hS=>?_;exact bw hS
def aR9(b:Nat)(t:Int)(r:Rq):SP 288 ([agg (gS r)]++(#[bx b]:Array Ε).toList) [.pt b [Γ t] 3] (bA (.bool (decide (r.table=t))) [.pt b [Γ t] 3]):=by
 refine Enzz λW F w hS=>?_;apply bG8;delta aW;refine zx hS λxb w hS=>?_;unfold gS at hS;refine Gp ?_;exact bw hS
def aId{α:Type}{l:List α}{q:α->Bool}:decide (0<=km (l.findIdx? q))=l.any q:=by
 cases h:l.findIdx? q with
 | none=>
  have:=wwb.1 h;rw[show l.any q=false by rw[List.any_eq_false];exact λx hx=>by rw[this x hx];decide];rfl
 | some i=>
  obtain⟨hi,hk,_⟩:=yym.1 h;rw[show l.any q=true from List.any_eq_true.2 ⟨_,zzk hi,hk⟩];exact zzm (by simp only[km];omega)
def Yn(hn:m.reqs.length<=1000)(t:Int):SP 245 [bx mp,Γ t] [.ob (bW mp wp H m),.mem H] (bA (.bool (m.captured t)) [.ob (bW mp wp H m),.mem H]):=by
 refine Enzz λW F w hS=>?_;apply bF6;delta aI bh br ai;obtain⟨rv,hr,hS⟩:=bW.iff.1 hS;unfold cI.captured;refine⟨rfl,zD hS λb w hS=>?_⟩;refine Gn λw hS=>?_;refine za (λh=>?_) (λh1=>?_)
 ·rw[zzx (by omega),uu9];exact⟨_,⟨rfl,rfl⟩,SL.bo (bW.put m rv hr hS Xp) Xi⟩
 refine bj (λh=>?_) (λh2=>?_)
 ·rw[zzx (by omega),uu9];exact⟨_,⟨rfl,rfl⟩,SL.bo (bW.put m rv hr hS Xp) Xi⟩
 rw[zzm (show 0<=t/\t<m.tables by omega),uuh];refine Gn λw hS=>?_;refine bwv (by omega) ?_;refine bj (λh=>?_) (λh3=>?_)
 ·rw[zzm h,Bool.true_or];exact⟨_,⟨rfl,rfl⟩,SL.bo (bW.put m rv hr hS Xp) Xi⟩
 rw[zzx h3,Bool.false_or];refine Gp ?_;have hC:SP 287 [rv,.func (.func 288) #[] #[bx b]] [.pt b [Γ t] 3,.mem H] (bA (.bool (m.reqs.any λr=>decide (r.table=t))) [.pt b [Γ t] 3,.mem H]):=by
  refine Enzz λW F w hS=>?_;apply bG7;delta ai;refine Cg (bmc nC rfl (λv0 v1 w R h=>bHx v0 v1 w R h) (λr=>aR9 b t r) rv m.reqs hr (by omega)) λw hS=>?_;rw[aId];exact⟨_,⟨rfl,rfl⟩,hS⟩
 refine Cg (hC) λw hS=>?_;exact⟨_,⟨rfl,rfl⟩,SL.bo (bW.put m rv hr hS Xp) Xi⟩
end
abbrev sA(v:Ε)(l:List gF):Μ:=.ob (bd v 357 7 l.length (l.map jP).flatten)
abbrev GA(v:Ε)(l:List fB):Μ:=.ob (bd v 354 5 l.length (l.map iR).flatten)
def YX(mp wp:Nat)(H:a_)(m:cI)(hm:m.Ok)(s:Η)(hs:s.size<=1000)(aw:Int):
  SP 244 [bx mp,.string s,Γ aw] [.ob (bW mp wp H m),.mem H] (λv post=>∃H',H.le H'/\post=[sA v (m.accept s aw).2,.ob (bW mp wp H' {m with reqs:=(m.accept s aw).1}),.mem H']):=by
 refine Enzz λW F w hS=>?_;apply bF5;delta aI bh aW bS bJ ai bc;have CP:=hm.reqs.1;have dX:∀{w:Ζ},m.accept s aw=(m.reqs,[])->SL W (.ob (bW mp wp H m)::.mem H::F) w->∃post,(∃H',H.le H'/\post=[sA Θ (m.accept s aw).2,.ob (bW mp wp H' {m with reqs:=(m.accept s aw).1}),.mem H'])/\SL W (app post F) w:=λe hS=>by
  rw[e];have hS:SL W (sA Θ []::.ob (bW mp wp H m)::.mem H::F) _:=bd.nil hS;exact⟨_,⟨H,a_.le_refl H,rfl⟩,hS⟩
 refine Cc (QJ s (by omega)) ?_;clear hS;rintro _ post ⟨rfl,rfl⟩ w hS;try simp only[app]at hS
 unfold W6;cases hp:FQ s with
 | none=>
  simp only[ww2,uuu];refine Gm λb w hS=>?_;refine zu ?_;exact dX (by unfold cI.accept;rw[hp]) (aR hS)
 | some g=>
  obtain⟨t,wt⟩:=g;simp only[xxq,uuv];refine Gm λb w hS=>?_;refine zq ?_;obtain⟨rv,hr,hS⟩:=bW.iff.1 (SL.bo hS (t:=.ob (bW mp wp H m)::.pt b [Γ t,Γ wt] 413::.mem H::F) Xi);refine bj (λh=>?_) (λh1=>?_)
  ·exact dX (by unfold cI.accept;rw[hp];simp only;rw[zzc h]) (SL.bo (bW.put m rv hr hS Xp) Xi)
  refine Gn λw hS=>?_;have ED:m.accept s aw=match oO m.reqs t wt aw with
   | none=>(m.reqs,[])
   | some L=>(L,[⟨1,L.length,t,wt,aw,0,false⟩]):=by
   unfold cI.accept;rw[hp];simp only;rw[zzb h1];rfl
  refine Cc (Zk H rv m.reqs t wt aw hr (by omega)) ?_;clear hS;rintro u post ⟨H1,bX,rfl,hq⟩ w hS;try simp only[app]at hS
  cases ha:oO m.reqs t wt aw with
  | none=>
   rw[ha]at hq ED
   subst hq;refine Gp ?_;refine zu ?_;have hS:=bW.put m rv (hr.mono bX) hS Xp;rw[ED];have hS:SL W (sA Θ []::.ob (bW mp wp H1 m)::_) _:=bd.nil hS;exact⟨_,⟨H1,bX,rfl⟩,aR hS⟩
  | some L=>
   rw[ha]at hq ED
   obtain⟨x,rfl,hx⟩:=hq;have ox:x.oneCell'=true:=hx.one;refine Gp ?_;refine zq ?_;refine Gn λw hS=>?_;refine zn hx ?_;refine Gm λnb w hS=>?_;rw[ED];have hS:=bW.put (mp:=mp) (wp:=wp) {m with reqs:=L} x hx hS Xp;have hS:SL W (sA (.slice (some ⟨nb,0,none⟩) 1 1) [⟨1,L.length,t,wt,aw,0,false⟩]::.ob (bW mp wp H1 {m with reqs:=L})::.mem H1::F) w:=bd.full (sz:=7) rfl (SL.bo hS (t:=.pt nb [Γ 1,Γ L.length,Γ t,Γ wt,Γ aw,Γ 0,.bool false] 357::.ob (bW mp wp H1 {m with reqs:=L})::.mem H1::F) Xi);exact⟨_,⟨H1,bX,rfl⟩,aR hS⟩
def PV(aw:Int):∀(l:Ψ) (m:cI) (s:Η),m.eg aw (l++[s])=({(m.eg aw l).1 with reqs:=((m.eg aw l).1.accept s aw).1},(m.eg aw l).2++((m.eg aw l).1.accept s aw).2)
 | [],m,s=>by simp[cI.eg]
 | x::l,m,s=>by
  show (let r:=m.accept x aw;let y:=cI.eg {m with reqs:=r.1} aw (l++[s]);(y.1,r.2++y.2))=_;simp only;rw[PV aw l];simp[cI.eg,zzg]
def PT{m:cI}(h:fq m.reqs)(s:Η)(aw:Int):fq (m.accept s aw).1/\(m.accept s aw).2.length<=1:=by
 unfold cI.accept;split
 ·exact⟨h,by simp⟩
 split
 ·exact⟨h,by simp⟩
 split
 ·exact⟨h,by simp⟩
 rename_i L hL;exact⟨BL hL,by simp⟩
def G'(aw:Int):∀(l:Ψ) {m:cI},m.Ok->(m.eg aw l).1.Ok/\(m.eg aw l).2.length<=l.length/\(m.eg aw l).1.bz=m.bz/\(m.eg aw l).1.tables=m.tables/\(m.eg aw l).1.late=m.late/\(m.eg aw l).1.at_=m.at_
 | [],m,h=>⟨h,by simp[cI.eg],rfl,rfl,rfl,rfl⟩
 | x::l,m,h=>by
  have h1:=PT h.reqs x aw;have h2:=G' aw l (m:={m with reqs:=(m.accept x aw).1}) ⟨h1.1,h.t1,h.rows,h.lF⟩;unfold cI.eg;simp only;refine⟨h2.1,?_,h2.2.2⟩;rw[zza,zzi];have:=h2.2.1;omega
def br2{α:Type}{enc:α->Ξ}{v:Ε}{t:Ι}{sz:Nat}{A B:List α}:bd v t sz (A.length+B.length) ((A.map enc).flatten++(B.map enc).flatten)=bd v t sz (A++B).length ((A++B).map enc).flatten:=by
 rw[zza,zzr,yyq]
def KZ(mp wp:Nat)(H:a_)(y:cI × bB)(u:Ε)(post:Β):Prop:=∃(x:gO) (H':a_),H.le H'/\u=agg (dD x)/\gn H' x y.2/\post=[.ob (bW mp wp H' y.1),.mem H']
def YY(mp wp:Nat)(H:a_)(m:cI)(hm:m.Ok)(x:l_)(t:bD)(hx:lE H x t)(hs:t.signals.length<=2)(bka:∀s∈t.signals,s.size<=40)(hc:t.changes.length<=16):
  SP 187 [bx mp,agg (eb x)] [.ob (bW mp wp H m),.mem H] (KZ mp wp H (m.xY t)):=by
 refine Enzz λW F w hS=>?_;apply bEn;delta aI aW bg bk ai bK bc;refine zx hS λxb w hS=>?_;unfold eb at hS;rw[hx.aw]at hS
 have rQ:=hx.cv;have AI:=hx.sv;refine Gm λzb w hS=>?_;refine Gm λyb w hS=>?_;refine zn AI ?_;have hS:SL W (sA Θ []::_) w:=bd.nil hS;have hS:=SL.bo hS (t:=sA Θ []::.ob (bW mp wp H m)::.pt yb [Γ t.aw,Θ,Θ] 236::.pt zb [Γ 0,Θ,Θ] 236::.pt xb [Γ t.aw,Γ x.kind,x.cv,x.sv,Γ x.mark] 151::.mem H::F) Xi;refine⟨λus w=>∃(i:Nat) (nv:Ε) (H1:a_),us=[Γ i]/\i<=t.signals.length/\H.le H1/\SL W (sA nv (m.eg t.aw (t.signals.take i)).2::.ob (bW mp wp H1 (m.eg t.aw (t.signals.take i)).1)::.pt yb [Γ t.aw,Θ,nv] 236::.pt zb [Γ 0,Θ,Θ] 236::.pt xb [Γ t.aw,Γ x.kind,x.cv,x.sv,Γ x.mark] 151::.mem H1::F) w,
  λus _=>match us with|[.int _ i]=>(t.signals.length-i).toNat|_=>0,⟨0,Θ,H,rfl,by omega,a_.le_refl H,hS⟩,?_⟩
 clear hS;rintro xA w ⟨i,nv,H1,bM,hi,bX,hS⟩;cases bM;refine bj (λh=>?_) (λh=>?_)
 ·have bn:i<t.signals.length:=by omega
  have Ii:=G' t.aw (t.signals.take i) hm;have eN:t.signals.take (i+1)=t.signals.take i++[t.signals[i]]:=zze bn;have CX:=PV t.aw (t.signals.take i) m t.signals[i];rw[<- eN]at CX
  have Ce:=bka _ (zzk bn);have b9:(t.signals.take i).length<=2:=by rw[zzf];omega
  refine yA hS Xh (AI.mono bX) bn (u:=.string t.signals[i]) (by simp[bn]) ?_;refine Gn λw hS=>?_;refine Cc (YX mp wp H1 (m.eg t.aw (t.signals.take i)).1 Ii.1 t.signals[i] (by omega) t.aw) ?_;clear hS;rintro v post ⟨H2,cF,rfl⟩ w hS;try simp only[app]at hS
  have tZ:=(PT Ii.1.reqs t.signals[i] t.aw).2;have hl2:=Ii.2.1;refine Gp ?_;refine zL (n:=(m.eg t.aw (t.signals.take i)).2.length) (m:=((m.eg t.aw (t.signals.take i)).1.accept t.signals[i] t.aw).2.length) (cells:=((m.eg t.aw (t.signals.take i)).2.map jP).flatten) (cs:=(((m.eg t.aw (t.signals.take i)).1.accept t.signals[i] t.aw).2.map jP).flatten) hS Xr (jh hS Xh) (n_ wu _) rfl (tc HG _) (by omega) (by omega) λv2 w hS=>?_;have o1:v2.oneCell'=true:=bd.one hS;rw[br2,show (m.eg t.aw (t.signals.take i)).2++((m.eg t.aw (t.signals.take i)).1.accept t.signals[i] t.aw).2=(m.eg t.aw (t.signals.take (i+1))).2 by rw[CX]]at hS
  refine Gn λw hS=>?_;rw[show (⟨(m.eg t.aw (t.signals.take i)).1.tables,(m.eg t.aw (t.signals.take i)).1.late,(m.eg t.aw (t.signals.take i)).1.at_,((m.eg t.aw (t.signals.take i)).1.accept t.signals[i] t.aw).1,(m.eg t.aw (t.signals.take i)).1.bz⟩:cI)=(m.eg t.aw (t.signals.take (i+1))).1 by rw[CX]]at hS
  exact⟨⟨i+1,v2,H2,rfl,by omega,a_.le_trans bX cF,aR hS⟩,by dsimp only;omega⟩
 have E5:t.signals.take i=t.signals:=zzz (by omega);rw[E5]at hS
 obtain⟨rU,Fa,pY,AJ,b9,gx⟩:=G' t.aw t.signals hm;have mR:m.xY t=({(m.eg t.aw t.signals).1 with bz:=(m.eg t.aw t.signals).1.bz.p_ t.changes},⟨t.aw,lV (m.eg t.aw t.signals).1 t.aw t.changes,(m.eg t.aw t.signals).2⟩):=rfl;rw[mR];generalize m.eg t.aw t.signals=y at *
 obtain⟨m1,N⟩:=y;simp only at hS rU Fa ⊢;clear pY AJ b9 gx mR;refine Gp ?_;refine zn (rQ.mono bX) ?_;have hS:SL W (GA Θ (lV m1 t.aw (t.changes.take 0))::_) w:=bd.nil hS;refine⟨λus w=>∃(i:Nat) (ov:Ε),us=[Γ i]/\i<=t.changes.length/\SL W (GA ov (lV m1 t.aw (t.changes.take i))::sA nv N::.ob (bW mp wp H1 m1)::.pt yb [Γ t.aw,ov,nv] 236::.pt zb [Γ 0,Θ,Θ] 236::.pt xb [Γ t.aw,Γ x.kind,x.cv,x.sv,Γ x.mark] 151::.mem H1::F) w,
  λus _=>match us with|[.int _ i]=>(t.changes.length-i).toNat|_=>0,⟨0,Θ,rfl,by omega,aR hS⟩,?_⟩
 clear hS;rintro v33 w ⟨i,ov,bM,hi,hS⟩;cases bM;refine bj (λh=>?_) (λh=>?_)
 ·have bn:i<t.changes.length:=by omega
  have Fj:t.changes[i]?=some t.changes[i]:=zzd bn;have eN:t.changes.take (i+1)=t.changes.take i++[t.changes[i]]:=zze bn;have dY:lV m1 t.aw (t.changes.take (i+1))=lV m1 t.aw (t.changes.take i)++(if m1.captured t.changes[i].table=true then [⟨t.aw,t.changes[i].table,t.changes[i].key,t.changes[i].gone,t.changes[i].val⟩] else []):=by
   unfold lV;rw[eN,xxj,zzr];congr 1;rw[xx7];split<;>simp
  have wW:(lV m1 t.aw (t.changes.take i)).length<=16:=by
   unfold lV;rw[zzv];have:=yy7 (λc:da=>m1.captured c.table) (t.changes.take i);rw[zzf]at this
   omega
  refine zB hS Xh pF (rQ.mono bX) Fj bn ?_;generalize t.changes[i]=c at *
  refine Gb λcb w hS=>?_;refine Cg (Yn mp wp H1 m1 (by have:=rU.reqs.1;omega) c.table) λw hS=>?_;refine yJ (λhq=>?_) (λhq=>?_)
  ·rw[zzc hq]at dY
   refine Gm λob w hS=>?_;refine yf (n:=(lV m1 t.aw (t.changes.take i)).length) (xs:=lV m1 t.aw (t.changes.take i)) (y:=⟨t.aw,c.table,c.key,c.gone,c.val⟩) (enc:=iR) hS Xr Xh wx (λx=>B4 x) rfl (by omega) (by omega) λv2 w hS=>?_;have hS:=hS.nf (x:=(⟨t.aw,c.table,c.key,c.gone,c.val⟩:fB));rw[<- dY]at hS
   have o1:v2.oneCell'=true:=bd.one hS;refine Gn λw hS=>?_;exact⟨⟨i+1,v2,rfl,by omega,aR hS⟩,by dsimp only;omega⟩
  rw[zzb (by simp[hq]),zz3]at dY
  rw[<- dY]at hS
  refine Gp ?_;exact⟨⟨i+1,ov,rfl,by omega,aR hS⟩,by dsimp only;omega⟩
 have bjd:t.changes.take i=t.changes:=zzz (by omega);rw[bjd]at hS
 obtain⟨rv,hr,hS⟩:=bW.iff.1 (SL.bo hS (t:=.ob (bW mp wp H1 m1)::GA ov (lV m1 t.aw t.changes)::sA nv N::.pt yb [Γ t.aw,ov,nv] 236::.pt zb [Γ 0,Θ,Θ] 236::.pt xb [Γ t.aw,Γ x.kind,x.cv,x.sv,Γ x.mark] 151::.mem H1::F) Xi);refine Gn λw hS=>?_;refine Cc (bKp wp m1.bz H1 x.cv t.changes (rQ.mono bX) (by have:=rU.rows;omega) (by omega)) ?_;clear hS;rintro _ post ⟨⟨q,rfl⟩,rfl⟩ w hS;try simp only[app]at hS
 have hS:=bW.put (mp:=mp) {m1 with bz:=m1.bz.p_ t.changes} rv hr hS Xp;obtain⟨H2,cF,S_,hS⟩:=zA (H:=H1) (v:=nv) hS Xp;obtain⟨H3,dG,Ta,hS⟩:=zA (H:=H2) (v:=ov) hS Xp;have on:nv.oneCell'=true:=S_.one;have oo:ov.oneCell'=true:=Ta.one;refine Gp ?_;refine zr (vs:=[Γ t.aw,ov,nv]) hS Xu rfl rfl (JR oo on) λw hS=>?_;refine Gp ?_;have Es:=a_.le_trans cF dG;have hS:=bW.jU (m:={m1 with bz:=m1.bz.p_ t.changes}) Es hS Xr;exact⟨_,⟨⟨t.aw,ov,nv⟩,H3,a_.le_trans bX Es,rfl,⟨rfl,Ta,S_.mono dG⟩,rfl⟩,aR hS⟩
def vU.all{wp:Nat}{k:cL}{H:a_}{mark aw:Int}{u:Ε}{post:Β}(h:vU wp k H mark aw u post):∃(x:gO) (H':a_) (q:Bool) (k':cL),H.le H'/\u= .tuple #[agg (dD x),.bool q]/\post=[.ob (cM wp k'),.mem H']/\(∀v∈dD x,v.oneCell'=true) /\
  ((q=false/\k.high mark aw=(k',none))\/(q=true/\∃t,k.high mark aw=(k',some t)/\gn H' x t)):=by
 unfold vU at h;have e:k.high mark aw=(if k.tW mark aw then (k,none) else (l6 k.n,some ⟨aw,jv k aw,[vE k]⟩)):=rfl;by_cases hb:k.tW mark aw
 ·rw[zzc hb]at e
  rw[e]at h ⊢
  obtain⟨rfl,rfl⟩:=h;exact⟨um,H,false,k,a_.le_refl H,rfl,rfl,by simp[dD,Value.oneCell'],.inl ⟨rfl,rfl⟩⟩
 rw[zzb hb]at e
 rw[e]at h ⊢
 obtain⟨x,H',hh,rfl,hx,rfl⟩:=h;exact⟨x,H',true,_,hh,rfl,rfl,lK hx,.inr ⟨rfl,_,rfl,hx⟩⟩
def bje{k k':cL}{mark aw:Int}{t:bB}(h:k.high mark aw=(k',some t)):t=⟨aw,jv k aw,[vE k]⟩:=by
 unfold cL.high at h;split at h
 ·cases h
 cases h;rfl
def QG(mp wp:Nat)(H:a_)(m:cI)(hm:m.Ok)(x:l_)(t:bD)(hx:lE H x t)(hid : -9223372036854775808<=m.bz.id/\m.bz.id<=9223372036854775807):
  SP 188 [bx mp,agg (eb x)] [.ob (bW mp wp H m),.mem H] (KZ mp wp H (m.high t)):=by
 refine Enzz λW F w hS=>?_;apply bEo;delta bh aW bS bg bk bJ ai bc;have hn:=hm.rows;have CP:=hm.reqs.1;refine zx hS λxb w hS=>?_;unfold eb at hS;rw[hx.aw,hx.mark]at hS
 obtain⟨rv,hr,hS⟩:=bW.iff.1 (SL.bo hS (t:=.ob (bW mp wp H m)::.pt xb [Γ t.aw,Γ x.kind,x.cv,x.sv,Γ t.mark] 151::.mem H::F) Xi);refine Gm λzb w hS=>?_;refine⟨λus w=>∃(yb:Nat) (y:gO) (H1:a_) (q:Bool) (k':cL),us=[bx yb,.bool q]/\H.le H1/\(∀v∈dD y,v.oneCell'=true)/\((q=false/\m.bz.high t.mark t.aw=(k',none))\/(q=true/\∃z,m.bz.high t.mark t.aw=(k',some z)/\gn H1 y z)) /\
   SL W (.pt yb (dD y) 236::.pt zb [Γ 0,Θ,Θ] 236::.pt xb [Γ t.aw,Γ x.kind,x.cv,x.sv,Γ t.mark] 151::.pt mp (xr m wp rv) 110::.ob (cM wp k')::.mem H1::F) w,?_,?_⟩
 ·refine Gn λw hS=>?_;refine⟨?_,?_⟩
  ·refine Cc (Yk wp m.bz H t.mark t.aw (by omega)) ?_;clear hS;rintro _ post hq w hS;obtain⟨y,H1,q,k',bX,rfl,rfl,uj,hc⟩:=hq.all;try simp only[app]at hS
   refine Gm λyb w hS=>?_;refine zr hS Xu rfl rfl uj λw hS=>?_;exact⟨yb,y,H1,q,k',rfl,bX,uj,hc,aR hS⟩
  refine Gb λyb w hS=>?_;refine Cc (Yk wp m.bz H t.mark t.aw (by omega)) ?_;clear hS;rintro _ post hq w hS;obtain⟨y,H1,q,k',bX,rfl,rfl,uj,hc⟩:=hq.all;(try simp only[app]at hS);refine Gp ?_
  refine zr hS Xu rfl rfl uj λw hS=>?_;exact⟨yb,y,H1,q,k',rfl,bX,uj,hc,aR hS⟩
 clear hS;rintro v5 v6 w ⟨yb,y,H1,q,k',bM,bX,uj,hc,hS⟩;cases bM;rcases hc with ⟨rfl,hh⟩|⟨rfl,z,hh,hz⟩
 ·refine z7 (zu ?_);refine Gn λw hS=>?_;have e:m.high t=(m,⟨t.aw,[],[]⟩):=by unfold cI.high;rw[hh]
  have hk:k'=m.bz:=by
   unfold cL.high at hh;split at hh
   ·cases hh;rfl
   cases hh
  subst hk;rw[e];have hS:=bW.put m rv (hr.mono bX) hS Xp;exact⟨_,⟨⟨t.aw,Θ,Θ⟩,H1,bX,rfl,⟨rfl,cn.nil _ _,cn.nil _ _⟩,rfl⟩,aR hS⟩
 refine z7 (zq ?_);have UD:=bje hh;subst UD;have pZ:=hz.aw;have wU:=hz.g_;have T':=hz.ops;have hS:SL W (.pt yb [Γ y.aw,y.ov,y.nv] 236::_) w:=hS;refine Gp ?_;refine zB (j:=0) hS Xh wu wU (x:=vE m.bz) rfl (by simp) ?_;refine Gb λnb w hS=>?_;refine Cc (ZJ H1 rv m.reqs m.bz.id m.bz.cG m.bz.last (hr.mono bX) (by omega) hid) ?_;clear hS;rintro u post ⟨H2,cF,rfl,hq⟩ w hS;try simp only[app]at hS
 have dW:=a_.le_trans bX cF;cases lq:lG m.reqs m.bz.id m.bz.cG m.bz.last with
 | none=>
  rw[lq]at hq
  subst hq;have e:m.high t=({m with bz:=k'},⟨t.aw,jv m.bz t.aw,[]⟩):=by unfold cI.high;rw[hh];simp only;rw[lq]
  rw[e];refine Gp ?_;refine zu ?_;refine Gn λw hS=>?_;have oo:y.ov.oneCell'=true:=T'.one;refine zr (vs:=[Γ y.aw,y.ov,Θ]) hS Xu rfl rfl (JR oo rfl) λw hS=>?_;refine Gp ?_;have hS:=bW.put (mp:=mp) {m with bz:=k'} rv (hr.mono dW) hS Xp;exact⟨_,⟨⟨y.aw,y.ov,Θ⟩,H2,dW,rfl,⟨pZ,T'.mono cF,cn.nil _ _⟩,rfl⟩,aR hS⟩
 | some L=>
  rw[lq]at hq
  obtain⟨rx,rfl,Uj⟩:=hq;have e:m.high t=({m with bz:=k',reqs:=L},⟨t.aw,jv m.bz t.aw,[vE m.bz]⟩):=by unfold cI.high;rw[hh];simp only;rw[lq]
  rw[e];have ox:rx.oneCell'=true:=Uj.one;refine Gp ?_;refine zq ?_;refine Gn λw hS=>?_;refine zr (vs:=[Γ y.aw,y.ov,y.nv]) hS Xu rfl rfl uj λw hS=>?_;refine Gp ?_;have hS:=bW.put (mp:=mp) {m with bz:=k',reqs:=L} rx Uj hS Xp;exact⟨_,⟨y,H2,dW,rfl,hz.mono cF,rfl⟩,aR hS⟩
def K9(mp wp:Nat)(H:a_)(y:cI × (bB × Int))(u:Ε)(post:Β):Prop:=∃(x:gO) (H':a_),H.le H'/\u= .tuple #[agg (dD x),Γ y.2.2]/\gn H' x y.2.1/\post=[.ob (bW mp wp H' y.1),.mem H']
def Z6(mp wp:Nat)(H:a_)(m:cI)(hm:m.Ok)(x:l_)(t:bD)(hx:lE H x t)(hid : -9223372036854775808<=m.bz.id/\m.bz.id<=9223372036854775807):
  SP 131 [bx mp,agg (eb x)] [.ob (bW mp wp H m),.mem H] (K9 mp wp H (m.take t)):=by
 refine Enzz λW F w hS=>?_;apply bC4;delta aI bh aW bS bk bJ ai bc;have gx:=hm.lF;refine zx hS λxb w hS=>?_;refine Gm λzb w hS=>?_;refine Cg (zY H x t hx) λw hS=>?_;unfold cI.take;refine zw (λh=>?_) (λh=>?_)
 ·rw[zzc h];refine Gn λw hS=>?_;exact⟨_,⟨um,H,a_.le_refl H,rfl,⟨rfl,cn.nil _ _,cn.nil _ _⟩,rfl⟩,aR hS⟩
 rw[zzb (by simp[h])];obtain⟨m1,m2,m3,m4,m5,m6,m7⟩:=kr h;have hl:=hx.aw;have hk:=hx.kind;have AB:=hx.mark;obtain⟨rv,hr,hS⟩:=bW.iff.1 (SL.bo hS (t:=.ob (bW mp wp H m)::.pt zb [Γ 0,Θ,Θ] 236::.pt xb (eb x) 151::.mem H::F) Xi);refine Gn λw hS=>?_;rw[hl];have Fb:∀{w:Ζ},(t.aw≠m.at_+1\/m.bz.waits t.kind t.mark=true)->SL W (.pt mp (xr m wp rv) 110::.ob (cM wp m.bz)::.mem H::F) w->∃post,K9 mp wp H (if t.aw≠m.at_+1\/m.bz.waits t.kind t.mark=true then (m,(⟨0,[],[]⟩,10))
   else if t.kind=1 then let r:=({m with at_:=t.aw}:cI).xY t;(r.1,(r.2,0))
   else if t.kind=3 then let r:=({m with at_:=t.aw}:cI).high t;(r.1,(r.2,0))
   else ({m with at_:=t.aw,bz:=m.bz.low t.mark},(⟨t.aw,[],[]⟩,0))) (.tuple #[agg (dD um),Γ 10]) post/\SL W (app post F) w:=λh hS=>by
  rw[zzc h];have hS:=bW.put m rv hr hS Xp;exact⟨_,⟨um,H,a_.le_refl H,rfl,⟨rfl,cn.nil _ _,cn.nil _ _⟩,rfl⟩,aR hS⟩
 refine za (λh1=>?_) (λh1=>?_)
 ·refine Gn λw hS=>?_;exact Fb (.inl h1) (aR hS)
 refine Gp ?_;refine yh (vs:=[bx wp]) hS Xh rfl (λj v e=>by
  match j,e with
  | 0,e=>exact e) ?_
 refine Gp ?_;refine Cg (ZI wp m.bz x) λw hS=>?_;rw[hk,AB];refine yJ (λh2=>?_) (λh2=>?_)
 ·refine Gn λw hS=>?_;exact Fb (.inr h2) (aR hS)
 clear Fb;rw[zzb (show ¬(t.aw≠m.at_+1\/m.bz.waits t.kind t.mark=true) by rw[h2];simp;omega)];refine Gn λw hS=>?_;rw[hl]at hS
 have hS:SL W (.pt mp (xr {m with at_:=t.aw} wp rv) 110::.ob (cM wp m.bz)::.pt zb [Γ 0,Θ,Θ] 236::.pt xb (eb x) 151::.mem H::F) w:=aR hS;have bC:({m with at_:=t.aw}:cI).Ok:=⟨hm.reqs,hm.t1,hm.rows,by show 0<=t.aw/\t.aw<=1099511627776;omega⟩;rw[hk];refine za (λh3=>?_) (λh3=>?_)
 ·rw[zzc h3];have hS:=bW.put (mp:=mp) {m with at_:=t.aw} rv hr hS Xp;refine Gp ?_;refine Cc (YY mp wp H {m with at_:=t.aw} bC x t hx m5 m7 m4) ?_;clear hS;rintro _ post ⟨y,H1,bX,rfl,hy,rfl⟩ w hS;try simp only[app]at hS
  refine zr hS Xu rfl rfl (lK hy) λw hS=>?_;refine Gp ?_;exact⟨_,⟨y,H1,bX,rfl,hy,rfl⟩,aR hS⟩
 rw[zzb h3];refine bj (λh4=>?_) (λh4=>?_)
 ·rw[zzc h4];have hS:=bW.put (mp:=mp) {m with at_:=t.aw} rv hr hS Xp;refine Gp ?_;refine Cc (QG mp wp H {m with at_:=t.aw} bC x t hx hid) ?_;clear hS;rintro _ post ⟨y,H1,bX,rfl,hy,rfl⟩ w hS;try simp only[app]at hS
  refine zr hS Xu rfl rfl (lK hy) λw hS=>?_;refine Gp ?_;exact⟨_,⟨y,H1,bX,rfl,hy,rfl⟩,aR hS⟩
 rw[zzb h4];refine Gn λw hS=>?_;rw[AB];refine Cc (bKi wp m.bz t.mark) ?_;clear hS;rintro _ post ⟨⟨q,rfl⟩,rfl⟩ w hS;refine Gn λw hS=>?_;rw[hl];have hS:=bW.put (mp:=mp) (wp:=wp) {m with at_:=t.aw,bz:=m.bz.low t.mark} rv hr hS Xp;exact⟨_,⟨⟨t.aw,Θ,Θ⟩,H,a_.le_refl H,rfl,⟨rfl,cn.nil _ _,cn.nil _ _⟩,rfl⟩,aR hS⟩
def nZ(m:Int × Int):Ξ:=[Γ m.2,Γ m.1]
def y_(m:Int × Int):(nZ m).length=2:=rfl
def Sk(m:Int × Int):∀v∈nZ m,v.oneCell'=true:=by simp[nZ,Value.oneCell']
structure GD(d:cH)(a:Nat)(mB:Bool)(lf:Int):Prop where
 t:mB=true->d.at_=a/\d.left=lf/\a<d.l.length
 f:mB=false->d.at_=(a:Int)-1/\d.left=0/\a<=d.l.length
structure DE where
 v:Ε
 a:Nat
 mB:Bool
 lf:Int
abbrev uu(x:DE):Ξ:=[x.v,Γ x.a,.bool x.mB,Γ x.lf]
abbrev sy(v:Ε)(l:List (Int × Int)):Μ:=.ob (bd v 379 2 l.length (l.map nZ).flatten)
def eH(p:Nat)(d:cH):zC:=iX λx:DE=>zF (GD d x.a x.mB x.lf) [.pt p (uu x) 366,sy x.v d.l]
def eH.iff{W w:Ζ}{l:Β}{p:Nat}{d:cH}:SL W (.ob (eH p d)::l) w↔∃x:DE,GD d x.a x.mB x.lf/\SL W (.pt p (uu x) 366::sy x.v d.l::l) w:=by
 unfold eH;simp only[SL.ex,SL.fact,zzn,zzo]
def eH.A4{W w:Ζ}{l F:Β}{p:Nat}{d:cH}(v:Ε)(a:Nat)(mB:Bool)(lf:Int)(h:GD d a mB lf)(hS:SL W l w)(k:fK [.pt p [v,Γ a,.bool mB,Γ lf] 366,sy v d.l] l F):SL W (.ob (eH p d)::F) w:=eH.iff.2 ⟨⟨v,a,mB,lf⟩,h,hS.pick k⟩
def bcl:SP 170 [] [] (λv post=>∃p:Nat,v= Δ p/\post=[.ob (eH p wk)]):=by
 refine Enzz λW F w hS=>?_;apply bD7;delta ai bc;refine yW rfl ?_;refine⟨_,rfl,zD hS λp w hS=>?_⟩;have hS:SL W (sy Θ []::.pt p (uu ⟨Θ,0,false,0⟩) 366::F) w:=bd.nil hS;exact⟨_,⟨p,rfl,rfl⟩,SL.bo (eH.A4 (d:=wk) Θ 0 false 0 ⟨(λh=>by cases h),λ_=>⟨rfl,rfl,zzj _⟩⟩ hS Xp) Xi⟩
def YV(b:Nat)(id:Int)(m:Int × Int):SP 325 [agg (nZ m),Δ b] [.pt b [Γ id] 3] (bA (.bool (decide (m.1=id))) [.pt b [Γ id] 3]):=by
 refine Enzz λW F w hS=>?_;apply bH0;delta aW;refine zx hS λxb w hS=>?_;unfold nZ at hS;refine Gp ?_;(exact bw hS)
def ZF(p:Nat)(x:DE)(l:List (Int × Int))(id:Int)(hn:l.length<=1000):
  SP 292 [Δ p,Γ id] [.pt p (uu x) 366,sy x.v l] (bA (Γ (km (l.findIdx? λm=>decide (m.1=id)))) [.pt p (uu x) 366,sy x.v l]):=by
 refine Enzz λW F w hS=>?_;apply bHd;delta bh;refine⟨rfl,zD hS λb w hS=>?_⟩;unfold uu at hS;refine Gp ?_;have hC:=Jf (t:=379) y_ rfl (λv0 v1 w R h=>bHz v0 v1 w R h) (λm=>YV b id m) x.v l (by omega);simp only[zzn,zzo]at hC;refine Cg (hC) λw hS=>?_;(exact bw hS)
def a_t(p:Nat)(d:cH)(id weight:Int)(hn:d.l.length<=1000):SP 250 [Δ p,Γ id,Γ weight] [.ob (eH p d)] (λv post=>(∃e:Int,v= Γ e)/\post=[.ob (eH p (d.add id weight))]):=by
 refine Enzz λW F w hS=>?_;apply bGc;delta aI bh bS ai;have eF:∀{e:Int} {w:Ζ},(id<1\/64<id\/weight<1\/8<weight)->SL W (.ob (eH p d)::F) w->∃post,((∃e':Int,Γ e= Γ e')/\post=[.ob (eH p (d.add id weight))])/\SL W (app post F) w:=λh hS=>by
  rw[show d.add id weight=d by unfold cH.add;rw[zzc h]];exact⟨_,⟨⟨_,rfl⟩,rfl⟩,hS⟩
 refine Gp ?_;refine za (λh=>eF (by omega) hS) (λh1=>?_);refine Gp ?_;refine za (λh=>eF (by omega) hS) (λh2=>?_);refine Gp ?_;refine za (λh=>eF (by omega) hS) (λh3=>?_);refine Gp ?_;refine za (λh=>eF (by omega) hS) (λh4=>?_);clear eF;obtain⟨x,hr,hS⟩:=eH.iff.1 hS;refine Cg (ZF p x d.l id hn) λw hS=>?_;have ha:d.add id weight=match AP d id with|some _=>d|none=>{d with l:=d.l++[(id,weight)]}:=by
  unfold cH.add;rw[zzb (by omega)];rfl
 rw[ha];unfold AP;cases hf:d.l.findIdx? (λm=>decide (m.1=id)) with
 | some i=>
  refine za (λ_=>?_) (λh=>by simp only[km]at h;omega);exact⟨_,⟨⟨_,rfl⟩,rfl⟩,eH.iff.2 ⟨x,hr,aR hS⟩⟩
 | none=>
  refine za (λh=>by simp only[km]at h;omega) (λ_=>?_);unfold uu at hS;refine Gm λb w hS=>?_;refine yf (n:=d.l.length) (xs:=d.l) (y:=(id,weight)) (enc:=nZ) hS Xr Xh y_ Sk rfl (by omega) (by omega) λv2 w hS=>?_;have hS:=hS.nf (x:=(id,weight));have o1:v2.oneCell'=true:=bd.one hS;refine Gn λw hS=>?_;refine⟨_,⟨⟨_,rfl⟩,rfl⟩,SL.bo (eH.A4 (d:={d with l:=d.l++[(id,weight)]}) v2 x.a x.mB x.lf ⟨λh=>?_,λh=>?_⟩ hS Xp) Xi⟩
  ·have:=hr.t h;exact⟨this.1,this.2.1,by show x.a<(d.l++[_]).length;rw[zza];omega⟩
  have:=hr.f h;exact⟨this.1,this.2.1,by show x.a<=(d.l++[_]).length;rw[zza];omega⟩
def a_v(p:Nat)(d:cH)(id:Int)(hn:d.l.length<=1000):SP 249 [Δ p,Γ id] [.ob (eH p d)] (λv post=>(∃e:Int,v= Γ e)/\post=[.ob (eH p (d.del id))]):=by
 refine Enzz λW F w hS=>?_;apply bGa;delta aI bh bS ai;obtain⟨x,hr,hS⟩:=eH.iff.1 hS;refine Cg (ZF p x d.l id hn) λw hS=>?_;unfold cH.del AP;cases hf:d.l.findIdx? (λm=>decide (m.1=id)) with
 | none=>
  refine za (λ_=>?_) (λh=>by simp only[km]at h;omega);exact⟨_,⟨⟨_,rfl⟩,rfl⟩,eH.iff.2 ⟨x,hr,aR hS⟩⟩
 | some i=>
  have hi:i<d.l.length:=(yym.1 hf).1;have hxa:x.a<=d.l.length:=by
   cases ht:x.mB with
   | true=>have:=hr.t ht;omega
   | false=>exact (hr.f ht).2.2
  simp only[km];refine Χ ?_;unfold uu at hS;refine Gp ?_;refine Cc (Hx (sz:=2) (gb:=16) (z:=[Γ 0,Γ 0]) (zv:=.agg #[Γ 0,Γ 0]) (λv0 v1 v2 w R h=>bHe v0 v1 v2 w R h) underlying364 (λw=>by kernel_rfl) rfl rfl (by simp[Value.oneCell']) x.v d.l.length i (d.l.map nZ).flatten hi (tc Sk _) (by omega) (by omega)) ?_;clear hS;rintro v post rfl w hS;try simp only[app]at hS
  have ef:List.take (i*2) (d.l.map nZ).flatten++List.drop ((i+1)*2) (d.l.map nZ).flatten=((d.l.eraseIdx i).map nZ).flatten:=by
   rw[sM y_,uZ y_,List.eraseIdx_eq_take_drop_succ];simp
  have el:d.l.length-1=(d.l.eraseIdx i).length:=by rw[uuj,zzc hi]
  rw[ef,el]at hS
  have o1:v.oneCell'=true:=bd.one hS;refine Gn λw hS=>?_;refine za (λh1=>?_) (λh1=>?_)
  ·refine Gn λw hS=>?_;have hx:((x.a:Int)-1)=((x.a-1:Nat):Int):=by omega
   rw[hx]at hS
   refine⟨_,⟨⟨_,rfl⟩,rfl⟩,SL.bo (eH.A4 (d:=⟨d.l.eraseIdx i,if (i:Int)<=d.at_ then d.at_-1 else d.at_,if (i:Int)=d.at_ then 0 else d.left⟩) v (x.a-1) x.mB x.lf ⟨λh=>?_,λh=>?_⟩ hS Xp) Xi⟩
   ·obtain⟨h2,h3,h4⟩:=hr.t h;refine⟨?_,?_,by show x.a-1<(d.l.eraseIdx i).length;omega⟩
    ·show (if (i:Int)<=d.at_ then d.at_-1 else d.at_)=_;rw[zzc (by omega)];omega
    show (if (i:Int)=d.at_ then 0 else d.left)=_;rw[zzb (by omega)];exact h3
   obtain⟨h2,h3,h4⟩:=hr.f h;refine⟨?_,?_,by show x.a-1<=(d.l.eraseIdx i).length;omega⟩
   ·show (if (i:Int)<=d.at_ then d.at_-1 else d.at_)=_;rw[zzc (by omega)];omega
   show (if (i:Int)=d.at_ then 0 else d.left)=_;rw[h3];simp
  refine bj (λh2=>?_) (λh2=>?_)
  ·refine Gn λw hS=>?_;refine⟨_,⟨⟨_,rfl⟩,rfl⟩,SL.bo (eH.A4 (d:=⟨d.l.eraseIdx i,if (i:Int)<=d.at_ then d.at_-1 else d.at_,if (i:Int)=d.at_ then 0 else d.left⟩) v x.a false x.lf ⟨(λh=>by cases h),λ_=>?_⟩ hS Xp) Xi⟩;cases ht:x.mB with
   | true=>
    obtain⟨h3,h4,h5⟩:=hr.t ht;refine⟨?_,?_,by show x.a<=(d.l.eraseIdx i).length;omega⟩
    ·show (if (i:Int)<=d.at_ then d.at_-1 else d.at_)=_;rw[zzc (by omega)];omega
    show (if (i:Int)=d.at_ then 0 else d.left)=_;rw[zzc (by omega)]
   | false=>
    obtain⟨h3,h4,h5⟩:=hr.f ht;refine⟨?_,?_,by show x.a<=(d.l.eraseIdx i).length;omega⟩
    ·show (if (i:Int)<=d.at_ then d.at_-1 else d.at_)=_;rw[zzb (by omega)];omega
    show (if (i:Int)=d.at_ then 0 else d.left)=_;rw[h4];simp
  refine⟨_,⟨⟨_,rfl⟩,rfl⟩,SL.bo (eH.A4 (d:=⟨d.l.eraseIdx i,if (i:Int)<=d.at_ then d.at_-1 else d.at_,if (i:Int)=d.at_ then 0 else d.left⟩) v x.a x.mB x.lf ⟨λh=>?_,λh=>?_⟩ hS Xp) Xi⟩
  ·obtain⟨h3,h4,h5⟩:=hr.t h;refine⟨?_,?_,by show x.a<(d.l.eraseIdx i).length;omega⟩
   ·show (if (i:Int)<=d.at_ then d.at_-1 else d.at_)=_;rw[zzb (by omega)];exact h3
   show (if (i:Int)=d.at_ then 0 else d.left)=_;rw[zzb (by omega)];exact h4
  obtain⟨h3,h4,h5⟩:=hr.f h;refine⟨?_,?_,by show x.a<=(d.l.eraseIdx i).length;omega⟩
  ·show (if (i:Int)<=d.at_ then d.at_-1 else d.at_)=_;rw[zzb (by omega)];exact h3
  show (if (i:Int)=d.at_ then 0 else d.left)=_;rw[h4];simp
def Qt(p:Nat)(d:cH)(hd:d.Ok)(hn:d.l.length<=1000):SP 193 [Δ p] [.ob (eH p d)] (λv post=>v= .tuple #[Γ d.next.2,.bool (decide (d.l≠[]))]/\post=[.ob (eH p d.next.1)]):=by
 refine Enzz λW F w hS=>?_;apply bEu;delta aI bh aW bS bJ ai;have gx:=hd.oQ;have hl8:=hd.Fz;have pR:=hd.Fy;obtain⟨x,hr,hS⟩:=eH.iff.1 hS;unfold uu at hS;refine Gp ?_;refine zy hS (v:=x.v) (t:=379) (sz:=2) (n:=d.l.length) (cells:=(d.l.map nZ).flatten) Xh ?_;refine bj (λh=>?_) (λh=>?_)
 ·have he:d.l=[]:=zzl (by omega);have e:d.next=(d,0):=by unfold cH.next;rw[zzc he]
  rw[e,zzx (by simp[he])];exact⟨_,⟨rfl,rfl⟩,eH.iff.2 ⟨x,hr,aR hS⟩⟩
 have cY:d.l≠[]:=λe=>h (by rw[e];rfl);have dm:0<=d.place/\d.place<d.l.length:=by
  unfold cH.place;have:=hd.neg;have:=hd.lF;split
  ·split<;>omega
  omega
 obtain⟨j,hj⟩:∃j:Nat,d.place=j:=⟨d.place.toNat,by omega⟩;have fY:j<d.l.length:=by omega
 have wQ:d.l[j]?=some d.ly:=by
  unfold cH.ly;rw[hj,zzw,zzd fY];rfl
 have hw:=hd.w _ (xxu wQ);refine⟨λus w=>∃(a:Nat) (t:Bool) (lf:Int),us=[]/\((t=true/\lf=d.left/\d.left≠0/\(a:Int)=d.at_)\/(t=false/\(a:Int)=d.at_+1/\d.left=0))/\SL W (.pt p [x.v,Γ a,.bool t,Γ lf] 366::sy x.v d.l::F) w,?_,?_⟩
 ·refine Gp ?_;refine yJ (λht=>?_) (λht=>?_)
  ·obtain⟨h3,h4,h5⟩:=hr.t ht;refine bj (λh0=>?_) (λh0=>?_)
   ·refine Gn λw hS=>?_;exact⟨x.a+1,false,x.lf,rfl,.inr ⟨rfl,by omega,by omega⟩,aR hS⟩
   exact⟨x.a,true,x.lf,rfl,.inl ⟨rfl,h4.symm,by omega,h3.symm⟩,by rw[<- ht];exact aR hS⟩
  obtain⟨h3,h4,h5⟩:=hr.f ht;exact⟨x.a,false,x.lf,rfl,.inr ⟨rfl,by omega,h4⟩,by rw[<- ht];exact aR hS⟩
 clear hS;rintro w ⟨a,t,lf,-,hc,hS⟩;refine⟨λus w=>us=[]/\SL W (.pt p [x.v,Γ j,.bool true,Γ (if d.left=0 then d.ly.2 else d.left)] 366::sy x.v d.l::F) w,?_,?_⟩
 ·refine Gp ?_;rcases hc with ⟨rfl,rfl,gf,ll⟩|⟨rfl,gf,ll⟩
  ·refine zq ?_;have e:d.place=d.at_:=by unfold cH.place;rw[zzb gf]
   have:a=j:=by omega
   subst this;rw[zzb gf];exact⟨rfl,aR hS⟩
  refine zu ?_;refine⟨λus w=>us=[]/\SL W (.pt p [x.v,Γ j,.bool false,Γ lf] 366::sy x.v d.l::F) w,?_,?_⟩
  ·refine Gn λw hS=>?_;refine zy hS (v:=x.v) (t:=379) (sz:=2) (n:=d.l.length) (cells:=(d.l.map nZ).flatten) Xh ?_;refine Gp ?_;have e:d.place=if (d.l.length:Int)<=d.at_+1 then 0 else d.at_+1:=by unfold cH.place;rw[zzc ll]
   refine za (λh0=>?_) (λh0=>?_)
   ·rw[zzc (by omega)]at e
    have:j=0:=by omega
    subst this;refine Gn λw hS=>?_;have hS:SL W (.pt p [x.v,Γ ((0:Nat):Int),.bool false,Γ lf] 366::sy x.v d.l::F) w:=hS;exact aR hS
   rw[zzb (by omega)]at e
   have:a=j:=by omega
   subst this;exact⟨rfl,aR hS⟩
  clear hS;rintro w ⟨-,hS⟩;refine Gn λw hS=>?_;obtain⟨fa,fc,Uz,_,hfx⟩:=bd.at hS (v:=x.v) (t:=379) (sz:=2) (n:=d.l.length) (cells:=(d.l.map nZ).flatten) Xh;obtain⟨fb,rfl,hfc⟩:=hfx j fY;rw[Uz];refine zI fY (yI (yI ?_));have mR:=hfc _ _ (pM y_ d.l j 0 d.ly (Γ d.ly.2) wQ rfl);refine⟨_,_,rfl,by rw[yyd];exact mR,?_⟩;refine Gn λw hS=>?_;rw[zzc ll,<- Uz];exact aR hS
 clear hS hc;rintro w ⟨-,hS⟩;refine Gn λw hS=>?_;refine yw (i:=1) hS (v:=x.v) (t:=379) Xh y_ wQ fY (u:=Γ d.ly.1) rfl ?_;have e:d.next=(⟨d.l,d.place,(if d.left=0 then d.ly.2 else d.left)-1⟩,d.ly.1):=by unfold cH.next;rw[zzb cY]
 rw[e,zzm cY];exact⟨_,⟨rfl,rfl⟩,SL.bo (eH.A4 (d:=⟨d.l,d.place,(if d.left=0 then d.ly.2 else d.left)-1⟩) x.v j true ((if d.left=0 then d.ly.2 else d.left)-1) ⟨λ_=>⟨hj,rfl,fY⟩,(λh=>by cases h)⟩ hS Xp) Xi⟩
def bob(kind mark:Int):gT [Γ 0,Γ 0,Θ,Θ,Γ 0] [(0,1,Γ 1),(1,1,Γ kind),(4,1,Γ mark)]=some (eb ⟨1,kind,Θ,Θ,mark⟩):=by simp[gT,Value.cells,eb]
def Yh(sp tp dp lp:Nat)(k:bQ)(H:a_)(kind mark:Int){N:Nat}(hk:iP k N)(hN:N<=1000000000)(cZ:k.d.ops<=90000):
  SP 194 [bx sp,Γ kind,Γ mark] [.ob (b8 sp tp dp lp k),.ob (bm dp k.d),.mem H] (xE sp tp dp lp H (k.mv kind mark)):=by
 refine Enzz λW F w hS=>?_;apply bEv;delta aI bJ GW ai bc;have hx:lE H ⟨1,kind,Θ,Θ,mark⟩ ⟨1,kind,[],[],mark⟩:=⟨rfl,rfl,rfl,cn.nil _ _,cn.nil _ _⟩;have eF:∀{w:Ζ},¬((kind=2\/kind=3)/\c_ ⟨1,kind,[],[],mark⟩=true)->SL W (.ob (b8 sp tp dp lp k)::.ob (bm dp k.d)::.mem H::F) w->∃post,xE sp tp dp lp H (k.mv kind mark) (.tuple #[Γ 0,Γ 1]) post/\SL W (app post F) w:=λh hS=>by
  rw[show k.mv kind mark=(k,(0,1)) from zzb h];exact⟨_,⟨rfl,rfl⟩,hS⟩
 refine yW (bob kind mark) ?_;refine Gb λxb w hS=>?_;have EV:∀{w:Ζ},(kind=2\/kind=3)->SL W (.pt xb (eb ⟨1,kind,Θ,Θ,mark⟩) 151::.ob (b8 sp tp dp lp k)::.ob (bm dp k.d)::.mem H::F) w->zf 5 (bx xb) w λKB=>aF 76 [KB] w λv20 DB=>y7 v20 λv21=>cB v21 (∃post,xE sp tp dp lp H (k.mv kind mark) (.tuple #[Γ 0,Γ 1]) post/\SL W (app post F) DB)
   (zf 5 (bx xb) DB λv24=>aF 79 [bx sp,v24] DB λv25 w_4=>ze 0 v25 λv26=>ze 1 v25 λv27=>∃post,xE sp tp dp lp H (k.mv kind mark) (.tuple #[v26,v27]) post/\SL W (app post F) w_4):=λh2 hS=>by
  refine zz hS Xh rfl ?_;refine Cg (zY H ⟨1,kind,Θ,Θ,mark⟩ ⟨1,kind,[],[],mark⟩ hx) λw hS=>?_;refine zw (λh=>eF (λx=>by rw[x.2]at h;cases h) (aR hS)) (λh=>?_);rw[show k.mv kind mark=k.fL ⟨1,kind,[],[],mark⟩ from zzc ⟨h2,h⟩];refine zz hS Xh rfl ?_;refine Cg (YO sp tp dp lp k H ⟨1,kind,Θ,Θ,mark⟩ ⟨1,kind,[],[],mark⟩ hx h hk hN cZ) λw hS=>?_;exact bw hS
 refine za (λh=>?_) (λh=>EV (.inl (by omega)) (aR hS));refine Gp ?_;exact za (λh2=>eF (λx=>by omega) (aR hS)) (λh2=>EV (.inr (by omega)) (aR hS))
abbrev py(v:Ε)(l:List Rq):Μ:=.ob (bd v 295 7 l.length (l.map gS).flatten)
def brr{L:List Rq}{i:Nat}(h:i<L.length):je (L.take (i+1))=je (L.take i)++(if L[i].done=false then [L[i]] else []):=by
 unfold je;rw[zze h,xxj,xx7];cases L[i].done<;>simp
def JV(L:List Rq)(i:Nat):(je (L.take i)).length<=L.length:=by
 have:=yy7 (λr:Rq=>!r.done) (L.take i);rw[zzf]at this
 unfold je;omega
def ZN(v:Ε)(L:List Rq)(hn:L.length<=1000):SP 183 [v] [py v L] (λu post=>post=[py u (je L),py v L]):=by
 refine Enzz λW F w hS=>?_;apply bEj;delta aI aW bJ ai bc;refine zy hS (v:=v) (t:=295) (sz:=7) (n:=L.length) (cells:=(L.map gS).flatten) Xh ?_;have hS:SL W (py Θ []::_) w:=bd.nil hS;refine⟨λus w=>∃(i:Nat) (u:Ε),us=[u,Γ i]/\i<=L.length/\SL W (py u (je (L.take i))::py v L::F) w,λus _=>match us with|[_,.int _ i]=>(L.length-i).toNat|_=>0,⟨0,Θ,rfl,by omega,hS⟩,?_⟩;clear hS;rintro v3 v8 w ⟨i,u,bM,hi,hS⟩;cases bM;refine bj (λh=>?_) (λh=>?_)
 ·have bn:i<L.length:=by omega
  have hx:L[i]?=some L[i]:=zzd bn;have dY:=brr bn;have hle:=JV L i;refine zX hS (v:=v) (t:=295) Xh nC hx bn ?_;generalize L[i]=r at *
  refine Gb λxb w hS=>?_;refine zw (λhd=>?_) (λhd=>?_)
  ·rw[zzc hd]at dY
   refine zz hS Xh rfl ?_;refine Gm λyb w hS=>?_;refine yf (n:=(je (L.take i)).length) (xs:=je (L.take i)) (y:=r) (enc:=gS) hS Xr Xh nC Eg rfl (by omega) (by omega) λv2 w hS=>?_;have hS:=hS.nf (x:=r);rw[<- dY]at hS
   refine Gp ?_;exact⟨⟨i+1,v2,rfl,by omega,aR hS⟩,by dsimp only;omega⟩
  rw[zzb (by simp[hd]),zz3]at dY
  rw[<- dY]at hS
  refine Gp ?_;exact⟨⟨i+1,v3,rfl,by omega,aR hS⟩,by dsimp only;omega⟩
 rw[zzz (by omega)]at hS
 exact⟨_,rfl,aR hS⟩
abbrev iV(sp mp wp gp:Nat)(n:Int):Ξ:=[bx sp,bx mp,bx wp,bx gp,Γ n]
def Q4(sp mp wp:Nat)(H:a_)(m:cI)(n:Int):SP 117 [bx sp,bx mp,Γ n] [.ob (bW mp wp H m)] (λv post=>(¬(1<=n/\n<=64)/\v= .tuple #[.pointer none,Γ 1]/\post=[.ob (bW mp wp H m)]) \/
  ((1<=n/\n<=64)/\∃pp gp:Nat,v= .tuple #[bx pp,Γ 0]/\post=[.pt pp (iV sp mp wp gp n) 243,.ob (eH gp wk),.ob (bW mp wp H m)])):=by
 refine Enzz λW F w hS=>?_;apply bCq;delta aI bk ai bT;refine Gp ?_;refine za (λh=>⟨_,.inl ⟨by omega,rfl,rfl⟩,hS⟩) (λh1=>?_);refine Gp ?_;refine za (λh=>⟨_,.inl ⟨by omega,rfl,rfl⟩,hS⟩) (λh2=>?_);obtain⟨rv,hr,hS⟩:=bW.iff.1 hS;refine Gp ?_;refine yh (vs:=[bx wp]) hS Xh rfl (λj v e=>by
  match j,e with
  | 0,e=>exact e) ?_
 refine Cg (YH wp) λw hS=>?_;refine Cc (bcl) ?_;clear hS;rintro _ post ⟨gp,rfl,rfl⟩ w hS;(try simp only[app]at hS);refine Gp ?_
 refine⟨_,rfl,zD hS λpp w hS=>?_⟩;have hS:=bW.put m rv hr hS Xp;exact⟨_,.inr ⟨by omega,pp,gp,rfl,rfl⟩,aR hS⟩
def Zp(sp mp wp pp gp:Nat)(n:Int)(H:a_)(m:cI)(hn:m.reqs.length<=1000):SP 125 [bx pp] [.pt pp (iV sp mp wp gp n) 243,.ob (bW mp wp H m),.mem H] (bA (.bool (Dm m)) [.pt pp (iV sp mp wp gp n) 243,.ob (bW mp wp H m),.mem H]):=by
 refine Enzz λW F w hS=>?_;apply bCy;delta aI bh br ai;unfold Dm;refine Gp ?_;obtain⟨rv,hr,hS⟩:=bW.iff.1 (SL.bo hS (t:=.ob (bW mp wp H m)::.pt pp (iV sp mp wp gp n) 243::.mem H::F) Xi);refine Cg (yZ wp m.bz) λw hS=>?_;have hS:=bW.put m rv hr hS Xp;refine za (λh=>?_) (λh1=>?_)
 ·rw[zzm (.inl h)];exact bw hS
 refine bj (λh=>?_) (λh2=>?_)
 ·rw[zzm (.inr (.inl h))];exact bw hS
 refine bj (λh3=>?_) (λh3=>?_)
 ·refine Gp ?_;refine Cc (yM mp wp H m hn) ?_;clear hS;rintro u post rfl w hS;try simp only[app]at hS
  refine Cc (ZN u m.reqs hn) ?_;clear hS;rintro u2 post rfl w hS;try simp only[app]at hS
  refine zy hS (v:=u2) (t:=295) (sz:=7) (n:=(je m.reqs).length) (cells:=((je m.reqs).map gS).flatten) Xh ?_;refine Gp ?_;have e:decide (m.bz.state=1\/m.bz.state=2\/m.bz.state=0/\je m.reqs≠[])=decide ((0:Int)<((je m.reqs).length:Int)):=by
   rw[yye];constructor
   ·rintro (h|h|h)
    ·exact absurd h h1
    ·exact absurd h h2
    have:=wwz.2 h.2;omega
   intro h;exact .inr (.inr ⟨h3,λe=>by rw[e]at h;simp at h⟩)
  rw[e];exact bw hS
 rw[zzx (λh=>h.elim h1 (λh=>h.elim h2 (λh=>h3 h.1)))];exact bw hS
def a_u(d:cH)(id:Int):(d.del id).l.length<=d.l.length:=by
 unfold cH.del;split
 ·exact zzj _
 exact List.length_eraseIdx_le ..
def a_s(d:cH)(id w:Int):(d.add id w).l.length<=d.l.length+1:=by
 unfold cH.add;split
 ·omega
 split
 ·omega
 simp
def Ec:∀(L:List Rq) (d:cH),(L.foldl (λd r=>d.del r.id) d).l.length<=d.l.length
 | [],d=>zzj _
 | r::L,d=>yy1 (Ec L (d.del r.id)) (a_u d r.id)
def G_:∀(L:List Rq) (d:cH),(L.foldl (λd r=>d.add r.id r.weight) d).l.length<=d.l.length+L.length
 | [],d=>zzj _
 | r::L,d=>by
  have h1:=G_ L (d.add r.id r.weight);have h2:=a_s d r.id r.weight;rw[xxo,zzi];omega
def bco{L:List Rq}{i:Nat}(h:i<L.length):(L.take (i+1)).filter (·.done)=(L.take i).filter (·.done)++(if L[i].done=true then [L[i]] else []):=by
 rw[zze h,xxj,xx7];cases L[i].done<;>simp
def Q5(sp mp wp pp gp:Nat)(n:Int)(H:a_)(m:cI)(d:cH)(hn:m.reqs.length<=64)(hd:d.l.length<=500):SP 192 [bx pp] [.pt pp (iV sp mp wp gp n) 243,.ob (eH gp d),.ob (bW mp wp H m),.mem H] (λv post=>post=[.pt pp (iV sp mp wp gp n) 243,.ob (eH gp (lz d m.reqs)),.ob (bW mp wp H m),.mem H]):=by
 refine Enzz λW F w hS=>?_;apply bEt;delta aI bh aW ai;refine Gp ?_;refine Cc (yM mp wp H m (by omega)) ?_;clear hS;rintro u post rfl w hS;try simp only[app]at hS
 refine zy hS (v:=u) (t:=295) (sz:=7) (n:=m.reqs.length) (cells:=(m.reqs.map gS).flatten) Xh ?_;refine⟨λus w=>∃i:Nat,us=[Γ i]/\i<=m.reqs.length/\SL W (.ob (eH gp (((m.reqs.take i).filter (·.done)).foldl (λd r=>d.del r.id) d))::py u m.reqs::.ob (bW mp wp H m)::.mem H::.pt pp (iV sp mp wp gp n) 243::F) w,λus _=>match us with|[.int _ i]=>(m.reqs.length-i).toNat|_=>0,⟨0,rfl,by omega,SL.bo hS (t:=.ob (eH gp d)::py u m.reqs::.ob (bW mp wp H m)::.mem H::.pt pp (iV sp mp wp gp n) 243::F) Xi⟩,?_⟩;clear hS;rintro v12 w ⟨i,bM,hi,hS⟩;cases bM;refine bj (λh=>?_) (λh=>?_)
 ·have bn:i<m.reqs.length:=by omega
  have hx:m.reqs[i]?=some m.reqs[i]:=zzd bn;have dY:=bco bn;have hle:=Ec ((m.reqs.take i).filter (·.done)) d;refine zX hS (v:=u) (t:=295) Xh nC hx bn ?_;generalize m.reqs[i]=r at *
  refine Gb λxb w hS=>?_;refine yJ (λhq=>?_) (λhq=>?_)
  ·rw[zzc hq]at dY
   refine Gn λw hS=>?_;refine Cc (a_v gp (((m.reqs.take i).filter (·.done)).foldl (λd r=>d.del r.id) d) r.id (by omega)) ?_;clear hS;rintro _ post ⟨⟨e,rfl⟩,rfl⟩ w hS;(try simp only[app]at hS);refine Gp ?_
   refine⟨⟨i+1,rfl,by omega,?_⟩,by dsimp only;omega⟩;rw[dY,wwe];exact SL.bo hS (t:=.ob (eH gp ((((m.reqs.take i).filter (·.done)).foldl (λd r=>d.del r.id) d).del r.id))::py u m.reqs::.ob (bW mp wp H m)::.mem H::.pt pp (iV sp mp wp gp n) 243::F) Xi
  rw[zzb (by simp[hq]),zz3]at dY
  rw[<- dY]at hS
  refine Gp ?_;exact⟨⟨i+1,rfl,by omega,aR hS⟩,by dsimp only;omega⟩
 rw[zzz (by omega)]at hS
 have pV:lz d m.reqs=(je m.reqs).foldl (λd r=>d.add r.id r.weight) ((m.reqs.filter (·.done)).foldl (λd r=>d.del r.id) d):=rfl;have ow:=Ec (m.reqs.filter (·.done)) d;rw[pV];generalize (m.reqs.filter (·.done)).foldl (λd r=>d.del r.id) d=d1 at *
 refine Gp ?_;refine Cc (yM mp wp H m (by omega)) ?_;clear hS;rintro u1 post rfl w hS;try simp only[app]at hS
 refine Cc (ZN u1 m.reqs (by omega)) ?_;clear hS;rintro u2 post rfl w hS;try simp only[app]at hS
 have wW:(je m.reqs).length<=64:=by
  have:=JV m.reqs m.reqs.length;rw[zz0]at this;omega
 generalize je m.reqs=L at *
 refine zy hS (v:=u2) (t:=295) (sz:=7) (n:=L.length) (cells:=(L.map gS).flatten) Xh ?_;refine⟨λus w=>∃i:Nat,us=[Γ i]/\i<=L.length/\SL W (.ob (eH gp ((L.take i).foldl (λd r=>d.add r.id r.weight) d1))::py u2 L::.ob (bW mp wp H m)::.mem H::.pt pp (iV sp mp wp gp n) 243::F) w,λus _=>match us with|[.int _ i]=>(L.length-i).toNat|_=>0,⟨0,rfl,by omega,SL.bo hS (t:=.ob (eH gp d1)::py u2 L::.ob (bW mp wp H m)::.mem H::.pt pp (iV sp mp wp gp n) 243::F) Xi⟩,?_⟩;clear hS;rintro v33 w ⟨i,bM,hi,hS⟩;cases bM;refine bj (λh=>?_) (λh=>?_)
 ·have bn:i<L.length:=by omega
  have hx:L[i]?=some L[i]:=zzd bn;have eN:L.take (i+1)=L.take i++[L[i]]:=zze bn;have hle:=G_ (L.take i) d1;rw[zzf]at hle
  refine zX hS (v:=u2) (t:=295) Xh nC hx bn ?_;generalize L[i]=r at *
  refine Gb λxb w hS=>?_;refine Cc (a_t gp ((L.take i).foldl (λd r=>d.add r.id r.weight) d1) r.id r.weight (by omega)) ?_;clear hS;rintro _ post ⟨⟨e,rfl⟩,rfl⟩ w hS;(try simp only[app]at hS);refine Gp ?_
  refine⟨⟨i+1,rfl,by omega,?_⟩,by dsimp only;omega⟩;rw[eN,wwe];exact SL.bo hS (t:=.ob (eH gp (((L.take i).foldl (λd r=>d.add r.id r.weight) d1).add r.id r.weight))::py u2 L::.ob (bW mp wp H m)::.mem H::.pt pp (iV sp mp wp gp n) 243::F) Xi
 rw[zzz (by omega)]at hS
 exact⟨_,rfl,aR hS⟩
structure eD.Ok(p:eD):Prop where
 m:p.m.Ok
 d:p.d.Ok
 dl:p.d.l.length<=64
 src:∃N,iP p.k N/\N<=900000000
 n:1<=p.n/\p.n<=64
 row:(lz p.d p.m.reqs).Ok
 id : -9223372036854775808<=p.m.bz.id/\p.m.bz.id<=9223372036854775807
abbrev DM(sp tp dp lp mp wp pp gp:Nat)(H:a_)(p:eD):Β:=[.pt pp (iV sp mp wp gp p.n) 243,.ob (eH gp p.d),.ob (bW mp wp H p.m),.ob (b8 sp tp dp lp p.k),.ob (bm dp p.k.d),.mem H]
def DO(sp tp dp lp mp wp pp gp:Nat)(H:a_)(y:eD × (Int × Int))(v:Ε)(post:Β):Prop:=∃H',H.le H'/\v= .tuple #[Γ y.2.1,Γ y.2.2]/\post=DM sp tp dp lp mp wp pp gp H' y.1
def Q3(sp tp dp lp mp wp pp gp:Nat)(H:a_)(p:eD)(hp:p.Ok)(cZ:p.k.d.ops<=90000):SP 134 [bx pp] (DM sp tp dp lp mp wp pp gp H p) (DO sp tp dp lp mp wp pp gp H p.C9):=by
 refine Enzz λW F w hS=>?_;apply bC7;delta aI bh aW bJ ai;obtain⟨N,hk,hN⟩:=hp.src;have CP:=hp.m.reqs.1;have ow:=hp.dl;have pV:=hp.row;have hd0:=sW hk.g.ok.bf;have EW:=hk.g.hd;refine Cc (Q5 sp mp wp pp gp p.n H p.m p.d CP (by omega)) ?_;clear hS;rintro _ post rfl w hS;(try simp only[app]at hS);refine Gp ?_
 have vw:(lz p.d p.m.reqs).l.length<=1000:=by
  have h1:=G_ (je p.m.reqs) ((p.m.reqs.filter (·.done)).foldl (λd r=>d.del r.id) p.d);have h2:=Ec (p.m.reqs.filter (·.done)) p.d;have h3:=JV p.m.reqs p.m.reqs.length;rw[zz0]at h3
  unfold lz;omega
 unfold eD.C9;generalize hx:lz p.d p.m.reqs=d1 at *
 refine Cg (Qt gp d1 pV vw) λw hS=>?_;refine Cc (yM mp wp H p.m (by omega)) ?_;clear hS;rintro u post rfl w hS;try simp only[app]at hS
 have dX:∀{w:Ζ},uz p.m.reqs d1.next.2=none->SL W (.pt pp (iV sp mp wp gp p.n) 243::.ob (eH gp d1.next.1)::.ob (bW mp wp H p.m)::.ob (b8 sp tp dp lp p.k)::.ob (bm dp p.k.d)::.mem H::F) w->∃post,DO sp tp dp lp mp wp pp gp H (p.vz d1.next) (.tuple #[Γ 0,Γ 0]) post/\SL W (app post F) w:=λe hS=>by
  rw[show p.vz d1.next=({p with d:=d1.next.1},(0,0)) by unfold eD.vz;rw[e]];exact⟨_,⟨H,a_.le_refl H,rfl,rfl⟩,hS⟩
 refine Gp ?_;refine zw (λhq=>?_) (λhq=>?_)
 ·refine dX ?_ (aR hS);have he:d1.l=[]:=Decidable.of_not_not (yyu hq);unfold cH.next uz;rw[zzc he];rfl
 have cY:d1.l≠[]:=zzt hq;refine zy hS (v:=u) (t:=295) (sz:=7) (n:=p.m.reqs.length) (cells:=(p.m.reqs.map gS).flatten) Xh ?_;refine Gp ?_;have hid:1<=d1.next.2:=by
  unfold cH.next;rw[zzb cY];have dm:0<=d1.place/\d1.place<d1.l.length:=by
   have:=pV.neg;have:=pV.lF;have:=pV.oQ;have:0<d1.l.length:=wwz.2 cY;unfold cH.place;split
   ·split<;>omega
   omega
  have hm:d1.ly∈d1.l:=by
   unfold cH.ly;rw[zzd (show d1.place.toNat<d1.l.length by omega)];exact zzk _
  exact (pV.w _ hm).1
 refine za (λh=>dX (by unfold uz;rw[zzb (by omega),yyt (by omega)]) (aR hS)) (λh=>?_);clear dX;obtain⟨j,hj⟩:∃j:Nat,d1.next.2=(j:Int)+1:=⟨(d1.next.2-1).toNat,by omega⟩;have fY:j<p.m.reqs.length:=by omega
 have mq:uz p.m.reqs d1.next.2=some p.m.reqs[j]:=by
  unfold uz;rw[zzb (by omega),hj,show ((j:Int)+1-1).toNat=j by omega,zzd fY]
 rw[show p.vz d1.next=({p with d:=d1.next.1}:eD).C' p.m.reqs[j] by unfold eD.vz;rw[mq]];unfold eD.C';clear mq;rw[hj];generalize d1.next.1=d2 at hS ⊢;refine Gp ?_;refine Cg (zN sp tp dp lp p.k hk.g (by omega)) λw hS=>?_;refine Cg (Yh sp tp dp lp p.k H 2 (bH p.k.g.bf+1) hk (by omega) cZ) λw hS=>?_;generalize p.k.mv 2 (bH p.k.g.bf+1)=y at hS ⊢;obtain⟨k',a,e⟩:=y;simp only at hS ⊢;refine za (λhe=>?_) (λhe=>?_)
 ·rw[zzc he];exact⟨_,⟨H,a_.le_refl H,rfl,rfl⟩,aR hS⟩
 rw[zzb he];refine Gp ?_;rw[show ((j:Int)+1-1)=(j:Int) by omega];refine zX hS (v:=u) (t:=295) Xh nC (zzd fY) fY ?_;generalize p.m.reqs[j]=r;refine Gb λxb w hS=>?_;obtain⟨rv,hr,hS⟩:=bW.iff.1 (SL.bo hS (t:=.ob (bW mp wp H p.m)::.pt pp (iV sp mp wp gp p.n) 243::.ob (eH gp d2)::.ob (b8 sp tp dp lp k')::.ob (bm dp k'.d)::.mem H::F) Xi);refine Cc (bKm wp p.m.bz (bH p.k.g.bf+1) r.id r.table r.cG) ?_;clear hS;rintro _ post ⟨⟨q,rfl⟩,rfl⟩ w hS;try simp only[app]at hS
 have hS:=bW.put (mp:=mp) {p.m with bz:=p.m.bz.ta (bH p.k.g.bf+1) r.id r.table r.cG} rv hr hS Xp;exact⟨_,⟨H,a_.le_refl H,rfl,rfl⟩,aR hS⟩
def qS(sp tp dp lp mp wp pp gp:Nat)(H:a_)(p:eD)(hp:p.Ok)(cZ:p.k.d.ops<=90000):SP 139 [bx pp] (DM sp tp dp lp mp wp pp gp H p) (DO sp tp dp lp mp wp pp gp H p.Cy):=by
 refine Enzz λW F w hS=>?_;apply bDc;delta aI bh bg bk ai;obtain⟨N,hk,hN⟩:=hp.src;refine Gn λw hS=>?_;obtain⟨rv,hr,hS⟩:=bW.iff.1 (SL.bo hS (t:=.ob (bW mp wp H p.m)::.pt pp (iV sp mp wp gp p.n) 243::.ob (eH gp p.d)::.ob (b8 sp tp dp lp p.k)::.ob (bm dp p.k.d)::.mem H::F) Xi);refine Cg (bKj wp p.m.bz) λw hS=>?_;unfold eD.Cy;refine Cg (Yh sp tp dp lp p.k H 3 p.m.bz.mark hk (by omega) cZ) λw hS=>?_;generalize p.k.mv 3 p.m.bz.mark=y at hS ⊢;obtain⟨k',a,e⟩:=y;simp only at hS ⊢;refine za (λhe=>?_) (λhe=>?_)
 ·rw[zzc he];have hS:=bW.put (mp:=mp) p.m rv hr hS Xp;exact⟨_,⟨H,a_.le_refl H,rfl,rfl⟩,aR hS⟩
 rw[zzb he];refine Gp ?_;refine Cc (bKq wp p.m.bz) ?_;clear hS;rintro _ post ⟨⟨q,rfl⟩,rfl⟩ w hS;try simp only[app]at hS
 have hS:=bW.put (mp:=mp) {p.m with bz:=p.m.bz.shut} rv hr hS Xp;exact⟨_,⟨H,a_.le_refl H,rfl,rfl⟩,aR hS⟩
def qT(sp tp dp lp mp wp pp gp:Nat)(H:a_)(p:eD)(hp:p.Ok)(cZ:p.k.d.ops<=90000):SP 83 [bx pp] (DM sp tp dp lp mp wp pp gp H p) (DO sp tp dp lp mp wp pp gp H p.step):=by
 refine Enzz λW F w hS=>?_;apply bJs;delta aI bh bg bk bJ ai;obtain⟨N,hk,hN⟩:=hp.src;have CP:=hp.m.reqs.1;have bL5:=hp.n;unfold eD.step;refine Cg (Zp sp mp wp pp gp p.n H p.m (by omega)) λw hS=>?_;refine zw (λhq=>?_) (λhq=>?_)
 ·rw[zzc hq];exact⟨_,⟨H,a_.le_refl H,rfl,rfl⟩,aR hS⟩
 rw[zzb (by simp[hq])];obtain⟨rv,hr,hS⟩:=bW.iff.1 (SL.bo hS (t:=.ob (bW mp wp H p.m)::.pt pp (iV sp mp wp gp p.n) 243::.ob (eH gp p.d)::.ob (b8 sp tp dp lp p.k)::.ob (bm dp p.k.d)::.mem H::F) Xi);refine Gp ?_;refine Cg (yZ wp p.m.bz) λw hS=>?_;refine za (λh0=>?_) (λh0=>?_)
 ·rw[zzc h0];have hS:=bW.put (mp:=mp) p.m rv hr hS Xp;refine Cc (Q3 sp tp dp lp mp wp pp gp H p hp cZ) ?_;clear hS;rintro _ post ⟨H1,bX,rfl,rfl⟩ w hS;(try simp only[app]at hS);refine Gp ?_
  exact⟨_,⟨H1,bX,rfl,rfl⟩,aR hS⟩
 rw[zzb h0];refine bj (λh1=>?_) (λh1=>?_)
 ·rw[zzc h1];refine Gn λw hS=>?_;refine Cg (q8 wp p.m.bz) λw hS=>?_;refine Cg (q6 wp p.m.bz) λw hS=>?_;refine Cc (qR sp tp dp lp p.k p.m.bz.table p.m.bz.after p.n (λC hC=>by have:=hk.len C hC;omega) (λC hC=>(hk.rows C hC).sorted) (by omega) (by omega)) ?_;clear hS;rintro u post rfl w hS;try simp only[app]at hS
  obtain⟨H1,bX,hR,hS⟩:=zA (H:=H) (v:=u) hS Xp;have mR:(p.k.wg p.m.bz.table p.m.bz.after p.n).length<=64:=by
   unfold bQ.wg nj;rw[zzf];omega
  generalize p.k.wg p.m.bz.table p.m.bz.after p.n=C at hR mR ⊢;refine Gp ?_;refine Cc (bKf wp p.m.bz H1 u C hR (by omega)) ?_;clear hS;rintro _ post ⟨⟨q,rfl⟩,rfl⟩ w hS;try simp only[app]at hS
  have hS:=bW.put (mp:=mp) {p.m with bz:=p.m.bz.fill C} rv (hr.mono bX) hS Xp;exact⟨_,⟨H1,bX,rfl,rfl⟩,aR hS⟩
 rw[zzb h1];have hS:=bW.put (mp:=mp) p.m rv hr hS Xp;refine Cc (qS sp tp dp lp mp wp pp gp H p hp cZ) ?_;clear hS;rintro _ post ⟨H1,bX,rfl,rfl⟩ w hS;(try simp only[app]at hS);refine Gp ?_
 exact⟨_,⟨H1,bX,rfl,rfl⟩,aR hS⟩
def Z_(dp:Nat)(d:DS)(H:a_)(n:Nat)(f:Int)(r:Ε)(post:Β):Prop:=∃H',H.le H'/\post=[.ob (bm dp d),.mem H']/\match ib d.R n f with
 | none=>∃a b,r= .tuple #[a,b,.bool false]
 | some y=>∃v,uK H' v y.2/\r= .tuple #[Γ y.1,v,.bool true]
def bge(dp:Nat)(d:DS)(H:a_)(n:Nat)(f:Int){N:Nat}(bC:d.Ok N)(hN:N<=140737488355328):
  SP 159 [bx dp,Γ f,Γ (n:Nat)] [.ob (bm dp d),.mem H] (Z_ dp d H n f):=by
 refine Enzz λW F w hS=>?_;apply bDu;delta aI bJ ai bc;refine Cc (Ya dp d N bC hN f) ?_;clear hS;rintro r post hq w hS;unfold BC at hq;cases hg:cP PF.id d.R f with
 | none=>
  rw[hg]at hq
  obtain⟨rfl,rfl⟩:=hq;have hi:ib d.R n f=none:=by unfold ib;rw[hg]
  (try simp only[app]at hS);refine Gp ?_
  refine zu ?_;refine⟨[.ob (bm dp d),.mem H],⟨H,a_.le_refl H,rfl,?_⟩,aR hS⟩;rw[hi];exact⟨_,_,rfl⟩
 | some x=>
  rw[hg]at hq
  obtain⟨u,rfl,rfl⟩:=hq;have iL:=bC.len x (tM hg).1;(try simp only[app]at hS);refine Gp ?_
  refine zq ?_;refine Cc (qD (.ob (bd u 5 1 x.b.length (x.b.map bU))) H u x.b cK.own (by omega)) ?_;clear hS;rintro r post hq w hS;unfold Bm at hq;cases hd:jN x.b with
  | none=>
   rw[hd]at hq
   obtain⟨rfl,H',hh,rfl⟩:=hq;have hi:ib d.R n f=none:=by unfold ib;rw[hg];simp only;rw[hd]
   (try simp only[app]at hS);refine Gp ?_
   refine Χ ?_;refine⟨[.ob (bm dp d),.mem H'],⟨H',hh,rfl,?_⟩,aR hS⟩;rw[hi];exact⟨_,_,rfl⟩
  | some y=>
   rw[hd]at hq
   obtain⟨v,H',hh,hT,rfl,rfl⟩:=hq;have hi:ib d.R n f=if y.2.length=n then some y else none:=by unfold ib;rw[hg];simp only;rw[hd]
   (try simp only[app]at hS);refine Gp ?_
   refine Υ ?_;refine yS hT ?_;refine Gp ?_;refine⟨[.ob (bm dp d),.mem H'],⟨H',hh,rfl,?_⟩,aR hS⟩;rw[hi];by_cases hl:y.2.length=n
   ·rw[zzc hl,zzm (by omega)];exact⟨v,hT,rfl⟩
   rw[zzb hl,zzx (by omega)];exact⟨_,_,rfl⟩
def loadAt(R:List PF)(n:Nat)(x:rl):Nat->rl
 | 0=>x
 | 1=>gL R n 0 x
 | _=>gL R n 1 (gL R n 0 x)
def Fp{R:List PF}{n:Nat}{f:Int}{y:Int × gY}(h:ib R n f=some y):iw y.1 y.2=true/\y.2.length=n:=by
 unfold ib at h;split at h
 ·cases h
 split at h
 ·cases h
 rename_i hd;split at h
 ·rename_i hl;cases h;exact⟨a_0 hd,hl⟩
 cases h
def bza{α:Type}{l m:List α}{i:Nat}(hi:i<l.length)(h:m.length=l.length):(l.take i++m.drop i).set i l[i]=l.take (i+1)++m.drop (i+1):=by
 rw[vvo _ _ (by rw[zzf];omega),zzf,show i-min i l.length=0 by omega,yyn (by omega:i<m.length),List.set_cons_zero,zze hi,zzg];rfl
def bnw{R:List PF}{n:Nat}{x:rl}{j:Nat}(h:j<=1):loadAt R n x (j+1)=gL R n j (loadAt R n x j):=by
 match j,h with
 | 0,_=>rfl
 | 1,_=>rfl
def Va{R:List PF}{n:Nat}{f:Int}{x:rl}(h:x.2.2.length=n):(gL R n f x).2.2.length=n:=by
 unfold gL;cases hi:ib R n f with
 | none=>exact h
 | some y=>
  simp only;split
  ·exact h
  exact (Fp hi).2
def bnv{R:List PF}{n:Nat}{f:Int}{x:rl}(h:0<=x.2.1/\x.2.1<=1099511627776):0<=(gL R n f x).2.1/\(gL R n f x).2.1<=1099511627776:=by
 unfold gL;cases hi:ib R n f with
 | none=>exact h
 | some y=>
  simp only;split
  ·exact h
  have:=(sf.1 (Fp hi).1).1;exact⟨this.1,this.2.1⟩
def bn3(sp tp dp lp:Nat)(d:DS)(H:a_)(x0:rl)(n:Nat)(Uw:x0.2.2.length=n)(h8:n<=8){N:Nat}(bC:d.Ok N)(hN:N<=140737488355328):
  SP 105 [bx sp] [.pt sp (lA tp dp lp x0.1 x0.2.1) 157,.ob (dd tp x0.2.2),.ob (bm dp d),.mem H] (λ_ post=>∃H',H.le H'/\post=[.pt sp (lA tp dp lp (gL d.R n 1 (gL d.R n 0 x0)).1 (gL d.R n 1 (gL d.R n 0 x0)).2.1) 157,.ob (dd tp (gL d.R n 1 (gL d.R n 0 x0)).2.2),.ob (bm dp d),.mem H']):=by
 refine Enzz λW F w hS=>?_;apply bCe;delta aI bh bS bg bk bJ ai;refine⟨λus w=>∃(j:Nat) (H':a_),us=[Γ j]/\j<=2/\H.le H'/\(loadAt d.R n x0 j).2.2.length=n/\SL W (.pt sp (lA tp dp lp (loadAt d.R n x0 j).1 (loadAt d.R n x0 j).2.1) 157::.ob (dd tp (loadAt d.R n x0 j).2.2)::.ob (bm dp d)::.mem H'::F) w,
  λus _=>match us with|[.int _ i]=>(2-i).toNat|_=>0,⟨0,H,rfl,by omega,a_.le_refl H,Uw,hS⟩,?_⟩
 clear hS;rintro v2 w ⟨j,H',bM,hj,hh,iL,hS⟩;cases bM;refine bj (λh=>?_) (λh=>?_)
 ·have Cz:j<=1:=by omega
  have kj:=bnw (R:=d.R) (n:=n) (x:=x0) Cz;have gg:∀{w:Ζ} {H2:a_} (y:rl),gL d.R n j (loadAt d.R n x0 j)=y->H.le H2->SL W (.pt sp (lA tp dp lp y.1 y.2.1) 157::.ob (dd tp y.2.2)::.ob (bm dp d)::.mem H2::F) w ->
    ∃(j':Nat) (H':a_),[Γ ((j+1:Nat):Int)]=[Γ j']/\j'<=2/\H.le H'/\(loadAt d.R n x0 j').2.2.length=n/\SL W (.pt sp (lA tp dp lp (loadAt d.R n x0 j').1 (loadAt d.R n x0 j').2.1) 157::.ob (dd tp (loadAt d.R n x0 j').2.2)::.ob (bm dp d)::.mem H'::F) w:=λy hy dW hS=>by
   refine⟨j+1,_,rfl,by omega,dW,?_,?_⟩
   ·rw[kj];exact Va iL
   rw[kj,hy];exact hS
  generalize hx:loadAt d.R n x0 j=x at *
  refine Gn λw hS=>?_;refine Cg (yy tp x.2.2) λw hS=>?_;refine Cc (bge dp d H' x.2.2.length j bC hN) ?_;clear hS;rintro r post ⟨H2,cF,rfl,hq⟩ w hS;try simp only[app]at hS
  rw[iL]at hq
  have dW:=a_.le_trans hh cF;cases hi:ib d.R n j with
  | none=>
   rw[hi]at hq
   obtain⟨a,b,rfl⟩:=hq;refine Gp ?_;refine⟨λus w=>False,?_,λw h=>h.elim⟩;refine z7 (zu ?_);refine Gp ?_;exact⟨gg x (by unfold gL;rw[hi]) dW (aR hS),by dsimp only;omega⟩
  | some y=>
   rw[hi]at hq
   obtain⟨v,hT,rfl⟩:=hq;obtain⟨lP,pZ⟩:=Fp hi;have sR:=(sf.1 lP).2;refine Gp ?_;refine⟨λus w=>us=[]/\¬(0<=x.1/\y.1<=x.2.1)/\SL W (.pt sp (lA tp dp lp x.1 x.2.1) 157::.ob (dd tp x.2.2)::.ob (bm dp d)::.mem H2::F) w,?_,?_⟩
   ·refine z7 (zq ?_);refine bj (λh0=>?_) (λh0=>?_)
    ·refine bj (λh1=>?_) (λh1=>?_)
     ·refine Gp ?_;exact⟨gg x (by unfold gL;rw[hi];simp only;rw[zzc ⟨h0,h1⟩]) dW (aR hS),by dsimp only;omega⟩
     exact⟨rfl,λh=>h1 h.2,aR hS⟩
    exact⟨rfl,λh=>h0 h.1,aR hS⟩
   clear hS;rintro w ⟨-,hc,hS⟩;refine Gn λw hS=>?_;refine yS hT ?_;have hS:SL W (_::.ob (dd tp (y.2.take 0++x.2.2.drop 0))::_) _:=hS;refine⟨λus w=>∃i:Nat,us=[Γ i]/\i<=y.2.length/\SL W (.ob (dd tp (y.2.take i++x.2.2.drop i))::.pt sp (lA tp dp lp j y.1) 157::.ob (bm dp d)::.mem H2::F) w,
    λus _=>match us with|[.int _ i]=>(y.2.length-i).toNat|_=>0,⟨0,rfl,by omega,aR hS⟩,?_⟩
   clear hS;rintro v54 w ⟨i,bM,bn,hS⟩;cases bM;refine bj (λh=>?_) (λh=>?_)
   ·have bn:i<y.2.length:=by omega
    have oA:=bza (m:=x.2.2) bn (by omega);have lu:i<(y.2.take i++x.2.2.drop i).length:=by rw[zza,zzf,zzq];omega
    have Tc:=sR _ (zzk bn);refine Y2 hS Xh hT bn λu hu=>?_;generalize y.2[i]=C at *
    generalize y.2.take i++x.2.2.drop i=T at *
    refine Gp ?_;refine Cg (bBf tp T H2 u i C lu hu Tc.sorted (by have:=Tc.len;omega)) λw hS=>?_;refine⟨⟨i+1,rfl,by omega,?_⟩,by dsimp only;omega⟩;rw[<- oA];exact aR hS
   obtain rfl:i=y.2.length:=by omega
   rw[zz0,xxb (by omega),zz3]at hS
   refine Gp ?_;exact⟨gg (j,y.1,y.2) (by unfold gL;rw[hi];simp only;rw[zzb hc]) dW (aR hS),by dsimp only;omega⟩
 obtain rfl:j=2:=by omega
 exact⟨_,⟨H',hh,rfl⟩,hS⟩
def bQ.kQ(k:bQ):Option gY:=match nP k.ts.length k.image (bR k.g.bf) (dH k.g.bf) k.ts with
 | none=>none
 | some ts=>if k.image<=bH k.g.bf/\dH k.g.bf<=k.image+1 then some ts else none
def bdj{L:List b6}(h:hY L):bH L-dH L+1=((bR L).length:Int):=by
 by_cases hL:L=[]
 ·subst hL;rfl
 rw[h.head hL];omega
def bn6{L:List b6}{N:Nat}(h:∀s∈L,j7 s N):1<=dH L/\dH L<=1099511627776:=by
 cases L with
 | nil=>exact⟨yyj _,by show (1:Int)<=_;decide⟩
 | cons s r=>exact⟨(h s (.head _)).n0,(h s (.head _)).n1⟩
def bwe{n:Nat}{image:Int}{b:Φ}{r:List Φ}{aw:Int}{ts:gY}:nP n image (b::r) aw ts=match jO b with
  | .error _=>none
  | .ok t=>if t.aw=aw/\(∀c∈t.changes,c.table<(n:Int)) then nP n image r (aw+1) (if image<aw then eZ ts t.changes else ts) else none:=rfl
def bwg(sp tp dp lp:Nat)(H:a_)(k:bQ){N:Nat}(hg:gX k.g N)(hN:N<=1000000000)(hs:∀C∈k.ts,ff C){L0:Nat}(hn:∀C∈k.ts,C.length<=L0)(hL:L0+16*(bR k.g.bf).length<=900000)(lr:0<=k.image/\k.image<=1099511627776):
  SP 106 [bx sp] [.ob (b8 sp tp dp lp k),.mem H] (λv post=>∃H',H.le H'/\match k.kQ with
   | none=>v= .bool false/\post=[.mem H']
   | some ts=>v= .bool true/\post=[.ob (b8 sp tp dp lp {k with ts:=ts}),.mem H']):=by
 refine Enzz λW F w hS=>?_;apply bCf;delta aI bh aW bg bk bJ br ai bc;have hF:∀{w:Ζ} {H':a_},k.kQ=none->H.le H'->SL W (.mem H'::F) w->∃post,(∃H',H.le H'/\match k.kQ with
   | none=>(.bool false:Ε)= .bool false/\post=[.mem H']
   | some ts=>(.bool false:Ε)= .bool true/\post=[.ob (b8 sp tp dp lp {k with ts:=ts}),.mem H'])/\SL W (app post F) w:=λhr hh hS=>by
  rw[hr];exact⟨[.mem _],⟨_,hh,rfl,rfl⟩,hS⟩
 have rP:=bdj hg.seq;have pS:=bn6 hg.ok.bf;have vm:=hg.hd;refine Cg (ZC sp tp dp lp k hg hN) λw hS=>?_;refine⟨λus w=>∃(i:Nat) (T:gY) (H2:a_),us=[Γ (dH k.g.bf+i)]/\i<=(bR k.g.bf).length/\nP k.ts.length k.image (bR k.g.bf) (dH k.g.bf) k.ts=nP k.ts.length k.image ((bR k.g.bf).drop i) (dH k.g.bf+i) T/\T.length=k.ts.length/\(∀C∈T,ff C)/\(∀C∈T,C.length<=L0+16*i)/\H.le H2/\SL W (.ob (b8 sp tp dp lp {k with ts:=T})::.mem H2::F) w,
  λus _=>match us with|[.int _ i]=>(bH k.g.bf+1-i).toNat|_=>0,⟨0,k.ts,H,by simp,by omega,by simp,rfl,hs,by simpa using hn,a_.le_refl H,aR hS⟩,?_⟩
 clear hS;rintro v3 w ⟨i,T,H2,bM,hi,cJ,ve,sR,wG,hh,hS⟩;cases bM;refine Cg (zN sp tp dp lp {k with ts:=T} hg hN) λw hS=>?_;refine za (λh=>?_) (λh=>?_)
 ·have h:dH k.g.bf+i<=bH k.g.bf:=h;have bn:i<(bR k.g.bf).length:=by omega
  have CQ:=hg.seq.read i;rw[zzd bn]at CQ
  rw[yyn bn,bwe]at cJ
  generalize (bR k.g.bf)[i]=bs at *
  have kF:1<=dH k.g.bf+i/\dH k.g.bf+i<=1099511627776:=by omega
  generalize hlq:dH k.g.bf+i=aw at *
  have oB:(match jO bs with
   | .error _=>none
   | .ok t=>if t.aw=aw/\(∀c∈t.changes,c.table<(k.ts.length:Int)) then nP k.ts.length k.image ((bR k.g.bf).drop (i+1)) (aw+1) (if k.image<aw then eZ T t.changes else T) else none)=none->k.kQ=none:=λh=>by unfold bQ.kQ;rw[cJ,h]
  refine Cc (Ze sp tp dp lp {k with ts:=T} hg hN H2 aw (by omega)) ?_;clear hS;rintro r post hq w hS;unfold BD bQ.gA at hq;simp only at hq;rw[CQ]at hq
  simp only at hq;cases hd:jO bs with
  | error e=>
   rw[hd]at hq oB
   obtain⟨cY,H3,dG,rfl,rfl⟩:=hq;refine Gm λb w hS=>?_;refine za (λ_=>?_) (λh=>absurd cY h);exact hF (oB rfl) (a_.le_trans hh dG) (aR hS)
  | ok t=>
   rw[hd]at hq oB cJ
   obtain⟨x,H3,dG,rfl,hx,rfl⟩:=hq;have lh:=a_.le_trans hh dG;obtain⟨ht1,Fh,I5,ht4,ht5,Ur,ht7⟩:=kr (a_9 hd);try simp only[app]at hS
   refine Gp ?_;refine zD hS λxb w hS=>?_;refine zr (vs:=eb x) hS Xu rfl rfl (Ab (aw:=x.aw) (kind:=x.kind) (mark:=x.mark) hx.cv.one hx.sv.one) λw hS=>?_;unfold eb at hS;rw[hx.aw,hx.kind,hx.mark]at hS
   refine Gn λw hS=>?_;refine Χ ?_;refine bj (λhl=>?_) (λhl=>?_)
   ·exact hF (oB (by simp only;rw[zzb λh=>hl h.1])) lh (aR hS)
   have hS:=b8.iff.1 (SL.bo hS (t:=.ob (b8 sp tp dp lp {k with ts:=T})::.pt xb [Γ t.aw,Γ t.kind,x.cv,x.sv,Γ t.mark] 151::.mem H3::F) Xi);refine Gp ?_;refine Cg (yy tp T) λw hS=>?_;refine Cg (ZX H3 x.cv t.changes T.length hx.cv (by omega)) λw hS=>?_;rw[ve];refine zw (λhb=>?_) (λhb=>?_)
   ·have hb:=yyu hb;exact hF (oB (by simp only;rw[zzb λh=>hb h.2])) lh (aR hS)
   have hb:=zzt hb;have dh:t.changes.all (gu T.length)=true:=zz7.2 λc hc=>zzm ⟨(uq.1 (Ur c hc)).1,by rw[ve];exact hb c hc⟩;simp only at cJ;rw[zzc (show t.aw=aw/\∀c∈t.changes,c.table<(k.ts.length:Int) from ⟨by omega,hb⟩)]at cJ
   have IG:aw+1=dH k.g.bf+((i+1:Nat):Int):=by omega
   rw[IG]at cJ
   refine bj (λjc=>?_) (λjc=>?_)
   ·rw[zzc (show k.image<aw by omega)]at cJ
    refine Gn λw hS=>?_;refine Cg (ZP tp T H3 x.cv t.changes hx.cv (by omega) sR (L0+16*i) wG (by omega)) λw hS=>?_;rw[zzc dh]at hS
    rw[IG];refine⟨⟨i+1,eZ T t.changes,H3,rfl,by omega,cJ,by rw[tw];exact ve,D1 sR λc hc=>zz7.1 dh c hc,λC hC=>?_,lh,SL.bo (b8.put {k with ts:=eZ T t.changes} hS Xp) Xi⟩,by dsimp only;omega⟩;have:=D0 (L0+16*i) (l:=t.changes) wG (λc hc=>zz7.1 dh c hc) C hC;omega
   rw[zzb (show ¬k.image<aw by omega)]at cJ
   refine Gp ?_;rw[IG];exact⟨⟨i+1,T,H3,rfl,by omega,cJ,ve,sR,λC hC=>by have:=wG C hC;omega,lh,SL.bo (b8.put {k with ts:=T} hS Xp) Xi⟩,by dsimp only;omega⟩
 have h:¬dH k.g.bf+i<=bH k.g.bf:=h;obtain rfl:i=(bR k.g.bf).length:=by omega
 rw[vvw]at cJ
 have cJ:nP k.ts.length k.image (bR k.g.bf) (dH k.g.bf) k.ts=some T:=cJ;have hR:k.kQ=if k.image<=bH k.g.bf/\dH k.g.bf<=k.image+1 then some T else none:=by unfold bQ.kQ;rw[cJ]
 have hS:SL W (.pt sp (lA tp dp lp k.db k.image) 157::.ob (dd tp T)::.ob (b7 lp dp k.g)::_) _:=b8.iff.1 hS;refine Gn λw hS=>?_;have hS:=b8.put {k with ts:=T} hS Xp;refine Cg (zN sp tp dp lp {k with ts:=T} hg hN) λw hS=>?_;have hS:SL W (.pt sp (lA tp dp lp k.db k.image) 157::.ob (dd tp T)::.ob (b7 lp dp k.g)::_) _:=b8.iff.1 hS;refine bj (λh1=>?_) (λh1=>?_)
 ·have h1:k.image<=bH k.g.bf:=h1;refine Gp ?_;have hS:=b8.put {k with ts:=T} hS Xp;refine Cg (ZC sp tp dp lp {k with ts:=T} hg hN) λw hS=>?_;have hS:SL W (.pt sp (lA tp dp lp k.db k.image) 157::.ob (dd tp T)::.ob (b7 lp dp k.g)::_) _:=b8.iff.1 hS;refine Gp ?_;have hS:=b8.put {k with ts:=T} hS Xp;by_cases h2:dH k.g.bf<=k.image+1
  ·rw[zzm (show dH ({k with ts:=T}:bQ).g.bf<=k.image+1 from h2)];refine⟨[.ob (b8 sp tp dp lp {k with ts:=T}),.mem H2],⟨H2,hh,?_⟩,aR hS⟩;rw[hR,zzc ⟨h1,h2⟩];exact⟨rfl,rfl⟩
  rw[zzx (show ¬dH ({k with ts:=T}:bQ).g.bf<=k.image+1 from h2)];exact hF (by rw[hR,zzb λh=>h2 h.2]) hh (aR hS)
 exact hF (by rw[hR,zzb λh=>h1 h.1]) hh (aR hS)
def GB(dp:Nat)(H:a_)(y:DS × Except Int bQ)(r:Ε)(post:Β):Prop:=match y.2 with
 | .error e=>e≠0/\∃H',H.le H'/\r= .tuple #[.pointer none,Γ e]/\post=[.ob (bm dp y.1),.mem H']
 | .ok k=>∃sp tp lp H',H.le H'/\r= .tuple #[bx sp,Γ 0]/\post=[.ob (b8 sp tp dp lp k),.ob (bm dp y.1),.mem H']
def Vc{R:List PF}{n:Nat}{x:rl}(hx:x.2.2.length=n/\(0<=x.2.1/\x.2.1<=1099511627776)/\∀C∈x.2.2,BG C)(f:Int):(gL R n f x).2.2.length=n/\(0<=(gL R n f x).2.1/\(gL R n f x).2.1<=1099511627776)/\∀C∈(gL R n f x).2.2,BG C:=by
 refine⟨Va hx.1,bnv hx.2.1,?_⟩;unfold gL;cases hi:ib R n f with
 | none=>exact hx.2.2
 | some y=>
  simp only;split
  ·exact hx.2.2
  exact (sf.1 (Fp hi).1).2
def bn0(R:List PF)(n:Nat):(kq R n).2.2.length=n/\(0<=(kq R n).2.1/\(kq R n).2.1<=1099511627776)/\∀C∈(kq R n).2.2,BG C:=
 Vc (Vc (x:=(-1,0,List.replicate n [])) ⟨xxm,⟨show (0:Int)<=0 by decide,show (0:Int)<=1099511627776 by decide⟩,λC hC=>by rw[(vv6.1 hC).2];exact⟨List.Pairwise.nil,by simp,by decide⟩⟩ 0) 1
def bzn(H:a_)(dp:Nat)(d:DS)(bL size:Int){N B:Nat}(bC:d.Ok B)(hB:B<=140737488355328)(hw:pA d.R 16 N)(hN:N<=900000000)(cZ:d.ops<=90000)(hn:∀d' g,dN d 16 size=(d',.ok g)->(bR g.bf).length<=50000):
  SP 73 [bx dp,Γ bL,Γ size] [.ob (bm dp d),.mem H] (GB dp H (kx d bL size)):=by
 refine Enzz λW F w hS=>?_;apply bJh;delta aI bJ ai bT;have hR:=bC.Dn;refine Cc (Q9 bL) ?_;clear hS;rintro r post hq w hS;unfold Bz at hq;by_cases ht:bL<1\/8<bL
 ·rw[zzc ht]at hq
  obtain⟨rfl,rfl⟩:=hq;have e:kx d bL size=(d,.error 1):=by unfold kx;rw[zzc ht]
  rw[e];(try simp only[app]at hS);refine Gp ?_
  refine Υ ?_;exact⟨_,⟨by decide,H,a_.le_refl H,rfl,rfl⟩,aR hS⟩
 rw[zzb ht]at hq
 obtain⟨tp,rfl,rfl⟩:=hq;obtain⟨n,rfl⟩:∃n:Nat,bL=n:=⟨bL.toNat,by omega⟩;rw[zzw]at hS
 (try simp only[app]at hS);refine Gp ?_
 refine Χ ?_;refine Cc (V9 dp d 16 size bC hB hw (by omega) (by omega) (by omega)) ?_;clear hS;rintro r post hq w hS;unfold kx;rw[zzb ht];unfold BA at hq;have Cs:=FO (base:=16) (size:=size) bC;cases uf:dN d 16 size with
 | mk d' o=>
  rw[uf]at hq Cs
  cases o with
  | error e=>
   obtain⟨he,rfl,rfl⟩:=hq;(try simp only[app]at hS);refine Gp ?_
   refine za (λ_=>?_) (λh=>absurd he h);exact⟨_,⟨he,H,a_.le_refl H,rfl,rfl⟩,aR hS⟩
  | ok g=>
   obtain⟨lp,rfl,rfl⟩:=hq;have hG:=V8 hw (by omega) uf;have bLh:=hn d' g uf;obtain⟨x1,x2,x3⟩:=bn0 d'.R n;(try simp only[app]at hS);refine Gp ?_
   refine Χ ?_;refine Gp ?_;refine zx hS λsp w hS=>?_;refine Cc (bn3 sp tp dp lp d' H (-1,0,List.replicate n []) n xxm (by omega) Cs hB) ?_;clear hS;rintro _ post ⟨H2,dW,rfl⟩ w hS;try simp only[app]at hS
   have hli:gL d'.R n 1 (gL d'.R n 0 (-1,0,List.replicate n []))=kq d'.R n:=rfl;rw[hli]at hS
   simp only[zzw];generalize kq d'.R n=x at *
   obtain⟨nw,im,ts⟩:=x;simp only at x1 x2 x3 hS ⊢;have hS:=b8.dI (d:=d') hS Xp;refine Cc (bwg sp tp dp lp H2 ⟨g,d',ts,nw,im⟩ hG (by omega) (λC hC=>(x3 C hC).sorted) (L0:=1000) (λC hC=>(x3 C hC).len) (by show 1000+16*(bR g.bf).length<=900000;omega) x2) ?_;clear hS;rintro r post ⟨H3,dG,hq⟩ w hS;have lh:=a_.le_trans dW dG;have hK:bQ.kQ ⟨g,d',ts,nw,im⟩=match nP n im (bR g.bf) (dH g.bf) ts with
    | none=>none
    | some ts=>if im<=bH g.bf/\dH g.bf<=im+1 then some ts else none:=by rw[<- x1];rfl
   rw[hK]at hq
   clear hK;cases hr:nP n im (bR g.bf) (dH g.bf) ts with
   | none=>
    rw[hr]at hq
    obtain⟨rfl,rfl⟩:=hq;try simp only[app]at hS
    refine z7 (zu ?_);exact⟨_,⟨by decide,H3,lh,rfl,rfl⟩,aR hS⟩
   | some ts2=>
    rw[hr]at hq
    simp only at hq;by_cases hc:im<=bH g.bf/\dH g.bf<=im+1
    ·rw[zzc hc]at hq
     obtain⟨rfl,rfl⟩:=hq;try simp only[app]at hS
     refine z7 (zq ?_);simp only;rw[zzc hc];exact⟨_,⟨sp,tp,lp,H3,lh,rfl,rfl⟩,aR hS⟩
    rw[zzb hc]at hq
    obtain⟨rfl,rfl⟩:=hq;try simp only[app]at hS
    refine z7 (zu ?_);simp only;rw[zzb hc];exact⟨_,⟨by decide,H3,lh,rfl,rfl⟩,aR hS⟩
def Q2(H:a_)(dp:Nat)(d:DS)(bL size:Int){N:Nat}(bC:d.Ok N)(hN:N<=900000000)(cZ:d.ops<=90000)(hn:∀d' g,dN d 16 size=(d',.ok g)->(bR g.bf).length<=50000):
  SP 73 [bx dp,Γ bL,Γ size] [.ob (bm dp d),.mem H] (GB dp H (kx d bL size)):=
 bzn H dp d bL size bC (by omega) (pA.all bC.len 16) hN cZ hn
structure Tm where
 id:Int
 when:Int
deriving DecidableEq
instance:Inhabited Tm:=⟨⟨0,0⟩⟩
def fu(t:Tm):Ξ:=[Γ t.id,Γ t.when]
def sJ(t:Tm):(fu t).length=2:=rfl
def B6(t:Tm):∀v∈fu t,v.oneCell'=true:=by simp[fu,Value.oneCell']
def rC(x:Int):Int:=min (max x 0) 1125899906842624
def oH(a b:Tm):Prop:=a.when<b.when\/(a.when=b.when/\a.id<b.id)
def pg(L:List Tm)(id:Int):List Tm:=L.filter λt=>decide (t.id≠id)
def erase_filter:∀(l:List Tm) (i:Nat) (id:Int),(l.map (·.id)).Nodup->(∃h:i<l.length,l[i].id=id)->pg l id=l.eraseIdx i
 | [],i,id,_,⟨h,_⟩=>by simp at h
 | x::l,0,id,hn,⟨_,he⟩=>by
  simp only[vvi]at he;rw[zzp,uul]at hn
  unfold pg;rw[vv7 (by simpa using he),List.eraseIdx_cons_zero,yyy]
  grind
 | x::l,i+1,id,hn,⟨h,he⟩=>by
  rw[zzp,uul]at hn
  have hl:i<l.length:=by simpa using h
  have oy:l[i].id=id:=by simpa using he
  have hx:x.id≠id:=λe=>hn.1 (by rw[e,<- oy];exact zz5.2 ⟨_,zzk hl,rfl⟩);have ih:=erase_filter l i id hn.2 ⟨hl,oy⟩
  grind [pg]
def bm1{l:List Tm}{id:Int}(h:∀t∈l,t.id≠id):pg l id=l:=by
 unfold pg;rw[yyy]
 grind
def bm2{l l':List Tm}(h:l.Perm l')(id:Int):(pg l id).Perm (pg l' id):=h.filter _
def bm0{l:List Tm}(h:(l.map (·.id)).Nodup)(id:Int):((pg l id).map (·.id)).Nodup:=h.sublist (List.filter_sublist.map _)
def El{α β:Type}(f:α->List β):∀(xs:List α) (s:Nat) (h:s<xs.length) (y:α),∃R,(xs.flatMap f).Perm (f xs[s]++R)/\((xs.set s y).flatMap f).Perm (f y++R)
 | [],s,h,y=>by simp at h
 | x::xs,0,h,y=>⟨xs.flatMap f,by simp,by simp⟩
 | x::xs,s+1,h,y=>by
  obtain⟨R,h1,h2⟩:=El f xs s (by simpa using h) y;refine⟨f x++R,?_,?_⟩
  ·simp only[List.flatMap_cons,List.getElem_cons_succ];refine (h1.append_left _).trans ?_;rw[<- zzg,<- zzg];exact vvn.append_right _
  simp only[List.set_cons_succ,List.flatMap_cons];refine (h2.append_left _).trans ?_;rw[<- zzg,<- zzg];exact vvn.append_right _
structure ry(xs:List (Ε × List Tm))(L:List Tm):Prop where
 len:xs.length=16
 at_:∀s (h:s<xs.length),∀t∈xs[s].2,md t.id 16=s
 perm:(xs.flatMap (·.2)).Perm L
 nodup:(L.map (·.id)).Nodup
def ry.sub{xs:List (Ε × List Tm)}{L:List Tm}(h:ry xs L)(s:Nat)(hs:s<xs.length):(xs[s].2.map (·.id)).Nodup/\∀t∈xs[s].2,t∈L:=by
 obtain⟨R,h1,_⟩:=El (·.2) xs s hs xs[s];have hp:=h1.symm.trans h.perm;have hn:=(hp.map (·.id)).nodup_iff.2 h.nodup
 grind
def ry.mem{xs:List (Ε × List Tm)}{L:List Tm}(h:ry xs L){t:Tm}(ht:t∈L):∃hs:md t.id 16<xs.length,t∈xs[md t.id 16].2:=by
 have:=h.perm.symm.subset ht;obtain⟨x,hx,htx⟩:=List.mem_flatMap.1 this;obtain⟨s,hs,rfl⟩:=xxc.1 hx;have e:=h.at_ s hs t htx
 grind
def ry.del{xs:List (Ε × List Tm)}{L:List Tm}(h:ry xs L){id:Int}{i:Nat}(hs:md id 16<xs.length)(hi:i<(xs[md id 16].2).length)(he:(xs[md id 16].2)[i].id=id)(v:Ε):
  ry (xs.set (md id 16) (v,(xs[md id 16].2).eraseIdx i)) (pg L id):=by
 obtain⟨hn,pW⟩:=h.sub _ hs;have e:=erase_filter _ i id hn ⟨hi,he⟩;refine⟨by simpa using h.len,λs mr t ht=>?_,?_,bm0 h.nodup id⟩
 ·rw[xx8]at ht
  split at ht
  ·rename_i es;subst es;exact h.at_ _ hs t (vve ht)
  exact h.at_ s (by simpa using mr) t ht
 obtain⟨R,h1,h2⟩:=El (·.2) xs (md id 16) hs (v,(xs[md id 16].2).eraseIdx i);refine h2.trans ?_;simp only;rw[<- e];have h3:=bm2 (h1.symm.trans h.perm) id;unfold pg at h3 ⊢;rw[xxj]at h3
 have hR:R.filter (λt=>decide (t.id≠id))=R:=by
  rw[yyy];intro t ht;have rV:=((h1.symm.trans h.perm).map (·.id)).nodup_iff.2 h.nodup
  grind
 grind
def ry.gone{xs:List (Ε × List Tm)}{L:List Tm}(h:ry xs L){id:Int}(hs:md id 16<xs.length)(hn:∀t∈xs[md id 16].2,t.id≠id):∀t∈L,t.id≠id:=λt ht e=>by
 obtain⟨_,hm⟩:=h.mem ht
 grind
def bfl{l:List Tm}{id:Int}{i:Nat}(h:l.findIdx? (λt=>decide (t.id=id))=some i):∃hi:i<l.length,l[i].id=id:=by
 obtain⟨hi,h1,_⟩:=yym.1 h
 grind
def bfm{l:List Tm}{id:Int}(h:l.findIdx? (λt=>decide (t.id=id))=none):∀t∈l,t.id≠id:=λt ht=>by
 grind
set_option maxRecDepth 100000
open Go.RowKit
abbrev lB(p:Ε × List Tm):zC:=bd p.1 328 2 p.2.length (p.2.map fu).flatten
def iW(xs:List (Ε × List Tm))(now:Int):Ξ:=xs.map (·.1)++[Γ now]
abbrev BI(wp:Nat)(xs:List (Ε × List Tm))(now:Int):Β:=[.pt wp (iW xs now) 144,.ob (zg lB xs)]
def gQ(wp:Nat)(L:List Tm)(now:Int):zC:=iX λxs:List (Ε × List Tm)=>zF (ry xs L) (BI wp xs now)
def gQ.iff{W w:Ζ}{wp:Nat}{L:List Tm}{now:Int}{l:Β}:SL W (.ob (gQ wp L now)::l) w↔∃xs,ry xs L/\SL W (.pt wp (iW xs now) 144::.ob (zg lB xs)::l) w:=by
 unfold gQ BI;simp only[SL.ex,SL.fact,zzn,zzo]
def KN{xs:List (Ε × List Tm)}{now:Int}{s o:Nat}{p:Ε × List Tm}(h:xs[s]?=some p)(ho:o=s):(iW xs now)[o]?=some p.1:=by
 subst ho;have hl:=(zzh.1 h).1;unfold iW;rw[zzy (by simpa using hl),uua,h];rfl
def DD{xs:List (Ε × List Tm)}{now:Int}(h:xs.length=16):(iW xs now)[0+16]?=some (Γ now):=by
 unfold iW;rw[yyk (by simp[h])];simp[h]
def bKc{xs:List (Ε × List Tm)}{now:Int}{s o:Nat}(hs:s<xs.length)(ho:o=s)(v:Ε)(l:List Tm):(iW xs now).set o v=iW (xs.set s (v,l)) now:=by
 subst ho;unfold iW;rw[www _ _ (by simpa using hs),vvj]
def bKd{xs:List (Ε × List Tm)}{now n2:Int}(h:xs.length=16):(iW xs now).set (0+16) (Γ n2)=iW xs n2:=by
 unfold iW;rw[vvo _ _ (by simp[h])];simp[h]
def YA(x:Int):SP 72 [Γ x] [] (bA (Γ (rC x)) []):=by
 refine Enzz λW F w hS=>?_;apply bJg;delta ai;refine Gp ?_;(exact bw hS)
def Yi(v:Int):SP 261 [Γ v] [] (bA (Γ (md v 16:Int)) []):=by
 refine Enzz λW F w hS=>?_;apply bGk;have hv:0<=IntKind.u64.wrap v:=by rw[ww1];omega
 refine zT ?_;refine ZO (by omega) ?_;have e:(IntKind.u64.wrap v).tmod 16=(md v 16:Int):=by
  rw[xx4 hv];unfold md;have:=ww8 (IntKind.u64.wrap v) (show (16:Int)≠0 by omega);omega
 rw[e];have:=fy v 16 (by decide);refine yz (by omega) ?_;(exact bw hS)
def bql(x:Int):SP 37 [Γ x] [] (λv post=>∃wp:Nat,v= Δ wp/\post=[.ob (gQ wp [] (rC x))]):=by
 refine Enzz λW F w hS=>?_;apply bIf;delta ai bc;refine Cg (YA x) λw hS=>?_;refine⟨_,rfl,zD hS ?_⟩;clear hS;intro wp w hS;have hS:SL W (.pt wp (iW (List.replicate 16 (.slice none 0 0,[])) (rC x)) 144::F) w:=hS;refine⟨_,⟨wp,rfl,rfl⟩,?_⟩;refine gQ.iff.2 ⟨List.replicate 16 (.slice none 0 0,[]),⟨by simp,λs h t ht=>(by rw[List.getElem_replicate]at ht;cases ht),by simp[List.replicate],by simp⟩,?_⟩;have hn:∀k,SL W (.ob (zg lB (List.replicate k (.slice none 0 0,[])))::.pt wp (iW (List.replicate 16 (.slice none 0 0,[])) (rC x)) 144::F) w:=by
  intro k;induction k with
  | zero=>exact zg.nil hS
  | succ k ih=>
   refine zg.iff.2 ?_;have:=zg.iff.1 ih;exact bd.nil this
 exact (hn 16).perm (.swap _ _ _)
def ye(wp:Nat)(L:List Tm)(now:Int):SP 48 [Δ wp] [.ob (gQ wp L now)] (bA (Γ now) [.ob (gQ wp L now)]):=by
 refine Enzz λW F w hS=>?_;apply bIp;delta bh;obtain⟨xs,hx,hS⟩:=gQ.iff.1 hS;refine Gp ?_;refine zV hS Xh (DD hx.len) ?_;exact⟨_,⟨rfl,rfl⟩,gQ.iff.2 ⟨xs,hx,hS⟩⟩
def qF(b:Nat)(id:Int)(t:Tm):SP 307 ([agg (fu t)]++(#[Δ b]:Array Ε).toList) [.pt b [Γ id] 3] (bA (.bool (decide (t.id=id))) [.pt b [Γ id] 3]):=by
 refine Enzz λW F w hS=>?_;apply bHk;delta aW;refine⟨_,rfl,zD hS ?_⟩;clear hS;intro b2 w hS;refine Gp ?_;exact bw hS
def q7(wp:Nat)(xs:List (Ε × List Tm))(now id:Int)(p:Ε × List Tm)(hp:xs[md id 16]?=some p)(wE:xs.length=16)(hn:p.2.length<=1000000):
  SP 260 [Δ wp,Γ id] (BI wp xs now) (bA (Γ (km (p.2.findIdx? λt=>decide (t.id=id)))) (BI wp xs now)):=by
 refine Enzz λW F w hS=>?_;apply bGj;delta bk;refine⟨rfl,zD hS ?_⟩;clear hS;intro b w hS;refine Gn λw hS=>?_;refine Cg (Yi id) λw hS=>?_;have hm:=fy id 16 (by decide);refine yB hm ?_;refine zV hS Xh (KN hp (by omega)) ?_;have hS:=zg.take (SL.bo hS (t:=.ob (zg lB xs)::.pt b [Γ id] 3::.pt wp (iW xs now) 144::F) Xi) hp;have hC:=Jf (t:=328) sJ rfl (λv0 v1 w R h=>bHj v0 v1 w R h) (λt=>qF b id t) p.1 p.2 (by omega);simp only[zzn,zzo]at hC;refine Cc (hC) ?_;clear hS;rintro v post ⟨rfl,rfl⟩ w hS;try simp only[app]at hS
 have hS:=zg.put (y:=p) (SL.bo hS (t:=.ob (lB p)::.ob (zg lB (xs.eraseIdx (md id 16)))::.pt wp (iW xs now) 144::F) Xi) (by omega);have e:xs.set (md id 16) p=xs:=by
  obtain⟨h1,h2⟩:=zzh.1 hp;rw[<- h2];simp
 rw[e]at hS
 (exact bw hS)
def bcg(wp:Nat)(L:List Tm)(now id:Int)(hn:L.length<=1000000):SP 211 [Δ wp,Γ id] [.ob (gQ wp L now)]
  (bA (.bool (decide (∃t∈L,t.id=id))) [.ob (gQ wp (pg L id) now)]):=by
 refine Enzz λW F w hS=>?_;apply bFc;delta aI bk br ai;obtain⟨xs,hx,hS⟩:=gQ.iff.1 hS;have hm:=fy id 16 (by decide);have hs:md id 16<xs.length:=by rw[hx.len];exact hm
 have hp:xs[md id 16]?=some xs[md id 16]:=by simp[hs]
 obtain⟨hnd,pW⟩:=hx.sub _ hs;have dm:(xs[md id 16].2).length<=1000000:=by
  obtain⟨R,h1,_⟩:=El (·.2) xs _ hs xs[md id 16];have:=(h1.symm.trans hx.perm).length_eq;rw[zza]at this;omega
 have hxd:=λi (hi:i<(xs[md id 16].2).length) he v=>hx.del hs (i:=i) hi he v;have bja:=hx.gone hs;generalize xs[md id 16]=p at *
 refine Cc (q7 wp xs now id p hp hx.len dm) ?_;clear hS;rintro v post ⟨rfl,rfl⟩ w hS;try simp only[app]at hS
 cases hf:p.2.findIdx? (λt=>decide (t.id=id)) with
 | none=>
  have dX:=bja (bfm hf);simp only[km];refine Gp ?_;refine Υ ?_;have e:decide (∃t∈L,t.id=id)=false:=by
   rw[xxr];rintro ⟨t,ht,he⟩;exact dX t ht he
  rw[e,bm1 dX];exact⟨_,⟨rfl,rfl⟩,gQ.iff.2 ⟨xs,hx,aR hS⟩⟩
 | some i=>
  obtain⟨hi,he⟩:=bfl hf;simp only[km];refine Gp ?_;refine Χ ?_;refine Cg (Yi id) λw hS=>?_;refine yB hm ?_;refine zV hS Xh (KN hp (by omega)) ?_;refine Gp ?_;have hS:=zg.take (SL.bo hS (t:=.ob (zg lB xs)::.pt wp (iW xs now) 144::F) Xi) hp;refine Cc (Hx (sz:=2) (gb:=16) (z:=[Γ 0,Γ 0]) (zv:=.agg #[Γ 0,Γ 0]) (λv0 v1 v2 w R h=>bGl v0 v1 v2 w R h) underlying141 (λw=>by kernel_rfl) rfl rfl (by simp[Value.oneCell']) p.1 p.2.length i (p.2.map fu).flatten hi (tc B6 _) (by omega) (by omega)) ?_;clear hS;rintro v post rfl w hS;try simp only[app]at hS
  refine yB hm ?_;have o1:v.oneCell'=true:=bd.one hS;refine ZA hS Xu (KN hp (by omega)) o1 ?_;clear hS;intro w hS;have ef:List.take (i*2) (p.2.map fu).flatten++List.drop ((i+1)*2) (p.2.map fu).flatten=((p.2.eraseIdx i).map fu).flatten:=by
   rw[sM sJ,uZ sJ,List.eraseIdx_eq_take_drop_succ];simp
  have el:p.2.length-1=(p.2.eraseIdx i).length:=by rw[uuj,zzc hi]
  rw[ef,el,bKc hs (by omega) v (p.2.eraseIdx i)]at hS
  have hS:=zg.put (y:=(v,p.2.eraseIdx i)) (SL.bo hS (t:=.ob (lB (v,p.2.eraseIdx i))::.ob (zg lB (xs.eraseIdx (md id 16)))::.pt wp (iW (xs.set (md id 16) (v,p.2.eraseIdx i)) now) 144::F) Xi) hs;have e:decide (∃t∈L,t.id=id)=true:=by
   rw[vv4];exact⟨_,pW _ (zzk hi),he⟩
  rw[e];exact⟨_,⟨rfl,rfl⟩,gQ.iff.2 ⟨_,hxd i hi he v,aR hS⟩⟩
def aIw{K:Ε->Prop}{w:Ζ}{xs:List (Ε × List Tm)}{k:Nat}{p:Ε × List Tm}(hp:xs[k]?=some p)(wE:k<16)(h:K p.1):dP prog (Instr.index 142 (.agg (xs.map (·.1)).toArray) (Γ (k:Int))) w K:=
 WK underlying142 (λw=>by kernel_rfl) (λw=>by kernel_rfl) wE (by rw[uua,hp];rfl) h
def bKb{xs:List (Ε × List Tm)}{now:Int}(h:xs.length=16):∀j v,(xs.map (·.1))[j]?=some v->(iW xs now)[0+0+j]?=some v:=λj v e=>by
 unfold iW;rw[zzy (by have:=(zzh.1 e).1;omega),show 0+0+j=j by omega];exact e
def jD(now:Int)(L:List Tm):List Tm:=L.filter λt=>decide (t.when<=now)
def bcz(wp:Nat)(xs:List (Ε × List Tm))(now:Int)(wE:xs.length=16)(hn:(xs.flatMap (·.2)).length<=1000000):SP 205 [Δ wp] (BI wp xs now)
  (λv post=>post=[.pt wp (iW xs now) 144,.ob (zg lB xs),.ob (bd v 328 2 (jD now (xs.flatMap (·.2))).length ((jD now (xs.flatMap (·.2))).map fu).flatten)]):=by
 refine Enzz λW F w hS=>?_;apply bE7;delta aI bh aW bk ai bc;refine Gp ?_;refine yh (vs:=xs.map (·.1)) hS Xh (by simp[wE]) (bKb wE) ?_;have hf:∀k (h:k<xs.length),(xs.take (k+1)).flatMap (·.2)=(xs.take k).flatMap (·.2)++xs[k].2:=λk h=>by
  rw[zze h,uup];simp
 have dh:∀k,((xs.take k).flatMap (·.2)).length<=1000000:=λk=>by
  have:xs=xs.take k++xs.drop k:=by simp
  rw[this,uup,zza]at hn;omega
 refine⟨λus w=>∃(k:Nat) (v:Ε),us=[v,Γ k]/\k<=16/\SL W (.ob (bd v 328 2 (jD now ((xs.take k).flatMap (·.2))).length ((jD now ((xs.take k).flatMap (·.2))).map fu).flatten)::.pt wp (iW xs now) 144::.ob (zg lB xs)::F) w,
  λus _=>match us with|[_,.int _ k]=>(16-k).toNat|_=>0,⟨0,_,rfl,by omega,bd.nil hS⟩,?_⟩
 clear hS;rintro v3 v10 w ⟨k,v,hv,hk,hS⟩;cases hv;refine bj (λh=>?_) (λh=>?_)
 ·have E6:k<xs.length:=by omega
  have hp:xs[k]?=some xs[k]:=by simp[E6]
  have h1:=hf k E6;have h2:=dh (k+1);refine aIw hp (by omega) ?_;rw[h1,zza]at h2
  have lj:∀(v:Ε) (w:Ζ),SL W (.ob (bd v 328 2 (jD now ((xs.take (k+1)).flatMap (·.2))).length ((jD now ((xs.take (k+1)).flatMap (·.2))).map fu).flatten)::.pt wp (iW xs now) 144::.ob (zg lB xs)::F) w ->
    (∃(k':Nat) (v':Ε),([v,Γ (k+1:Nat)]:Ξ)=[v',Γ k']/\k'<=16/\SL W (.ob (bd v' 328 2 (jD now ((xs.take k').flatMap (·.2))).length ((jD now ((xs.take k').flatMap (·.2))).map fu).flatten)::.pt wp (iW xs now) 144::.ob (zg lB xs)::F) w) /\
    ((16:Int)-((k+1:Nat):Int)).toNat<((16:Int)-(k:Int)).toNat:=λv w hS=>⟨⟨k+1,v,rfl,by omega,hS⟩,by omega⟩
  rw[h1]at lj
  have hT:=λ{A:Β} {w:Ζ} (hS:SL W (.ob (zg lB xs)::A) w)=>zg.take hS hp;generalize xs[k]=p at *
  generalize (xs.take k).flatMap (·.2)=A at *
  have tP:=hT (SL.bo hS (t:=.ob (zg lB xs)::F) Xi);refine zy tP .hd ?_;clear tP;refine⟨λus w=>∃(j:Nat) (v:Ε),us=[v,Γ j]/\j<=p.2.length/\SL W (.ob (bd v 328 2 (jD now (A++p.2.take j)).length ((jD now (A++p.2.take j)).map fu).flatten)::.pt wp (iW xs now) 144::.ob (zg lB xs)::F) w,
   λus _=>match us with|[_,.int _ j]=>(p.2.length-j).toNat|_=>0,⟨0,_,rfl,by omega,by simpa using hS⟩,?_⟩
  clear hS;rintro v4 v17 w ⟨j,v,hv,hj,hS⟩;cases hv;refine bj (λh=>?_) (λh=>?_)
  ·have fY:j<p.2.length:=by omega
   have tP:=hT (SL.bo hS (t:=.ob (zg lB xs)::F) Xi);refine zX tP .hd sJ (x:=p.2[j]) (by simp[fY]) fY ?_;clear tP;have kj:jD now (A++p.2.take (j+1))=if p.2[j].when<=now then jD now (A++p.2.take j)++[p.2[j]] else jD now (A++p.2.take j):=by
    unfold jD;rw[zze fY,<- zzg,xxj (l₁:=A++p.2.take j)];by_cases hw:p.2[j].when<=now<;>simp[hw]
   have ow:(jD now (A++p.2.take j)).length<=1000000:=by
    refine yy1 (yy7 _ _) ?_;rw[zza,zzf];omega
   generalize p.2[j]=t at kj;refine zD hS ?_;clear hS;intro b w hS;refine zr (vs:=fu t) hS .hd rfl rfl (B6 _) ?_;clear hS;intro w hS;refine Gn λw hS=>?_;refine zV hS Xh (DD wE) ?_;refine bj (λhw=>?_) (λhw=>?_)
   ·refine zz hS .hd rfl ?_;refine zR (cells:=fu t) hS (by simp[gT,bE,Value.cells,fu]) ?_;clear hS;intro b2 w hS;rw[zzc hw]at kj
    refine zL (m:=1) hS Xr (jx (cs:=fu t) hS .hd rfl) rfl rfl (B6 _) (by omega) (by omega) ?_;clear hS;intro v' w hS;refine Gp ?_;refine⟨⟨j+1,v',by simp,by omega,?_⟩,by dsimp only;omega⟩;rw[kj,u0,zza,yyb];exact aR hS
   rw[zzb hw]at kj
   refine Gp ?_;refine⟨⟨j+1,v4,by simp,by omega,?_⟩,by dsimp only;omega⟩;rw[kj];exact aR hS
  have hjj:j=p.2.length:=by omega
  subst hjj;rw[zz0]at hS
  refine Gp ?_;exact lj v4 w hS
 have E6:k=16:=by omega
 subst E6;have e:xs.take 16=xs:=by rw[<- wE,zz0]
 rw[e]at hS
 exact⟨_,rfl,aR hS⟩
