/- Part of the proof. -/
import Derived.Test.YtmkllimamejcgaaGreatJ11
import Derived.Lib.ConvBytes
import Derived.Laws.AppendOwn
import Derived.Test.YtmkllimamejcgaaGreatQVcW
namespace Go.Proofs.YtmkllimamejcgaaGreat
set_option linter.all false
open Go.RowKit
section
variable {W w:Ζ} {l:Β} {P:Program}
def Yf{src dst e:Ι}{u:TypeDesc}{bs:Φ}{K:Ε->Ζ->Prop}(hS:SL W l w)(h1:P.underlying src=some u)(h2:P.underlying dst=some (.slice e))(h3:P.underlying e=some (.int .u8))
  (h:∀v w',SL W (.ob (bI v e 1 bs.length (bs.map cX))::l) w'->K v w'):zR P (convert src dst (.string (dW bs))) w K:=by
 refine⟨_,_,Lib.run_convert_string_bytes w src dst e (dW bs) h1 h2 h3,h _ _ ?_⟩;have hg:(dW bs).size<=grownCap w (dW bs).size 0 e:=grownCap_ge _ _ _ _;have e1:(Lib.bytesCells w e (dW bs)).toList=bs.map cX++List.replicate (grownCap w bs.length 0 e-bs.length) (.int .u8 0):=by
  unfold Lib.bytesCells;rw[mM];simp[dW,cX]
 have hn:SL W (.pt w.heap.size (Lib.bytesCells w e (dW bs)).toList e::l) (w.drew.alloc (.cells (Lib.bytesCells w e (dW bs)) e)):=by
  have:=(hS.drew).new (cs:=(Lib.bytesCells w e (dW bs)).toList) (t:=e);simpa using this
 have hm:=hn.mark (n:=(Lib.bytesCells w e (dW bs)).size) .hd (by simp);rw[e1]at hm
 rw[mM]at hg ⊢
 exact bI.mk hg (by simp) (by simp) hm
end
structure rO(H:bw)(vs:List iA)(zs:List cD):Prop where
 len:vs.length=zs.length
 at_:∀j (h:j<vs.length) (h':j<zs.length),gZ H vs[j] zs[j]
def rO.mono{H H':bw}(hh:H.le H'){vs:List iA}{zs:List cD}(h:rO H vs zs):rO H' vs zs:=⟨h.len,λj a b=>(h.at_ j a b).mono hh⟩
def rO.snoc{H:bw}{vs:List iA}{zs:List cD}(h:rO H vs zs){x:iA}{z:cD}(hx:gZ H x z):rO H (vs++[x]) (zs++[z]):=by
 have hl:=h.len;refine⟨by simp[hl],λj a b=>?_⟩;by_cases hj:j<vs.length
 ·rw[wwl hj,wwl (by omega)];exact h.at_ j hj (by omega)
 have e:j=vs.length:=by rw[zza,zz7]at a;omega
 subst e;rw[ww5 (zzi _),ww5 (by omega)];simpa [hl] using hx
set_option maxRecDepth 100000
def iy(x:cD):Η:=dW (gh x)
def Ws:∀{l:List cD} {b:Int} {i:Nat} (h:fH b l) (hi:i<l.length),iM b (l.take i)<l[i].aw
 | [],_,_,_,hi=>absurd hi (by simp)
 | x::l,b,0,h,_=>h.1
 | x::l,b,i+1,h,hi=>Ws (l:=l) (b:=x.aw) h.2 (by simpa using hi)
structure BN(cM:Nat)(zs:List cD):Prop where
 it:∀x∈zs,uW cM x
 jP:fH 0 zs
 le:zs.length<=64
def BN.at{cM:Nat}{zs:List cD}(h:BN cM zs)(i:Nat)(hi:i<=zs.length):nh cM (jZ (zs.take i)) i:=by
 have:=Dg (n:=cM) (l:=zs.take i) (λx hx=>h.it x (yyo hx)) (h.jP.take i);rw[zzf,xxn hi]at this
 exact this
def BN.lt{cM:Nat}{zs:List cD}(h:BN cM zs){i:Nat}(hi:i<zs.length):(jZ (zs.take i)).aw<zs[i].aw:=by
 rw[U0];exact Ws h.jP hi
def nj.add{W w:Ζ}{l:Β}{v:Ε}{A B:List gl}(h:SL W (.ob (bI v 390 5 (A.length+B.length) ((A.map jB).flatten++(B.map jB).flatten))::l) w):SL W (nj v (A++B)::l) w:=by
 rw[show nj v (A++B)= .ob (bI v 390 5 (A.length+B.length) ((A.map jB).flatten++(B.map jB).flatten)) by simp[nj]];exact h
def ni.add{W w:Ζ}{l:Β}{v:Ε}{A B:List il}(h:SL W (.ob (bI v 393 7 (A.length+B.length) ((A.map kI).flatten++(B.map kI).flatten))::l) w):SL W (ni v (A++B)::l) w:=by
 rw[show ni v (A++B)= .ob (bI v 393 7 (A.length+B.length) ((A.map kI).flatten++(B.map kI).flatten)) by simp[ni]];exact h
def b_i(A:List gl):∀v∈(A.map jB).flatten,v.oneCell'=true:=λv hv=>by
 obtain⟨l,hl,h⟩:=xx8.1 hv;obtain⟨o,_,rfl⟩:=zzv.1 hl;exact Cd o v h
def bZl(A:List il):∀v∈(A.map kI).flatten,v.oneCell'=true:=λv hv=>by
 obtain⟨l,hl,h⟩:=xx8.1 hv;obtain⟨o,_,rfl⟩:=zzv.1 hl;exact HH o v h
def QH(H:bw)(v:Ε)(vs:List iA)(zs:List cD)(hv:dx H 3 v vs.length (vs.map eJ).flatten)(hi:rO H vs zs){cM:Nat}(hj:BN cM zs)(dO:zs≠[]):
  SP 300 [v] [.mem H] (λu post=>∃xv H',H.le H'/\u= .tuple #[agg (eJ xv),Γ 0]/\gZ H' xv (jZ zs)/\post=[.mem H']):=by
 refine Enzz λW F w hS=>?_;apply cHw;delta N9 aI a_ cL B1 ai cP bR;have hlen:=hi.len;have HZ:=hj.le;refine Gb λrb w hS=>?_;refine Gb λob w hS=>?_;refine zo hv ?_;have hS:=bI.nil (t:=390) (sz:=5) hS;have hS:=bI.nil (t:=393) (sz:=7) hS;have hS:SL W (ni Θ (jZ (zs.take 0)).notes::nj Θ (jZ (zs.take 0)).ops::.pt ob [Γ (jZ (zs.take 0)).aw,Θ,Θ] 214::_) _:=hS;refine⟨λus w=>∃(i:Nat) (ov nv:Ε),us=[.bool true,Γ i]/\i<=zs.length/\SL W (nj ov (jZ (zs.take i)).ops::ni nv (jZ (zs.take i)).notes::.pt ob [Γ (jZ (zs.take i)).aw,ov,nv] 214::.pt rb [Γ 0,Θ,Θ] 214::.mem H::F) w,
  λus _=>match us with|[_,.int _ i]=>(zs.length-i).toNat|_=>0,⟨0,Θ,Θ,rfl,zz4 _,aW hS⟩,?_⟩
 clear hS;rintro v5 v10 w ⟨i,ov,nv,cO,cx,hS⟩;cases cO;refine Gp ?_;have iX:=hj.at i cx;refine za (λh=>?_) (λh=>?_)
 ·have tn:i<vs.length:=by omega
  have l8:i<zs.length:=by omega
  have hx:=hi.at_ i tn l8;have hw:=hj.it _ (zzg l8);have dd:=hj.lt l8;refine zD hS Xh a_3 hv (zzd tn) tn ?_;have ht:=bWs l8;generalize zs[i]=z at *
  generalize vs[i]=x at *
  have hex:eJ x=[Γ z.aw,x.ov,x.nv]:=by unfold eJ;rw[hx.aw]
  refine Gb λxb w hS=>?_;refine zr hS Xu rfl rfl (mq hx) λw hS=>?_;refine zA hS Xh rfl ?_;refine Cc (zZ H x z hx) ?_;clear hS;rintro _ post ⟨rfl,rfl⟩ w hS;try simp only[app]at hS
  rw[hw.may];refine Gp ?_;refine zp ?_;rw[hex]at hS
  have hz5:=hw.ops;have Uw:=hw.iN;have gM:=iX.len;have ID:=iX.iN;generalize hP:jZ (zs.take i)=P at *
  refine⟨λus w=>us=[.bool true]/\SL W (.pt xb [Γ z.aw,x.ov,x.nv] 214::nj ov P.ops::ni nv P.notes::.pt ob [Γ P.aw,ov,nv] 214::.pt rb [Γ 0,Θ,Θ] 214::.mem H::F) w,?_,?_⟩
  ·refine Gp ?_;rw[zzl dd];exact⟨rfl,aW hS⟩
  clear hS;rintro _ w ⟨cO,hS⟩;cases cO;refine Gn λw hS=>?_;refine zJ (n:=P.ops.length) (m:=z.ops.length) hS Xr (Ko hS Xh hx.ops) (by rw[Cn wJ]) rfl (b_i _) (by omega) (by omega) λJ0 w hS=>?_;have hS:=nj.add hS;have o1:=bI.one hS;refine Gn λw hS=>?_;refine zJ (n:=P.notes.length) (m:=z.notes.length) hS Xr (Ko hS Xh hx.iN) (by rw[Cn wI]) rfl (bZl _) (by omega) (by omega) λJP w hS=>?_;have hS:=ni.add hS;have o2:=bI.one hS;refine Gn λw hS=>?_;refine⟨⟨i+1,J0,JP,rfl,by omega,?_⟩,by dsimp only;omega⟩;rw[ht];show SL W (nj J0 (P.ops++z.ops)::ni JP (P.notes++z.notes)::.pt ob [Γ z.aw,J0,JP] 214::_) w;exact aW hS
 have jL:i=zs.length:=by omega
 subst jL;have xw:0<zs.length:=xx2.2 dO;rw[zz0]at hS iX
 have gM:=iX.len;have ID:=iX.iN;generalize jZ zs=P at *
 refine zo hv ?_;refine Gp ?_;refine za (λh0=>by omega) (λh0=>?_);refine Gp ?_;refine zt hS (v:=ov) (t:=390) (sz:=5) (n:=P.ops.length) (cells:=(P.ops.map jB).flatten) Xh ?_;refine Gp ?_;refine za (λh0=>by omega) (λh0=>?_);refine Gp ?_;refine zt hS (v:=nv) (t:=393) (sz:=7) (n:=P.notes.length) (cells:=(P.notes.map kI).flatten) Xh ?_;refine Gp ?_;refine za (λh1=>by omega) (λh1=>?_);refine Gp ?_;refine zp ?_;have o1:=bI.one (Has.front (c:=nj ov P.ops) hS Xr);have o2:=bI.one (Has.front (c:=ni nv P.notes) hS Xr);obtain⟨H1,dj,jC,hS⟩:=zz (H:=H) (v:=ov) hS Xp;obtain⟨H2,dQ,pH,hS⟩:=zz (H:=H1) (v:=nv) hS Xp;refine zA hS Xh rfl ?_;refine zr (vs:=[Γ P.aw,ov,nv]) hS Xu rfl rfl (mq (x:=⟨P.aw,ov,nv⟩) (t:=P) ⟨rfl,jC.mono dQ,pH⟩) λw hS=>?_;refine zA hS Xh rfl ?_;exact⟨_,⟨⟨P.aw,ov,nv⟩,H2,bw.le_trans dj dQ,rfl,⟨rfl,jC.mono dQ,pH⟩,rfl⟩,aW hS⟩
structure sU where
 wp:Nat
 kp:Nat
 gp:Nat
 dp:Nat
 lp:Nat
 pp:Nat
 qp:Nat
 qb:Nat
 rp:Nat
abbrev oD(kp qp rp cJ:Nat)(l:Int)(ov nv:Ε)(n:Nat):Ξ:=[iH kp,iH qp,iH rp,Γ cJ,Γ l,ov,nv,Γ n]
def dt(p:sU)(c:dU)(H:bw)(s:fo):zC:=jF λh:Ε × Ε=>zH (gZ H ⟨s.held.aw,h.1,h.2⟩ s.held)
 [.pt p.wp (oD p.kp p.qp p.rp c.cJ s.held.aw h.1 h.2 s.n) 216,.ob (db p.kp p.gp p.dp p.lp p.pp H s.k),.ob (Gate p.qp p.qb c.cap s.out (s.L.map iy)),ki p.rp c.b c.m c.j s.fR s.eK]
section
variable {W w:Ζ} {l F:Β} {p:sU} {c:dU} {H:bw} {s:fo}
def dt.iff:SL W (.ob (dt p c H s)::l) w↔∃ov nv,gZ H ⟨s.held.aw,ov,nv⟩ s.held/\SL W (.pt p.wp (oD p.kp p.qp p.rp c.cJ s.held.aw ov nv s.n) 216::.ob (db p.kp p.gp p.dp p.lp p.pp H s.k)::.ob (Gate p.qp p.qb c.cap s.out (s.L.map iy))::ki p.rp c.b c.m c.j s.fR s.eK::l) w:=by
 unfold dt;simp only[SL.ex,SL.fact,zzu,zzq];exact⟨λ⟨x,h⟩=>⟨x.1,x.2,h⟩,λ⟨a,b,h⟩=>⟨(a,b),h⟩⟩
def dt.open(hS:SL W l w)(r:fY (.ob (dt p c H s)) l F):∃ov nv,gZ H ⟨s.held.aw,ov,nv⟩ s.held/\SL W (.pt p.wp (oD p.kp p.qp p.rp c.cJ s.held.aw ov nv s.n) 216::.ob (db p.kp p.gp p.dp p.lp p.pp H s.k)::.ob (Gate p.qp p.qb c.cap s.out (s.L.map iy))::ki p.rp c.b c.m c.j s.fR s.eK::F) w:=dt.iff.1 (hS.perm r.perm)
def dt.put(s:fo){ov nv:Ε}(hS:SL W l w)(hi:gZ H ⟨s.held.aw,ov,nv⟩ s.held)(k:gx [.pt p.wp (oD p.kp p.qp p.rp c.cJ s.held.aw ov nv s.n) 216,.ob (db p.kp p.gp p.dp p.lp p.pp H s.k),.ob (Gate p.qp p.qb c.cap s.out (s.L.map iy)),ki p.rp c.b c.m c.j s.fR s.eK] l F):SL W (.ob (dt p c H s)::F) w:=dt.iff.2 ⟨ov,nv,hi,hS.pick k⟩
def dt.eO{k:cN}{L:List cD}{out n:Nat}{fR eK:Int}{held:cD}{ov nv:Ε}(hS:SL W l w)(hi:gZ H ⟨held.aw,ov,nv⟩ held)(q:gx [.pt p.wp (oD p.kp p.qp p.rp c.cJ held.aw ov nv n) 216,.ob (db p.kp p.gp p.dp p.lp p.pp H k),.ob (Gate p.qp p.qb c.cap out (L.map iy)),ki p.rp c.b c.m c.j fR eK] l F):SL W (.ob (dt p c H ⟨k,L,out,fR,eK,held,n⟩)::F) w:=dt.iff.2 ⟨ov,nv,hi,hS.pick q⟩
def dt.mono{H':bw}(hh:H.le H')(h:SL W (.ob (dt p c H s)::l) w):SL W (.ob (dt p c H' s)::l) w:=by
 obtain⟨ov,nv,hi,hS⟩:=dt.iff.1 h;have hS:=db.jm hh hS Xr;exact dt.put s hS (hi.mono hh) Xp
def dt.jm{H':bw}(hh:H.le H')(hS:SL W l w)(r:fY (.ob (dt p c H s)) l F):SL W (.ob (dt p c H' s)::F) w:=dt.mono hh (hS.perm r.perm)
def Gate.cnj{g b cap out:Nat}{L:Ψ}(hS:SL W l w)(hA:L.length+out<=cap/\cap<=64)(k:gx [.pt g [Δ b,Γ out] 125,.ob (Ring b cap L)] l F):SL W (.ob (Gate g b cap out L)::F) w:=Gate.close hA (hS.pick k)
def bFs{g b cap out:Nat}{L:Ψ}(hS:SL W l w)(r:fY (.ob (Gate g b cap out L)) l F):(L.length+out<=cap/\cap<=64)/\SL W (.pt g [Δ b,Γ out] 125::.ob (Ring b cap L)::F) w:=Gate.open (hS.perm r.perm)
end
def cLa(kp qp rp n:Nat)(h1:1<=n)(h2:n<=64):SP 149 [iH kp,iH qp,iH rp,Γ n] [] (λv post=>∃p:Nat,v= .tuple #[iH p,Γ 0]/\post=[.pt p (oD kp qp rp n 0 Θ Θ 0) 216]):=by
 refine Enzz λW F w hS=>?_;apply cD4;delta LO aI ai cT bR;refine Gp ?_;refine za (λh=>by omega) (λ_=>?_);refine Gp ?_;refine za (λh=>by omega) (λ_=>?_);refine Gp ?_;refine⟨_,rfl,zE hS λp w hS=>?_⟩;exact⟨_,⟨p,rfl,rfl⟩,hS⟩
def ZO(p:sU)(c:dU)(H:bw)(s:fo)(now:Int):SP 65 [iH p.wp,Γ now] [.ob (dt p c H s)] (cC (.bool (s.ready now)) [.ob (dt p c H s)]):=by
 refine Enzz λW F w hS=>?_;apply cJ5;delta Pm aI bU ai;obtain⟨ov,nv,hi,hS⟩:=dt.iff.1 hS;refine Gp ?_;unfold fo.ready;refine za (λh=>?_) (λh=>?_)
 ·rw[zzc (by omega)];refine Gp ?_;refine Cg (qV p.rp c.b c.m c.j s.fR s.eK now) λw hS=>?_;have hS:=dt.put s hS hi Xp;(exact cA hS)
 rw[zzb (by omega)];refine Gp ?_;obtain⟨hg,hS⟩:=bFs hS Xr;refine Gp ?_;refine Cg (yv p.qb c.cap (s.L.map iy)) λw hS=>?_;rw[zzn];have hS:=Gate.cnj hS hg Xp;have hS:=dt.put s hS hi Xp;have e:decide ((0:Int)<(s.L.length:Int))=decide (0<s.L.length):=by rw[yyg];omega
 rw[e];(exact cA hS)
def cAx{x:cD}(h:ep x=true):nA (gh x)= .ok x:=Rc h
def bWo{H:bw}{vs:List iA}{L:List cD}{i:Nat}(h:rO H vs (L.take i))(hi:i<L.length){x:iA}(hx:gZ H x L[i]):rO H (vs++[x]) (L.take (i+1)):=by
 rw[zze hi];exact h.snoc hx
def cK7(p:sU)(c:dU)(H:bw)(s:fo){cM f:Nat}(hI:pq c cM s f)(hn:s.n=0)(hL:0<s.L.length):
  SP 237 [iH p.wp] [.ob (dt p c H s),.mem H] (λv post=>v= Γ 0/\∃H',H.le H'/\post=[.ob (dt p c H' (s.hold c.cJ)),.mem H']):=by
 refine Enzz λW F w hS=>?_;apply cGj;delta Nk aI bU cV bV cL ai bR;obtain⟨ov,nv,hi,hS⟩:=dt.iff.1 hS;have gB:=hI.vK;have jV:=hI.cJ;have AZ:=hI.room;have oU:=hI.cap;obtain⟨F2,uk⟩:∃F2,F2=ki p.rp c.b c.m c.j s.fR s.eK::F:=⟨_,rfl⟩;have hS:=SL.bZ hS (t:=.pt p.wp (oD p.kp p.qp p.rp c.cJ s.held.aw ov nv s.n) 216::.ob (db p.kp p.gp p.dp p.lp p.pp H s.k)::.ob (Gate p.qp p.qb c.cap s.out (s.L.map iy))::.mem H::ki p.rp c.b c.m c.j s.fR s.eK::F) Xi;rw[<- uk]at hS
 have gL:s.hold c.cJ=⟨s.k,s.L.drop (min c.cJ s.L.length),s.out+min c.cJ s.L.length,s.fR,s.eK,jZ (s.L.take (min c.cJ s.L.length)),min c.cJ s.L.length⟩:=by
  unfold fo.hold;rw[zzc hn];rcases Nat.le_total c.cJ s.L.length with h|h
  ·rw[xxn h]
  rw[Nat.min_eq_right h,yy3 h,zz2 h,yy3 (zzi _),zz2 (zzi _)]
 have hm:∃m,m=min c.cJ s.L.length:=⟨_,rfl⟩;obtain⟨m,hm⟩:=hm;rw[<- hm]at gL
 refine⟨λus w=>∃(lv:Ε) (vs:List iA) (H2:bw),us=[lv]/\H.le H2/\rO H2 vs (s.L.take m)/\SL W (.ob (bI lv 214 3 vs.length (vs.map eJ).flatten)::.pt p.wp (oD p.kp p.qp p.rp c.cJ s.held.aw ov nv s.n) 216::.ob (db p.kp p.gp p.dp p.lp p.pp H2 s.k)::.ob (Gate p.qp p.qb c.cap (s.out+m) ((s.L.drop m).map iy))::.mem H2::F2) w,?_,?_⟩
 ·have hS:=bI.nil (t:=214) (sz:=3) hS;have hS:SL W (.ob (bI Θ 214 3 ([]:List iA).length (([]:List iA).map eJ).flatten)::.pt p.wp (oD p.kp p.qp p.rp c.cJ s.held.aw ov nv s.n) 216::.ob (db p.kp p.gp p.dp p.lp p.pp H s.k)::.ob (Gate p.qp p.qb c.cap (s.out+0) ((s.L.drop 0).map iy))::.mem H::F2) w:=hS;refine⟨λus w=>∃(i:Nat) (lv:Ε) (vs:List iA) (H2:bw),us=[lv]/\vs.length=i/\i<=c.cJ/\i<=s.L.length/\H.le H2/\rO H2 vs (s.L.take i)/\SL W (.ob (bI lv 214 3 vs.length (vs.map eJ).flatten)::.pt p.wp (oD p.kp p.qp p.rp c.cJ s.held.aw ov nv s.n) 216::.ob (db p.kp p.gp p.dp p.lp p.pp H2 s.k)::.ob (Gate p.qp p.qb c.cap (s.out+i) ((s.L.drop i).map iy))::.mem H2::F2) w,
   λus _=>match us with|[.slice _ n _]=>c.cJ-n|_=>0,⟨0,Θ,[],H,rfl,rfl,by omega,by omega,bw.le_refl H,⟨rfl,λj h=>by simp at h⟩,hS⟩,?_⟩
  clear hS;rintro lv w ⟨i,_,vs,H2,cO,Jd,lC,cx,fA,AF,hS⟩;cases cO;obtain⟨a,cp,rfl,_⟩:=bI.at hS .hd;subst Jd;refine bY (λh=>?_) (λh=>?_)
  ·refine Gp ?_;by_cases jL:vs.length=s.L.length
   ·have e0:s.L.drop vs.length=[]:=yy3 (by omega);rw[e0,yy4]at hS
    refine Cg (bF3 p.qp p.qb c.cap (s.out+vs.length)) λw hS=>?_;refine zq ?_;have nF:m=vs.length:=by omega
    subst nF;have e1:([]:Ψ)=(s.L.drop vs.length).map iy:=by rw[e0];rfl
    rw[e1]at hS
    exact⟨_,vs,H2,rfl,fA,AF,aW hS⟩
   have l8:vs.length<s.L.length:=by omega
   have hw:=hI.it _ (zzg l8);have bIu:=λ{H3:bw} (gb:H2.le H3) {x:iA} (hx:gZ H3 x s.L[vs.length])=>bWo (AF.mono gb) l8 hx;rw[yyq l8,zzo]at hS
   generalize s.L[vs.length]=z at *
   refine Cg (bF4 p.qp p.qb c.cap (s.out+vs.length) (iy z) ((s.L.drop (vs.length+1)).map iy)) λw hS=>?_;refine zp ?_;refine Yf (bs:=gh z) hS yy1 xxm wwk λbv w hS=>?_;refine Cc (YI (.ob (bI bv 5 1 (gh z).length ((gh z).map cX))) H2 bv (gh z) dP.own) ?_;clear hS;rintro r post hq w hS;unfold vV at hq;rw[cAx hw.may]at hq
   obtain⟨x,H3,gb,rfl,hx,rfl⟩:=hq;try simp only[app]at hS
   have hS:=db.jm gb hS Xr;refine Gm λb w hS=>?_;refine zr hS Xu rfl rfl (mq hx) λw hS=>?_;refine Gp ?_;refine za (λh=>absurd rfl h) (λ_=>?_);refine zA hS Xh rfl ?_;refine Gb λyb w hS=>?_;refine zJ (n:=vs.length) (m:=1) hS Xr (j8 (cs:=eJ x) hS Xh rfl) rfl rfl (mq hx) (by omega) (by omega) λlv2 w hS=>?_;rw[<- vj]at hS
   rw[show s.out+vs.length+1=s.out+(vs.length+1) by omega]at hS
   have hS:=hS.pY (xs:=vs) (x:=x);obtain⟨a2,cp2,rfl,_⟩:=bI.at hS .hd;refine⟨⟨vs.length+1,_,vs++[x],H3,rfl,by simp,by omega,by omega,bw.le_trans fA gb,bIu gb hx,aW hS⟩,?_⟩;simp only[zza,zz7];omega
  have nF:m=vs.length:=by omega
  subst nF;exact⟨_,vs,H2,rfl,fA,AF,aW hS⟩
 clear hS;rintro lv w ⟨_,vs,H2,cO,fA,AF,hS⟩;cases cO;obtain⟨H3,gb,hR,hS⟩:=zz (H:=H2) (v:=lv) hS Xp;have hS:=db.jm gb hS Xr;have dO:s.L.take m≠[]:=λh=>by
  have:=yyu List.length h;rw[zzf,yyp]at this
  omega
 have Jd:vs.length=m:=by have:=AF.len;rw[zzf]at this;omega
 refine Cc (QH H3 lv vs (s.L.take m) hR (AF.mono gb) (cM:=cM) ⟨λx hx=>hI.it x (yyo hx),hI.jP.take _,by rw[zzf];omega⟩ dO) ?_;clear hS;rintro _ post ⟨xv,H4,oS,rfl,hx,rfl⟩ w hS;try simp only[app]at hS
 have hS:=db.jm oS hS Xr;have jY:=hx.aw;obtain⟨xl,xo,xn⟩:=xv;simp only at jY;subst jY;refine Gm λb w hS=>?_;refine zr hS Xu rfl rfl (mq hx) λw hS=>?_;refine Gp ?_;refine za (λ_=>?_) (λh=>absurd rfl h);refine zA hS Xh rfl ?_;refine zo hR ?_;rw[Jd];refine Gp ?_;refine Ye (o:=4) (vs:=eJ ⟨(jZ (s.L.take m)).aw,xo,xn⟩) hS Xu rfl (by show 7<=8;decide) (mq hx) λw hS=>?_;simp only[eJ,List.take,List.drop,zzu,zzq]at hS;refine Gn λw hS=>?_;rw[gL];rw[uk]at hS
 have hS:=dt.eO (p:=p) (c:=c) (held:=jZ (s.L.take m)) (n:=m) hS hx Xp;exact⟨_,⟨rfl,H4,bw.le_trans fA (bw.le_trans gb oS),rfl⟩,aW hS⟩
def cK6(kp gp dp lp pp:Nat)(H:bw)(k:cN)(x:iA)(t:cD)(hx:gZ H x t)(hi:BM t)(xh:∀o∈t.ops,lg o.key){N m:Nat}(hk:BO k N m):
  SP 238 [agg [iH kp],agg (eJ x)] [.ob (db kp gp dp lp pp H k),.mem H] (x_ kp gp dp lp pp H (k.fP t)):=by
 refine Enzz λW F w hS=>?_;apply cGk;delta Nl a_;refine zw hS λab w hS=>?_;refine zw hS λxb w hS=>?_;refine Gp ?_;refine Cc (YU kp gp dp lp pp H k x t hx hi xh hk) ?_;clear hS;rintro v post ⟨rfl,H',hh,rfl⟩ w hS;try simp only[app]at hS
 exact⟨_,⟨rfl,H',hh,rfl⟩,aW hS⟩
def Z'(O:bw->fo->Μ)(H:bw)(y:fo × Int × Int)(v:Ε)(post:Β):Prop:=v= .tuple #[Γ y.2.1,Γ y.2.2]/\∃H',H.le H'/\post=[O H' y.1,.mem H']
def pq.iok{c:dU}{cM f:Nat}{s:fo}(h:pq c cM s f)(hn:0<s.n):ep s.held=true/\BM s.held/\∀o∈s.held.ops,lg o.key:=by
 have h1:=h.room;have h2:=h.out;have h3:=h.cap;rcases h.held with ⟨h4,_⟩|⟨_,h4⟩
 ·omega
 have hm:=(h4.may hn (by omega)).1;exact⟨hm,Jz hm⟩
def bWm{a b c d:Ε}{l:Int}{ov nv e:Ε}:∀j v,([Γ l,ov,nv]:Ξ)[j]?=some v->[a,b,c,d,Γ l,ov,nv,e][4+j]?=some v
 | 0,v,h=>h
 | 1,v,h=>h
 | 2,v,h=>h
 | j+3,v,h=>by simp at h
def cLh(p:sU)(c:dU)(H:bw)(s:fo)(now draw:Int){cM f N m:Nat}(hI:pq c cM s f)(hf:f<=1000000)(hk:BO s.k N m):
  SP 176 [iH p.wp,Γ now,Γ draw] [.ob (dt p c H s),.mem H] (Z' (λH s=>.ob (dt p c H s)) H (s.step c now draw)):=by
 refine Enzz λW F w hS=>?_;apply cEx;delta Mm aI bU cV bV cL ai bR;refine Cc (ZO p c H s now) ?_;clear hS;rintro _ post ⟨rfl,rfl⟩ w hS;try simp only[app]at hS
 unfold fo.step;cases hr:s.ready now with
 | false=>
  rw[zzb (by decide)];refine Gp ?_;refine zq ?_;exact⟨_,⟨rfl,H,bw.le_refl H,rfl⟩,aW hS⟩
 | true=>
 rw[zzc rfl];refine Gp ?_;refine zp ?_;obtain⟨Ig,nG⟩:=hI.hold hr;have o7:(s.hold c.cJ).k=s.k:=by unfold fo.hold;split<;>rfl
 refine⟨λus w=>∃H2,us=[]/\H.le H2/\SL W (.ob (dt p c H2 (s.hold c.cJ))::.mem H2::F) w,?_,?_⟩
 ·obtain⟨ov,nv,hi,hS⟩:=dt.open hS Xr;refine Gp ?_;have hS:=dt.put s hS hi Xp;refine za (λh=>?_) (λh=>?_)
  ·have hL:0<s.L.length:=by
    unfold fo.ready at hr;rw[zzb (by omega),zzy]at hr
    exact hr
   refine Cc (cK7 p c H s hI (by omega) hL) ?_;clear hS;rintro _ post ⟨rfl,H2,fA,rfl⟩ w hS;(try simp only[app]at hS);refine Gp ?_
   refine za (λh=>absurd rfl h) (λ_=>?_);exact⟨H2,rfl,fA,aW hS⟩
  have e:s.hold c.cJ=s:=by unfold fo.hold;rw[zzb (by omega)]
  rw[e];exact⟨H,rfl,bw.le_refl H,aW hS⟩
 clear hS;rintro w ⟨H2,-,fA,hS⟩;rw[<- o7]at hk
 clear hI o7 hr;generalize s.hold c.cJ=s1 at *
 obtain⟨ov,nv,hi,hS⟩:=dt.open hS Xr;obtain⟨hm,IB,xh⟩:=Ig.iok nG;have uv:=Ig.f0;have AM:=Ig.f1;have hg:=SJ s1.n s1.out;refine Gn λw hS=>?_;refine yH (vs:=[iH p.kp]) hS Xh rfl (λj v h=>?_) ?_
 ·match j,h with
  | 0,h=>exact h
  | j+1,h=>simp at h
 refine Gp ?_;refine yH (vs:=[Γ s1.held.aw,ov,nv]) hS Xh rfl bWm ?_;have hI2:gZ H2 ⟨s1.held.aw,ov,nv⟩ s1.held:=hi;refine Cc (cK6 p.kp p.gp p.dp p.lp p.pp H2 s1.k ⟨s1.held.aw,ov,nv⟩ s1.held hI2 IB xh hk) ?_;clear hS;rintro _ post ⟨rfl,H3,gb,rfl⟩ w hS;try simp only[app]at hS
 have nD:=bw.le_trans fA gb;have TA:=hi.mono gb;unfold fo.hand;generalize s1.k.fP s1.held=y at *
 obtain⟨k',e⟩:=y;simp only at hS ⊢;refine bY (λh0=>?_) (λh0=>?_)
 ·rw[zzc h0];refine Gn λw hS=>?_;refine Cg (Qu s1.n p.qp p.qb c.cap s1.out (s1.L.map iy)) λw hS=>?_;refine Cg (Q4 p.rp c.b c.m c.j s1.fR s1.eK) λw hS=>?_;refine Ye (o:=4) (vs:=[Γ 0,Θ,Θ]) hS Xu rfl (by show 7<=8;decide) (by simp[Value.oneCell']) λw hS=>?_;simp only[List.take,List.drop,zzu,zzq]at hS;refine Gn λw hS=>?_;have hS:SL W (_::_::_::_::.pt p.wp (oD p.kp p.qp p.rp c.cJ nK.aw Θ Θ 0) 216::_) w:=hS;have hS:=dt.eO (p:=p) (c:=c) (H:=H3) (L:=s1.L) (held:=nK) (n:=0) (ov:=Θ) (nv:=Θ) hS ⟨rfl,dx.nil _ _,dx.nil _ _⟩ Xp;exact⟨_,⟨rfl,H3,nD,rfl⟩,aW hS⟩
 rw[zzb h0];refine bY (λh9=>?_) (λh9=>?_)
 ·rw[zzc h9];refine Gp ?_;refine Cg (Q6 p.rp c.b c.m c.j s1.fR s1.eK now draw (by omega)) λw hS=>?_;have hS:=dt.eO (p:=p) (c:=c) (H:=H3) (L:=s1.L) (held:=s1.held) hS TA Xp;exact⟨_,⟨rfl,H3,nD,rfl⟩,aW hS⟩
 rw[zzb h9];have hS:=dt.eO (p:=p) (c:=c) (H:=H3) (L:=s1.L) (held:=s1.held) hS TA Xp;exact⟨_,⟨rfl,H3,nD,rfl⟩,aW hS⟩
def aIa(s:Η):s=dW s.data.toList:=by cases s;simp[dW]
def aF9(l:Φ):(dW l).data.toList=l:=by simp[dW]
def WJ{l:Φ}{k:Nat}{kk:IntKind}{K:Ε->Prop}(hk:k<=l.length)(h:K (.string (dW (l.take k)))):Zr (.string (dW l)) none (some (.int kk (k:Int))) K:=by
 refine⟨dW l,0,k,rfl,⟨kk,rfl⟩,rfl,zz4 _,by rw[mM];exact hk,?_⟩;have:(dW l).extract 0 k=dW (l.take k):=by apply ByteArray.ext;simp[dW,ByteArray.data_extract]
 rw[this];exact h
def WK{l:Φ}{k:Nat}{kk:IntKind}{K:Ε->Prop}(hk:k<=l.length)(h:K (.string (dW (l.drop k)))):Zr (.string (dW l)) (some (.int kk (k:Int))) none K:=by
 refine⟨dW l,k,(dW l).size,rfl,rfl,⟨kk,rfl⟩,by rw[mM];exact hk,zzi _,?_⟩;have:(dW l).extract k (dW l).size=dW (l.drop k):=by
  apply ByteArray.ext;rw[mM];simp[dW,ByteArray.data_extract];rw[zz2 (by rw[zzr];omega)]
 rw[this];exact h
def F_{P:Program}{w:Ζ}{t:Ι}{l:Φ}{j:Nat}{k:IntKind}{K:Ε->Prop}(ht:P.underlying t=some .string)(hj:j<l.length)(h:K (.int .u8 (l[j]).toNat)):eW P (Instr.index t (.string (dW l)) (.int k (j:Int))) w K:=by
 have e:(dW l)[j]'(by rw[mM];exact hj)=l[j]:=by simp[dW,ByteArray.getElem_eq_getElem_data]
 exact WL ht (by rw[mM];exact hj) (by rw[e];exact h)
def Z0(l p:Φ):SP 314 [.string (dW l),.string (dW p)] [] (cC (.bool (decide (l.take p.length=p))) []):=by
 refine Enzz λW F w hS=>?_;apply cH5;delta Of aI cw;refine Gp ?_;rw[mM,mM];refine za (λh=>?_) (λh=>?_)
 ·refine Gp ?_;rw[mM];refine WJ (by omega) ?_;refine Gp ?_;rw[show decide (dW (l.take p.length)=dW p)=decide (l.take p.length=p) by rw[yyg];exact Rb];(exact cA hS)
 rw[zzz λe=>by
  have:=yyu List.length e;rw[zzf]at this
  omega]
 (exact cA hS)
def ZP(l p:Φ):SP 255 [.string (dW l),.string (dW p)] [] (cC (.tuple #[.string (dW (if l.take p.length=p then l.drop p.length else l)),.bool (decide (l.take p.length=p))]) []):=by
 refine Enzz λW F w hS=>?_;apply cGx;delta Nz cL;refine Cg (Z0 l p) λw hS=>?_;refine zu (λh=>?_) (λh=>?_)
 ·have h:=yyw h;rw[zzb h,zzz h];(exact cA hS)
 have h:=zzm h;rw[zzc h,zzl h];refine Gp ?_;rw[mM];refine WK ?_ ?_
 ·have:=yyu List.length h;rw[zzf]at this
  omega
 (exact cA hS)
def ZX(l p:Φ):SP 187 [.string (dW l),.string (dW p)] [] (cC (.tuple #[.string (dW (if l.take p.length=p then l.drop p.length else l)),.bool (decide (l.take p.length=p))]) []):=by
 refine Enzz λW F w hS=>?_;apply cE8;unfold Mx;refine Cg (ZP l p) λw hS=>?_;(exact cA hS)
def bFb(l:Φ)(c:Κ):firstIdx (dW l) c=k_ (l.findIdx? λx=>decide (x=c)):=by
 have ib:∀i,i<l.length->(dW l)[i]! = l[i]!:=λi hi=>by
  have h2:i<(dW l).size:=by rw[mM];exact hi
  rw[wwv (dW l) i h2,wwv l i hi];simp[dW,ByteArray.getElem_eq_getElem_data]
 unfold firstIdx;rw[mM];cases hf:l.findIdx? (λx=>decide (x=c)) with
 | none=>
  have h1:=xxl.1 hf;have:(List.range l.length).find? (λi=>(dW l)[i]! == c)=none:=by
   rw[List.find?_range_eq_none];intro i hi;rw[ib i hi,wwv l i hi];have:=yyw (h1 _ (zzg hi));simpa using this
  rw[this];rfl
 | some j=>
  obtain⟨hj,hk,ri⟩:=yyk.1 hf;have:(List.range l.length).find? (λi=>(dW l)[i]! == c)=some j:=by
   rw[List.find?_range_eq_some];refine⟨?_,List.mem_range.2 hj,λi hi=>?_⟩
   ·rw[ib j hj,wwv l j hj];simpa using hk
   rw[ib i (by omega),wwv l i (by omega)];have:=ri i hi;simpa using this
  rw[this];rfl
def Z2(l:Φ)(c:Κ):SP 361 [.string (dW l),.int .u8 c.toNat] [] (cC (Γ (k_ (l.findIdx? λx=>decide (x=c)))) []):=by
 refine Enzz λW F w hS=>?_;apply cI3;unfold ON;refine⟨Γ (k_ (l.findIdx? λx=>decide (x=c))),w,?_,?_⟩
 ·have:=run_callFunc_extern Tryz.func390 (by kernel_rfl) (by kernel_rfl) (by kernel_rfl) (e:=Extern.BytealgIndexByte.indexByte) (by kernel_rfl) #[.string (dW l),.int .u8 c.toNat] w;rw[this,run_indexByte_string,bFb,show ((c.toNat:Int).toNat.toUInt8)=c by simp];rfl
 (exact cA hS)
def qw(l:Φ)(c:Κ):SP 315 [.string (dW l),.string (dW [c])] [] (cC (Γ (k_ (l.findIdx? λx=>decide (x=c)))) []):=by
 refine Enzz λW F w hS=>?_;apply cH6;delta Og aI ai;refine Gp ?_;refine⟨λ_ _=>False,?_,λw h=>h.elim⟩;rw[mM];refine Gp ?_;refine za (λh=>absurd h (by simp)) (λ_=>?_);refine bY (λh=>?_) (λ_=>?_)
 ·have h:=Rb.1 h;rw[<- h];exact⟨_,⟨by simp[k_],rfl⟩,hS⟩
 refine Gp ?_;refine za (λ_=>?_) (λh=>absurd (by simp) h);refine F_ (j:=0) yy1 (by simp) ?_;refine Cg (Z2 l c) λw hS=>?_;(exact cA hS)
def lX(l:Φ)(c:Κ):Φ × Φ × Bool:=match l.findIdx? (λx=>decide (x=c)) with
 | none=>(l,[],false)
 | some i=>(l.take i,l.drop (i+1),true)
def aR6(l:Φ)(c:Κ)(hl:l.length<=4611686018427387904):SP 256 [.string (dW l),.string (dW [c])] [] (cC (.tuple #[.string (dW (lX l c).1),.string (dW (lX l c).2.1),.bool (lX l c).2.2]) []):=by
 refine Enzz λW F w hS=>?_;apply cGy;delta NA aI ai;refine Cg (qw l c) λw hS=>?_;unfold lX;cases hf:l.findIdx? (λx=>decide (x=c)) with
 | none=>
  simp only[k_];refine za (λh=>absurd h (by decide)) (λ_=>?_);exact⟨_,⟨rfl,rfl⟩,hS⟩
 | some i=>
  have hi:=(yyk.1 hf).1;simp only[k_];refine za (λ_=>?_) (λh=>by omega);refine Gn λw hS=>?_;refine WJ (by omega) ?_;refine Gp ?_;rw[mM];have e:([c]:Φ).length=1:=rfl;rw[e];refine Gp ?_;refine WK (by omega) ?_;exact⟨_,⟨rfl,rfl⟩,hS⟩
def aR5(l:Φ)(c:Κ)(hl:l.length<=4611686018427387904):SP 188 [.string (dW l),.string (dW [c])] [] (cC (.tuple #[.string (dW (lX l c).1),.string (dW (lX l c).2.1),.bool (lX l c).2.2]) []):=by
 refine Enzz λW F w hS=>?_;apply cE9;unfold My;refine Cg (aR6 l c hl) λw hS=>?_;(exact cA hS)
def nB(l:Φ)(a b:Nat):Int:=match l with
 | [d]=>if a<=d.toNat/\d.toNat<=b then (d.toNat:Int)-48 else -1
 | _=>-1
def cA5:∀n:Fin 256,48<=n.1->IntKind.i64.wrap (IntKind.u8.wrap ((n.1:Int)-48))=(n.1:Int)-48:=by decide
def czp{d:Κ}{K:Ε->Prop}(hd:48<=d.toNat)(h:K (Γ ((d.toNat:Int)-48))):zc .sub (.int .u8 d.toNat) (.int .u8 48) λv=>zL .i64 v K:=by
 refine⟨_,rfl,_,_,rfl,?_⟩;rw[cA5 ⟨d.toNat,d.toNat_lt⟩ hd];exact h
def ZY(l:Φ)(a b:Nat)(ha:48<=a):SP 189 [.string (dW l),.int .u8 a,.int .u8 b] [] (cC (Γ (nB l a b)) []):=by
 refine Enzz λW F w hS=>?_;apply cFa;delta Mz aI ai;refine Gp ?_;rw[mM];refine za (λh=>?_) (λh=>?_)
 ·have e:nB l a b = -1:=by
   unfold nB;split
   ·simp at h
   rfl
  rw[e];(exact cA hS)
 obtain⟨d,rfl⟩:∃d,l=[d]:=List.length_eq_one_iff.1 (by omega);refine F_ (j:=0) yy1 (by simp) ?_;show zc .lss (.int .u8 d.toNat) (.int .u8 a) _;refine bY (λh1=>?_) (λh1=>?_)
 ·rw[show nB [d] a b = -1 from zzb (by omega)];(exact cA hS)
 refine F_ (j:=0) yy1 (by simp) ?_;show zc .gtr (.int .u8 d.toNat) (.int .u8 b) _;refine bY (λh2=>?_) (λh2=>?_)
 ·rw[show nB [d] a b = -1 from zzb (by omega)];(exact cA hS)
 refine F_ (j:=0) yy1 (by simp) ?_;refine czp (d:=d) (by omega) ?_;rw[show nB [d] a b=(d.toNat:Int)-48 from zzc (by omega)];(exact cA hS)
def RX{l:Φ}{a b:Nat}(h:l.length≠1):nB l a b = -1:=by
 unfold nB;split
 ·simp at h
 rfl
def HD{d:Κ}{a b:Nat}(h:48<=a):nB [d] a b<0↔¬(a<=d.toNat/\d.toNat<=b):=by
 show (if a<=d.toNat/\d.toNat<=b then (d.toNat:Int)-48 else -1)<0↔_;split<;>omega
def Bk(r:Φ):Option (Int × Int):=
 let c:=lX r 32
 if nB c.1 48 55<0\/(if c.2.2=true then nB c.2.1 49 56 else 1)<0 then none else some (nB c.1 48 55,if c.2.2=true then nB c.2.1 49 56 else 1)
def Ev{d:Κ}{a b:Nat}(h:a<=d.toNat/\d.toNat<=b):nB [d] a b=(d.toNat:Int)-48:=zzc h
def XA{d:Κ}:d.toNat=32↔d=32:=⟨λh=>UInt8.toNat_inj.1 h,λh=>by rw[h];rfl⟩
def Dw{r:Φ}(h:(lX r 32).1.length≠1\/((lX r 32).2.2=true/\(lX r 32).2.1.length≠1)):Bk r=none:=by
 unfold Bk;simp only;rw[zzc];rcases h with h|⟨h,h2⟩
 ·left;rw[RX h];decide
 right;rw[zzc h,RX h2];decide
def sY(d:Κ)(r:Φ):lX (d::r) 32=if d=32 then ([],r,true) else (d::(lX r 32).1,(lX r 32).2.1,(lX r 32).2.2):=by
 unfold lX;rw[List.findIdx?_cons];by_cases hd:d=32
 ·simp[hd]
 rw[zzb (by simpa using hd),zzb hd];cases r.findIdx? (λx=>decide (x=32))<;>simp
def b_t(r:Φ):vO r=Bk r:=by
 match r with
 | []=>rw[Dw (.inl (by decide))];rfl
 | [d]=>
  by_cases hd:d=32
  ·subst hd;decide
  have hc:lX [d] 32=([d],[],false):=by rw[sY,zzb hd];rfl
  unfold Bk vO;rw[hc];simp only;have:=HD (d:=d) (a:=48) (b:=55) (by decide);by_cases h:48<=d.toNat/\d.toNat<=55
  ·rw[zzc h,zzb (λx=>x.elim (λh2=>by rw[Ev h]at h2;omega) (λh2=>absurd h2 (by decide))),Ev h];rfl
  rw[zzb h,zzc (.inl (this.2 h))]
 | [d,s]=>
  have e:vO [d,s]=none:=rfl;rw[e,Dw];rw[sY];by_cases hd:d=32
  ·rw[zzc hd];left;simp
  rw[zzb hd,sY];by_cases hs:s=32
  ·rw[zzc hs];right;exact⟨rfl,by simp⟩
  rw[zzb hs];left;simp
 | [d,s,e]=>
  by_cases hd:d=32
  ·have e1:vO [d,s,e]=none:=zzb (by rw[hd];simp);rw[e1,Dw];rw[sY,zzc hd];left;simp
  by_cases hs:s=32
  ·have hc:lX [d,s,e] 32=([d],[e],true):=by rw[sY,zzb hd,sY,zzc hs]
   unfold Bk vO;rw[hc];simp only[ww8];have h1:=HD (d:=d) (a:=48) (b:=55) (by decide);have h2:=HD (d:=e) (a:=49) (b:=56) (by decide);by_cases h:(48<=d.toNat/\d.toNat<=55)/\49<=e.toNat/\e.toNat<=56
   ·rw[zzc ⟨h.1,XA.2 hs,h.2⟩,zzb (by omega),Ev h.1,Ev h.2]
   rw[zzb (λx=>h ⟨x.1,x.2.2⟩),zzc (by omega)]
  have e1:vO [d,s,e]=none:=zzb (λx=>hs (XA.1 x.2.1));rw[e1,Dw];rw[sY,zzb hd,sY,zzb hs];left;simp
 | d::s::e::f::t=>
  have e1:vO (d::s::e::f::t)=none:=rfl;rw[e1,Dw];rw[sY];by_cases hd:d=32
  ·rw[zzc hd];left;simp
  rw[zzb hd,sY];by_cases hs:s=32
  ·rw[zzc hs];right;exact⟨rfl,by simp⟩
  rw[zzb hs];left;simp
def Gg(o:Option (Int × Int)):Ε:=.tuple #[agg [Γ (o.getD (0,0)).1,Γ (o.getD (0,0)).2],.bool o.isSome]
def Z5(s:Η)(hs:s.size<=4611686018427387904):SP 124 [.string s] [] (cC (Gg (xU s)) []):=by
 refine Enzz λW F w hS=>?_;apply cDo;delta Lx aI a_ cL D9 ai;rw[aIa s]at hs ⊢
 generalize hl:s.data.toList=l at *
 rw[mM]at hs
 unfold xU;rw[aF9];refine Gb λrb w hS=>?_;refine Cg (ZX l uS) λw hS=>?_;by_cases hp:l.take uS.length=uS
 ·rw[zzc hp,zzl hp,show l.take 9=uS from hp,zzc rfl];refine zp ?_;refine Cg (aR5 (l.drop uS.length) 32 (by rw[zzr];omega)) λw hS=>?_;rw[b_t,show l.drop 9=l.drop uS.length from rfl];generalize l.drop uS.length=r at *
  unfold Bk;generalize lX r 32=c at *
  obtain⟨A,B,q⟩:=c;simp only at hS ⊢;refine Cc (ZY A 48 55 (by decide)) ?_;clear hS;rintro _ post ⟨rfl,rfl⟩ w hS;try simp only[app]at hS
  refine Gm λnb w hS=>?_;refine⟨λus w=>us=[]/\SL W (.pt nb [Γ (nB A 48 55),Γ (if q=true then nB B 49 56 else 1)] 227::.pt rb [Γ 0,Γ 0] 227::F) w,?_,?_⟩
  ·refine yU (λhq=>?_) (λhq=>?_)
   ·rw[zzc hq];refine Cg (ZY B 49 56 (by decide)) λw hS=>?_;(first|exact aW hS|exact⟨rfl,aW hS⟩)
   rw[zzb (by simp[hq])];exact⟨rfl,aW hS⟩
  clear hS;rintro w ⟨-,hS⟩;refine bY (λh=>?_) (λh=>?_)
  ·rw[zzc (.inl h)];refine Gn λw hS=>?_;exact cA hS
  refine bY (λh2=>?_) (λh2=>?_)
  ·rw[zzc (.inr h2)];refine Gn λw hS=>?_;exact cA hS
  rw[zzb (by omega)];refine Gn λw hS=>?_;exact cA hS
 rw[zzz hp,zzb (show ¬l.take 9=uS from hp)];refine zq ?_;refine Gn λw hS=>?_;exact cA hS
def bV8{P:Program}{T:List Bool}{f g:FuncId}{sz:Nat}{α:Type}{enc:α->Ξ}(hn:∀x,(enc x).length=sz)(hT:T.getD g false=true){cap:Array Ε}{c:Μ}{q:α->Bool}{H:bw}
  (vc:∀v0 v1 w R,D6 P T sz v0 v1 w R->zQ P f [v0,v1] w R) (one:∀x,Spec P g ([agg (enc x)]++cap.toList) [c] (cC (.bool (q x)) [c]))
  (v:Ε) (xs:List α) (hv:dx H sz v xs.length (xs.map enc).flatten) (hl:xs.length<=9223372036854775806) :
  Spec P f [v,.func (.func g) #[] cap] [c,.mem H] (cC (Γ (k_ (xs.findIdx? q))) [c,.mem H]):=by
 intro W F w hS;apply vc;unfold D6;have hS:SL W (c::.mem H::F) w:=hS;refine zo hv ?_;refine⟨λvs w=>∃k:Nat,vs=[Γ k]/\k<=xs.length/\(∀j (h:j<xs.length),j<k->q xs[j]=false)/\SL W (c::.mem H::F) w,λvs _=>match vs with|[.int _ k]=>(xs.length-k).toNat|_=>0,⟨0,rfl,by omega,λj h hj=>by omega,hS⟩,?_⟩;clear hS;rintro v8 w ⟨k,hv,hk,hq,hS⟩;cases hv;refine bY (λh=>?_) (λh=>?_)
 ·have om:k<xs.length:=by omega
  refine zD hS Xh hn ‹_› (x:=xs[k]) (by simp[om]) om ?_;refine yf (args':=[agg (enc xs[k])]++cap.toList) hT (one xs[k]) (by simp) hS Xp ?_;clear hS;rintro _ post ⟨rfl,rfl⟩ w hS;try simp only[app]at hS
  cases C1:q xs[k] with
  | true=>
   refine zq ?_;have e:xs.findIdx? q=some k:=yyk.2 ⟨om,C1,λj hj=>by rw[hq j (by omega) hj];decide⟩;rw[e];exact⟨_,⟨rfl,rfl⟩,hS⟩
  | false=>
   refine zp ?_;refine Gp ?_;refine⟨⟨k+1,rfl,by omega,λj h hj=>?_,hS⟩,by dsimp only;omega⟩;rcases xxx j k with CP|CP
   ·exact hq j h CP
   obtain rfl:j=k:=by omega
   exact C1
 have e:xs.findIdx? q=none:=xxl.2 λx hx=>by
  obtain⟨j,hj,rfl⟩:=yy5.1 hx;exact hq j hj (by omega)
 rw[e];exact⟨_,⟨rfl,rfl⟩,hS⟩
structure dC.Ok(m:dC):Prop where
 reqs:gg m.reqs
 t1:1<=m.tables/\m.tables<=8
 rows:m.cB.rows.length<=1000
 lV:0<=m.at_/\m.at_<=1099511627776
abbrev xO(m:dC)(wp:Nat)(rv:Ε):Ξ:=[cF wp,Γ m.tables,Γ m.late,Γ m.at_,rv]
def cW(mp wp:Nat)(H:bw)(m:dC):zC:=jF λrv:Ε=>zH (jc H rv m.reqs) [.pt mp (xO m wp rv) 121,.ob (dF wp m.cB)]
section
variable {W w:Ζ} {l F:Β} {mp wp:Nat} {H H':bw}
def cW.iff{m:dC}:SL W (.ob (cW mp wp H m)::l) w↔∃rv,jc H rv m.reqs/\SL W (.pt mp (xO m wp rv) 121::.ob (dF wp m.cB)::l) w:=by
 unfold cW;simp only[SL.ex,SL.fact,zzu,zzq]
def cW.put(m:dC)(rv:Ε)(hr:jc H rv m.reqs)(hS:SL W l w)(p:gx [.pt mp (xO m wp rv) 121,.ob (dF wp m.cB)] l F):SL W (.ob (cW mp wp H m)::F) w:=cW.iff.2 ⟨rv,hr,hS.pick p⟩
def cW.jm{m:dC}(hh:H.le H')(hS:SL W l w)(r:fY (.ob (cW mp wp H m)) l F):SL W (.ob (cW mp wp H' m)::F) w:=by
 obtain⟨rv,h1,h2⟩:=cW.iff.1 (hS.perm r.perm);exact cW.iff.2 ⟨rv,h1.mono hh,h2⟩
end
def Yo(H:bw)(v:Ε)(L:List Rq)(tables aw:Int)(hv:jc H v L)(hn:L.length<=1000):
  SP 205 [v,Γ tables,Γ aw] [.mem H] (λu post=>∃q:Bool,u= .bool q/\(q=true↔gg L/\∀r∈L,r.table<tables/\r.at_<=aw)/\post=[.mem H]):=by
 refine Enzz λW F w hS=>?_;apply cFn;delta MM aI a_ cw ai;refine zo hv ?_;refine⟨λus w=>∃i:Nat,us=[Γ i]/\i<=L.length/\(∀j (h:j<L.length),j<i->L[j].table<tables/\L[j].at_<=aw)/\SL W (.mem H::F) w,λus _=>match us with|[.int _ i]=>(L.length-i).toNat|_=>0,⟨0,rfl,by omega,λj h hj=>by omega,hS⟩,?_⟩;clear hS;rintro v11 w ⟨i,cO,hi,eE,hS⟩;cases cO;refine bY (λh=>?_) (λh=>?_)
 ·have cx:i<L.length:=by omega
  have hx:L[i]?=some L[i]:=zzd cx;have hm:=zzg cx;refine zD hS Xh nC hv hx cx ?_;have o8:L[i].table<tables/\L[i].at_<=aw->∀j (h:j<L.length),j<i+1->L[j].table<tables/\L[j].at_<=aw:=λh j hj iX=>by
   rcases xxx j i with h2|h2
   ·exact eE j hj h2
   obtain rfl:j=i:=by omega
   exact h
  generalize L[i]=r at *
  refine Gb λxb w hS=>?_;refine za (λh2=>⟨_,⟨false,rfl,⟨(λe=>by cases e),λx=>by have:=(x.2 r hm).1;omega⟩,rfl⟩,aW hS⟩) (λh2=>?_);refine Gp ?_;refine za (λh3=>⟨_,⟨false,rfl,⟨(λe=>by cases e),λx=>by have:=(x.2 r hm).2;omega⟩,rfl⟩,aW hS⟩) (λh3=>?_);refine Gp ?_;exact⟨⟨i+1,rfl,by omega,o8 ⟨by omega,by omega⟩,aW hS⟩,by dsimp only;omega⟩
 refine Cc (Zj H v L hv (by omega)) ?_;clear hS;rintro _ post ⟨q,rfl,hq,rfl⟩ w hS;try simp only[app]at hS
 refine⟨_,⟨q,rfl,hq.trans ⟨λx=>⟨x,λr hr=>?_⟩,λx=>x.1⟩,rfl⟩,hS⟩;obtain⟨j,hj,rfl⟩:=yyi hr;exact eE j hj (by omega)
def K3(H:bw)(tables late chunk aw:Int)(L:List Rq)(v:Ε)(post:Β):Prop:=
 (Dq tables late chunk aw L/\(∃e:Int,e≠0/\v= .tuple #[.pointer none,Γ e])/\post=[.mem H]) \/
 (¬Dq tables late chunk aw L/\∃(mp wp:Nat) (H':bw),H.le H'/\v= .tuple #[cF mp,Γ 0]/\post=[.ob (cW mp wp H' ⟨tables,late,aw,L,mH chunk⟩),.mem H'])
def bYw(H:bw)(tables late chunk aw:Int)(v:Ε)(L:List Rq)(hv:jc H v L)(hn:L.length<=1000):
  SP 148 [Γ tables,Γ late,Γ chunk,Γ aw,v] [.mem H] (K3 H tables late chunk aw L):=by
 refine Enzz λW F w hS=>?_;apply cD3;delta LN aI cL ai cT bR;have fB:∀{e:Int} {w:Ζ},e≠0->Dq tables late chunk aw L->SL W (.mem H::F) w->∃post,K3 H tables late chunk aw L (.tuple #[.pointer none,Γ e]) post/\SL W (app post F) w:=λhe h hS=>⟨_,.inl ⟨h,⟨_,he,rfl⟩,rfl⟩,hS⟩;refine Gp ?_;refine za (λh=>fB (by decide) (.inl h) hS) (λh1=>?_);refine Gp ?_;refine za (λh=>fB (by decide) (.inr (.inl h)) hS) (λh2=>?_);refine Gp ?_;refine za (λh=>fB (by decide) (.inr (.inr (.inl h))) hS) (λh3=>?_);obtain⟨n,rfl⟩:∃n:Nat,tables=n:=⟨tables.toNat,by omega⟩;have cNf:(2:Int) ^ n<=256:=by
  have:n<=8:=by omega
  match n,this with
  | 0,_=>decide
  | 1,_=>decide
  | 2,_=>decide
  | 3,_=>decide
  | 4,_=>decide
  | 5,_=>decide
  | 6,_=>decide
  | 7,_=>decide
  | 8,_=>decide
 have xw:(0:Int)<2 ^ n:=Int.pow_pos (by decide);refine QV (by omega) (by omega) ?_;rw[Int.one_mul];refine Gp ?_;refine za (λh=>fB (by decide) (.inr (.inr (.inr (.inl (by rw[zzw];exact h))))) hS) (λh4=>?_);refine Gp ?_;refine za (λh=>fB (by decide) (.inr (.inr (.inr (.inr (.inl h))))) hS) (λh5=>?_);refine Gp ?_;refine za (λh=>fB (by decide) (.inr (.inr (.inr (.inr (.inr (.inl h)))))) hS) (λh6=>?_);refine Cc (Yo H v L n aw hv hn) ?_;clear hS;rintro _ post ⟨q,rfl,hq,rfl⟩ w hS;(try simp only[app]at hS);refine Gp ?_
 refine zu (λhe=>?_) (λhe=>?_)
 ·refine fB (by decide) (.inr (.inr (.inr (.inr (.inr (.inr (.inr (.inr ?_)))))))) hS;by_cases hm:gg L
  ·right;refine Classical.byContradiction λhx=>?_;have:q=true:=hq.2 ⟨hm,λr hr=>by
    refine⟨Int.not_le.1 λh=>hx ⟨r,hr,.inl h⟩,Int.not_lt.1 λh=>hx ⟨r,hr,.inr h⟩⟩⟩
   rw[he]at this;cases this
  exact .inl hm
 obtain⟨hm,eE⟩:=hq.1 he;refine Cc (cLb chunk) ?_;clear hS;rintro r post kz w hS;rcases kz with ⟨h7,rfl,rfl⟩|⟨h7,wp,rfl,rfl⟩
 ·(try simp only[app]at hS);refine Gp ?_
  refine za (λ_=>?_) (λh=>absurd (by decide) h);exact fB (by decide) (.inr (.inr (.inr (.inr (.inr (.inr (by omega))))))) hS
 (try simp only[app]at hS);refine Gp ?_
 refine za (λh=>absurd rfl h) (λ_=>?_);refine yX (cells:=[cF wp]) (by simp[ir,Value.cells,cF]) ?_;refine Cc (z8 H v L hv hn) ?_;clear hS;rintro u post rfl w hS;try simp only[app]at hS
 obtain⟨H1,dj,hR,hS⟩:=zz (H:=H) (v:=u) hS Xp;have hu:u.oneCell'=true:=hR.one;refine yX (cells:=[cF wp,Γ n,Γ late,Γ aw,u]) (by simp[ir,show ∀n,(Γ n).cells = #[Γ n] from λ_=>rfl,show ∀v,(Value.agg #[v]).cells = #[v] from λ_=>rfl,Bg hu]) ?_;refine⟨_,rfl,zE hS λmp w hS=>?_⟩;have cG:¬Dq n late chunk aw L:=by
  rintro (h|h|h|h|h|h|h|h|h|⟨r,hr,h⟩)
  ·exact h1 h
  ·exact h2 h
  ·exact h3 h
  ·rw[zzw]at h;exact h4 h
  ·exact h5 h
  ·exact h6 h
  ·omega
  ·omega
  ·exact h hm
  have:=eE r hr;omega
 have hS:=cW.put (wp:=wp) ⟨n,late,aw,L,mH chunk⟩ u hR hS Xp;exact⟨_,.inr ⟨cG,mp,wp,H1,dj,rfl,rfl⟩,aW hS⟩
section
variable (mp wp:Nat) (H:bw) (m:dC)
def yw:SP 51 [cF mp] [.ob (cW mp wp H m)] (cC (Γ m.at_) [.ob (cW mp wp H m)]):=by
 intro W F w hS;apply cJt;delta O' bU;(try simp only[app]at hS);obtain⟨rv,hr,hS⟩:=cW.iff.1 hS;refine Gp ?_;exact⟨_,⟨rfl,rfl⟩,SL.bZ (cW.put m rv hr hS Xp) Xi⟩
def yx(hn:m.reqs.length<=1000):SP 75 [cF mp] [.ob (cW mp wp H m),.mem H] (λu post=>post=[.ob (bI u 98 7 m.reqs.length (m.reqs.map iD).flatten),.ob (cW mp wp H m),.mem H]):=by
 refine Enzz λW F w hS=>?_;apply cKe;delta Pv bU;obtain⟨rv,hr,hS⟩:=cW.iff.1 hS;refine Gp ?_;refine Cc (z8 H rv m.reqs hr hn) ?_;clear hS;rintro u post rfl w hS;try simp only[app]at hS
 exact⟨_,rfl,SL.bZ (cW.put m rv hr hS Xp) Xi⟩
def YF:SP 46 [agg [cF wp]] [] (cC (cF wp) []):=by
 refine Enzz λW F w hS=>?_;apply cJn;delta O4 a_;refine zw hS λxb w hS=>?_;refine Gp ?_;exact cA hS
def ZH(k:dE)(x:mK):SP 63 [agg [cF wp],agg (fm x)] [.ob (dF wp k)] (cC (.bool (k.waits x.kind x.mark)) [.ob (dF wp k)]):=by
 refine Enzz λW F w hS=>?_;apply cJ3;delta Pj a_;refine zw hS λxb w hS=>?_;refine zw hS λyb w hS=>?_;refine Gp ?_;refine Cg (qZ wp k x) λw hS=>?_;exact cA hS
def aIs(b:Nat)(t:Int)(r:Rq):SP 337 ([agg (iD r)]++(#[cF b]:Array Ε).toList) [.pt b [Γ t] 3] (cC (.bool (decide (r.table=t))) [.pt b [Γ t] 3]):=by
 refine Enzz λW F w hS=>?_;apply cIo;delta OA a_;refine zw hS λxb w hS=>?_;unfold iD at hS;refine Gp ?_;exact cA hS
def awo{α:Type}{l:List α}{q:α->Bool}:decide (0<=k_ (l.findIdx? q))=l.any q:=by
 cases h:l.findIdx? q with
 | none=>
  have:=xxl.1 h;rw[show l.any q=false by rw[List.any_eq_false];exact λx hx=>by rw[this x hx];decide];rfl
 | some i=>
  obtain⟨hi,hk,_⟩:=yyk.1 h;rw[show l.any q=true from List.any_eq_true.2 ⟨_,zzg hi,hk⟩];exact zzl (by simp only[k_];omega)
def Ym(hn:m.reqs.length<=1000)(t:Int):SP 292 [cF mp,Γ t] [.ob (cW mp wp H m),.mem H] (cC (.bool (m.captured t)) [.ob (cW mp wp H m),.mem H]):=by
 refine Enzz λW F w hS=>?_;apply cHo;delta N1 aI bU cw ai;obtain⟨rv,hr,hS⟩:=cW.iff.1 hS;unfold dC.captured;refine⟨rfl,zE hS λb w hS=>?_⟩;refine Gn λw hS=>?_;refine za (λh=>?_) (λh1=>?_)
 ·rw[zzz (by omega),uu3];exact⟨_,⟨rfl,rfl⟩,SL.bZ (cW.put m rv hr hS Xp) Xi⟩
 refine bY (λh=>?_) (λh2=>?_)
 ·rw[zzz (by omega),uu3];exact⟨_,⟨rfl,rfl⟩,SL.bZ (cW.put m rv hr hS Xp) Xi⟩
 rw[zzl (show 0<=t/\t<m.tables by omega),vv6];refine Gn λw hS=>?_;refine cxi (by omega) ?_;refine bY (λh=>?_) (λh3=>?_)
 ·rw[zzl h,Bool.true_or];exact⟨_,⟨rfl,rfl⟩,SL.bZ (cW.put m rv hr hS Xp) Xi⟩
 rw[zzz h3,Bool.false_or];refine Gp ?_;have hC:SP 336 [rv,.func (.func 337) #[] #[cF b]] [.pt b [Γ t] 3,.mem H] (cC (.bool (m.reqs.any λr=>decide (r.table=t))) [.pt b [Γ t] 3,.mem H]):=by
  refine Enzz λW F w hS=>?_;apply cIn;delta Oz ai;refine Cg (bV8 nC rfl (λv0 v1 w R h=>cI7 v0 v1 w R h) (λr=>aIs b t r) rv m.reqs hr (by omega)) λw hS=>?_;rw[awo];exact⟨_,⟨rfl,rfl⟩,hS⟩
 refine Cg (hC) λw hS=>?_;exact⟨_,⟨rfl,rfl⟩,SL.bZ (cW.put m rv hr hS Xp) Xi⟩
end
abbrev sP(v:Ε)(l:List il):Μ:=.ob (bI v 393 7 l.length (l.map kI).flatten)
abbrev GD(v:Ε)(l:List gl):Μ:=.ob (bI v 390 5 l.length (l.map jB).flatten)
def YV(mp wp:Nat)(H:bw)(m:dC)(hm:m.Ok)(s:Η)(hs:s.size<=1000)(aw:Int):
  SP 291 [cF mp,.string s,Γ aw] [.ob (cW mp wp H m),.mem H] (λv post=>∃H',H.le H'/\post=[sP v (m.accept s aw).2,.ob (cW mp wp H' {m with reqs:=(m.accept s aw).1}),.mem H']):=by
 refine Enzz λW F w hS=>?_;apply cHn;delta N0 aI bU a_ cV cL ai bR;have C3:=hm.reqs.1;have fp:∀{w:Ζ},m.accept s aw=(m.reqs,[])->SL W (.ob (cW mp wp H m)::.mem H::F) w->∃post,(∃H',H.le H'/\post=[sP Θ (m.accept s aw).2,.ob (cW mp wp H' {m with reqs:=(m.accept s aw).1}),.mem H'])/\SL W (app post F) w:=λe hS=>by
  rw[e];have hS:SL W (sP Θ []::.ob (cW mp wp H m)::.mem H::F) _:=bI.nil hS;exact⟨_,⟨H,bw.le_refl H,rfl⟩,hS⟩
 refine Cc (Z5 s (by omega)) ?_;clear hS;rintro _ post ⟨rfl,rfl⟩ w hS;try simp only[app]at hS
 unfold Gg;cases hp:xU s with
 | none=>
  simp only[ww0,uu5];refine Gm λb w hS=>?_;refine zq ?_;exact fp (by unfold dC.accept;rw[hp]) (aW hS)
 | some g=>
  obtain⟨t,wt⟩:=g;simp only[xxd,uu6];refine Gm λb w hS=>?_;refine zp ?_;obtain⟨rv,hr,hS⟩:=cW.iff.1 (SL.bZ hS (t:=.ob (cW mp wp H m)::.pt b [Γ t,Γ wt] 227::.mem H::F) Xi);refine bY (λh=>?_) (λh1=>?_)
  ·exact fp (by unfold dC.accept;rw[hp];simp only;rw[zzc h]) (SL.bZ (cW.put m rv hr hS Xp) Xi)
  refine Gn λw hS=>?_;have ET:m.accept s aw=match pw m.reqs t wt aw with
   | none=>(m.reqs,[])
   | some L=>(L,[⟨1,L.length,t,wt,aw,0,false⟩]):=by
   unfold dC.accept;rw[hp];simp only;rw[zzb h1];rfl
  refine Cc (Zl H rv m.reqs t wt aw hr (by omega)) ?_;clear hS;rintro u post ⟨H1,dj,rfl,hq⟩ w hS;try simp only[app]at hS
  cases ha:pw m.reqs t wt aw with
  | none=>
   rw[ha]at hq ET
   subst hq;refine Gp ?_;refine zq ?_;have hS:=cW.put m rv (hr.mono dj) hS Xp;rw[ET];have hS:SL W (sP Θ []::.ob (cW mp wp H1 m)::_) _:=bI.nil hS;exact⟨_,⟨H1,dj,rfl⟩,aW hS⟩
  | some L=>
   rw[ha]at hq ET
   obtain⟨x,rfl,hx⟩:=hq;have ox:x.oneCell'=true:=hx.one;refine Gp ?_;refine zp ?_;refine Gn λw hS=>?_;refine zo hx ?_;refine Gm λnb w hS=>?_;rw[ET];have hS:=cW.put (mp:=mp) (wp:=wp) {m with reqs:=L} x hx hS Xp;have hS:SL W (sP (.slice (some ⟨nb,0,none⟩) 1 1) [⟨1,L.length,t,wt,aw,0,false⟩]::.ob (cW mp wp H1 {m with reqs:=L})::.mem H1::F) w:=bI.full (sz:=7) rfl (SL.bZ hS (t:=.pt nb [Γ 1,Γ L.length,Γ t,Γ wt,Γ aw,Γ 0,.bool false] 393::.ob (cW mp wp H1 {m with reqs:=L})::.mem H1::F) Xi);exact⟨_,⟨H1,dj,rfl⟩,aW hS⟩
def PR(aw:Int):∀(l:Ψ) (m:dC) (s:Η),m.ff aw (l++[s])=({(m.ff aw l).1 with reqs:=((m.ff aw l).1.accept s aw).1},(m.ff aw l).2++((m.ff aw l).1.accept s aw).2)
 | [],m,s=>by simp[dC.ff]
 | x::l,m,s=>by
  show (let r:=m.accept x aw;let y:=dC.ff {m with reqs:=r.1} aw (l++[s]);(y.1,r.2++y.2))=_;simp only;rw[PR aw l];simp[dC.ff,zzk]
def PO{m:dC}(h:gg m.reqs)(s:Η)(aw:Int):gg (m.accept s aw).1/\(m.accept s aw).2.length<=1:=by
 unfold dC.accept;split
 ·exact⟨h,by simp⟩
 split
 ·exact⟨h,by simp⟩
 split
 ·exact⟨h,by simp⟩
 rename_i L hL;exact⟨B2 hL,by simp⟩
def Hc(aw:Int):∀(l:Ψ) {m:dC},m.Ok->(m.ff aw l).1.Ok/\(m.ff aw l).2.length<=l.length/\(m.ff aw l).1.cB=m.cB/\(m.ff aw l).1.tables=m.tables/\(m.ff aw l).1.late=m.late/\(m.ff aw l).1.at_=m.at_
 | [],m,h=>⟨h,by simp[dC.ff],rfl,rfl,rfl,rfl⟩
 | x::l,m,h=>by
  have h1:=PO h.reqs x aw;have h2:=Hc aw l (m:={m with reqs:=(m.accept x aw).1}) ⟨h1.1,h.t1,h.rows,h.lV⟩;unfold dC.ff;simp only;refine⟨h2.1,?_,h2.2.2⟩;rw[zza,zzh];have:=h2.2.1;omega
def b_q{α:Type}{enc:α->Ξ}{v:Ε}{t:Ι}{sz:Nat}{A B:List α}:bI v t sz (A.length+B.length) ((A.map enc).flatten++(B.map enc).flatten)=bI v t sz (A++B).length ((A++B).map enc).flatten:=by
 rw[zza,zzs,yys]
def K1(mp wp:Nat)(H:bw)(y:dC × cD)(u:Ε)(post:Β):Prop:=∃(x:iA) (H':bw),H.le H'/\u=agg (eJ x)/\gZ H' x y.2/\post=[.ob (cW mp wp H' y.1),.mem H']
def YW(mp wp:Nat)(H:bw)(m:dC)(hm:m.Ok)(x:mK)(t:cH)(hx:lz H x t)(hs:t.signals.length<=2)(bU4:∀s∈t.signals,s.size<=40)(hc:t.changes.length<=16):
  SP 224 [cF mp,agg (fm x)] [.ob (cW mp wp H m),.mem H] (K1 mp wp H (m.Aj t)):=by
 refine Enzz λW F w hS=>?_;apply cF6;delta M7 aI a_ aR bV ai cP bR;refine zw hS λxb w hS=>?_;unfold fm at hS;rw[hx.aw]at hS
 have sm:=hx.cv;have A3:=hx.sv;refine Gm λzb w hS=>?_;refine Gm λyb w hS=>?_;refine zo A3 ?_;have hS:SL W (sP Θ []::_) w:=bI.nil hS;have hS:=SL.bZ hS (t:=sP Θ []::.ob (cW mp wp H m)::.pt yb [Γ t.aw,Θ,Θ] 214::.pt zb [Γ 0,Θ,Θ] 214::.pt xb [Γ t.aw,Γ x.kind,x.cv,x.sv,Γ x.mark] 101::.mem H::F) Xi;refine⟨λus w=>∃(i:Nat) (nv:Ε) (H1:bw),us=[Γ i]/\i<=t.signals.length/\H.le H1/\SL W (sP nv (m.ff t.aw (t.signals.take i)).2::.ob (cW mp wp H1 (m.ff t.aw (t.signals.take i)).1)::.pt yb [Γ t.aw,Θ,nv] 214::.pt zb [Γ 0,Θ,Θ] 214::.pt xb [Γ t.aw,Γ x.kind,x.cv,x.sv,Γ x.mark] 101::.mem H1::F) w,
  λus _=>match us with|[.int _ i]=>(t.signals.length-i).toNat|_=>0,⟨0,Θ,H,rfl,by omega,bw.le_refl H,hS⟩,?_⟩
 clear hS;rintro Bz w ⟨i,nv,H1,cO,hi,dj,hS⟩;cases cO;refine bY (λh=>?_) (λh=>?_)
 ·have cx:i<t.signals.length:=by omega
  have Ij:=Hc t.aw (t.signals.take i) hm;have fX:t.signals.take (i+1)=t.signals.take i++[t.signals[i]]:=zze cx;have C9:=PR t.aw (t.signals.take i) m t.signals[i];rw[<- fX]at C9
  have wT:=bU4 _ (zzg cx);have dd:(t.signals.take i).length<=2:=by rw[zzf];omega
  refine yQ hS Xh (A3.mono dj) cx (u:=.string t.signals[i]) (by simp[cx]) ?_;refine Gn λw hS=>?_;refine Cc (YV mp wp H1 (m.ff t.aw (t.signals.take i)).1 Ij.1 t.signals[i] (by omega) t.aw) ?_;clear hS;rintro v post ⟨H2,dQ,rfl⟩ w hS;try simp only[app]at hS
  have vv:=(PO Ij.1.reqs t.signals[i] t.aw).2;have hl2:=Ij.2.1;refine Gp ?_;refine zJ (n:=(m.ff t.aw (t.signals.take i)).2.length) (m:=((m.ff t.aw (t.signals.take i)).1.accept t.signals[i] t.aw).2.length) (cells:=((m.ff t.aw (t.signals.take i)).2.map kI).flatten) (cs:=(((m.ff t.aw (t.signals.take i)).1.accept t.signals[i] t.aw).2.map kI).flatten) hS Xr (mZ hS Xh) (oP wI _) rfl (tK HH _) (by omega) (by omega) λv2 w hS=>?_;have o1:v2.oneCell'=true:=bI.one hS;rw[b_q,show (m.ff t.aw (t.signals.take i)).2++((m.ff t.aw (t.signals.take i)).1.accept t.signals[i] t.aw).2=(m.ff t.aw (t.signals.take (i+1))).2 by rw[C9]]at hS
  refine Gn λw hS=>?_;rw[show (⟨(m.ff t.aw (t.signals.take i)).1.tables,(m.ff t.aw (t.signals.take i)).1.late,(m.ff t.aw (t.signals.take i)).1.at_,((m.ff t.aw (t.signals.take i)).1.accept t.signals[i] t.aw).1,(m.ff t.aw (t.signals.take i)).1.cB⟩:dC)=(m.ff t.aw (t.signals.take (i+1))).1 by rw[C9]]at hS
  exact⟨⟨i+1,v2,H2,rfl,by omega,bw.le_trans dj dQ,aW hS⟩,by dsimp only;omega⟩
 have Fj:t.signals.take i=t.signals:=zz2 (by omega);rw[Fj]at hS
 obtain⟨sr,AV,ry,tC,dd,ib⟩:=Hc t.aw t.signals hm;have oV:m.Aj t=({(m.ff t.aw t.signals).1 with cB:=(m.ff t.aw t.signals).1.cB.rH t.changes},⟨t.aw,mc (m.ff t.aw t.signals).1 t.aw t.changes,(m.ff t.aw t.signals).2⟩):=rfl;rw[oV];generalize m.ff t.aw t.signals=y at *
 obtain⟨m1,N⟩:=y;simp only at hS sr AV ⊢;clear ry tC dd ib oV;refine Gp ?_;refine zo (sm.mono dj) ?_;have hS:SL W (GD Θ (mc m1 t.aw (t.changes.take 0))::_) w:=bI.nil hS;refine⟨λus w=>∃(i:Nat) (ov:Ε),us=[Γ i]/\i<=t.changes.length/\SL W (GD ov (mc m1 t.aw (t.changes.take i))::sP nv N::.ob (cW mp wp H1 m1)::.pt yb [Γ t.aw,ov,nv] 214::.pt zb [Γ 0,Θ,Θ] 214::.pt xb [Γ t.aw,Γ x.kind,x.cv,x.sv,Γ x.mark] 101::.mem H1::F) w,
  λus _=>match us with|[.int _ i]=>(t.changes.length-i).toNat|_=>0,⟨0,Θ,rfl,by omega,aW hS⟩,?_⟩
 clear hS;rintro v33 w ⟨i,ov,cO,hi,hS⟩;cases cO;refine bY (λh=>?_) (λh=>?_)
 ·have cx:i<t.changes.length:=by omega
  have Fz:t.changes[i]?=some t.changes[i]:=zzd cx;have fX:t.changes.take (i+1)=t.changes.take i++[t.changes[i]]:=zze cx;have eY:mc m1 t.aw (t.changes.take (i+1))=mc m1 t.aw (t.changes.take i)++(if m1.captured t.changes[i].table=true then [⟨t.aw,t.changes[i].table,t.changes[i].key,t.changes[i].gone,t.changes[i].val⟩] else []):=by
   unfold mc;rw[fX,yy0,zzs];congr 1;rw[vv0];split<;>simp
  have xt:(mc m1 t.aw (t.changes.take i)).length<=16:=by
   unfold mc;rw[zzn];have:=yym (λc:eh=>m1.captured c.table) (t.changes.take i);rw[zzf]at this
   omega
  refine zD hS Xh s3 (sm.mono dj) Fz cx ?_;generalize t.changes[i]=c at *
  refine Gb λcb w hS=>?_;refine Cg (Ym mp wp H1 m1 (by have:=sr.reqs.1;omega) c.table) λw hS=>?_;refine yU (λhq=>?_) (λhq=>?_)
  ·rw[zzc hq]at eY
   refine Gm λob w hS=>?_;refine yy (n:=(mc m1 t.aw (t.changes.take i)).length) (xs:=mc m1 t.aw (t.changes.take i)) (y:=⟨t.aw,c.table,c.key,c.gone,c.val⟩) (enc:=jB) hS Xr Xh wJ (λx=>Cd x) rfl (by omega) (by omega) λv2 w hS=>?_;have hS:=hS.pY (x:=(⟨t.aw,c.table,c.key,c.gone,c.val⟩:gl));rw[<- eY]at hS
   have o1:v2.oneCell'=true:=bI.one hS;refine Gn λw hS=>?_;exact⟨⟨i+1,v2,rfl,by omega,aW hS⟩,by dsimp only;omega⟩
  rw[zzb (by simp[hq]),zzx]at eY
  rw[<- eY]at hS
  refine Gp ?_;exact⟨⟨i+1,ov,rfl,by omega,aW hS⟩,by dsimp only;omega⟩
 have bR2:t.changes.take i=t.changes:=zz2 (by omega);rw[bR2]at hS
 obtain⟨rv,hr,hS⟩:=cW.iff.1 (SL.bZ hS (t:=.ob (cW mp wp H1 m1)::GD ov (mc m1 t.aw t.changes)::sP nv N::.pt yb [Γ t.aw,ov,nv] 214::.pt zb [Γ 0,Θ,Θ] 214::.pt xb [Γ t.aw,Γ x.kind,x.cv,x.sv,Γ x.mark] 101::.mem H1::F) Xi);refine Gn λw hS=>?_;refine Cc (cLf wp m1.cB H1 x.cv t.changes (sm.mono dj) (by have:=sr.rows;omega) (by omega)) ?_;clear hS;rintro _ post ⟨⟨q,rfl⟩,rfl⟩ w hS;try simp only[app]at hS
 have hS:=cW.put (mp:=mp) {m1 with cB:=m1.cB.rH t.changes} rv hr hS Xp;obtain⟨H2,dQ,S0,hS⟩:=zz (H:=H1) (v:=nv) hS Xp;obtain⟨H3,gb,S1,hS⟩:=zz (H:=H2) (v:=ov) hS Xp;have on:nv.oneCell'=true:=S0.one;have oo:ov.oneCell'=true:=S1.one;refine Gp ?_;refine zr (vs:=[Γ t.aw,ov,nv]) hS Xu rfl rfl (JR oo on) λw hS=>?_;refine Gp ?_;have EK:=bw.le_trans dQ gb;have hS:=cW.jm (m:={m1 with cB:=m1.cB.rH t.changes}) EK hS Xr;exact⟨_,⟨⟨t.aw,ov,nv⟩,H3,bw.le_trans dj EK,rfl,⟨rfl,S1,S0.mono gb⟩,rfl⟩,aW hS⟩
def vY.all{wp:Nat}{k:dE}{H:bw}{mark aw:Int}{u:Ε}{post:Β}(h:vY wp k H mark aw u post):∃(x:iA) (H':bw) (q:Bool) (k':dE),H.le H'/\u= .tuple #[agg (eJ x),.bool q]/\post=[.ob (dF wp k'),.mem H']/\(∀v∈eJ x,v.oneCell'=true) /\
  ((q=false/\k.high mark aw=(k',none))\/(q=true/\∃t,k.high mark aw=(k',some t)/\gZ H' x t)):=by
 unfold vY at h;have e:k.high mark aw=(if k.uy mark aw then (k,none) else (mH k.n,some ⟨aw,j7 k aw,[rC k]⟩)):=rfl;by_cases hb:k.uy mark aw
 ·rw[zzc hb]at e
  rw[e]at h ⊢
  obtain⟨rfl,rfl⟩:=h;exact⟨uI,H,false,k,bw.le_refl H,rfl,rfl,by simp[eJ,Value.oneCell'],.inl ⟨rfl,rfl⟩⟩
 rw[zzb hb]at e
 rw[e]at h ⊢
 obtain⟨x,H',hh,rfl,hx,rfl⟩:=h;exact⟨x,H',true,_,hh,rfl,rfl,mq hx,.inr ⟨rfl,_,rfl,hx⟩⟩
def bR3{k k':dE}{mark aw:Int}{t:cD}(h:k.high mark aw=(k',some t)):t=⟨aw,j7 k aw,[rC k]⟩:=by
 unfold dE.high at h;split at h
 ·cases h
 cases h;rfl
def QE(mp wp:Nat)(H:bw)(m:dC)(hm:m.Ok)(x:mK)(t:cH)(hx:lz H x t)(hid : -9223372036854775808<=m.cB.id/\m.cB.id<=9223372036854775807):
  SP 225 [cF mp,agg (fm x)] [.ob (cW mp wp H m),.mem H] (K1 mp wp H (m.high t)):=by
 refine Enzz λW F w hS=>?_;apply cF7;delta M8 bU a_ cV aR bV cL ai bR;have hn:=hm.rows;have C3:=hm.reqs.1;refine zw hS λxb w hS=>?_;unfold fm at hS;rw[hx.aw,hx.mark]at hS
 obtain⟨rv,hr,hS⟩:=cW.iff.1 (SL.bZ hS (t:=.ob (cW mp wp H m)::.pt xb [Γ t.aw,Γ x.kind,x.cv,x.sv,Γ t.mark] 101::.mem H::F) Xi);refine Gm λzb w hS=>?_;refine⟨λus w=>∃(yb:Nat) (y:iA) (H1:bw) (q:Bool) (k':dE),us=[cF yb,.bool q]/\H.le H1/\(∀v∈eJ y,v.oneCell'=true)/\((q=false/\m.cB.high t.mark t.aw=(k',none))\/(q=true/\∃z,m.cB.high t.mark t.aw=(k',some z)/\gZ H1 y z)) /\
   SL W (.pt yb (eJ y) 214::.pt zb [Γ 0,Θ,Θ] 214::.pt xb [Γ t.aw,Γ x.kind,x.cv,x.sv,Γ t.mark] 101::.pt mp (xO m wp rv) 121::.ob (dF wp k')::.mem H1::F) w,?_,?_⟩
 ·refine Gn λw hS=>?_;refine⟨?_,?_⟩
  ·refine Cc (Yk wp m.cB H t.mark t.aw (by omega)) ?_;clear hS;rintro _ post hq w hS;obtain⟨y,H1,q,k',dj,rfl,rfl,uG,hc⟩:=hq.all;try simp only[app]at hS
   refine Gm λyb w hS=>?_;refine zr hS Xu rfl rfl uG λw hS=>?_;exact⟨yb,y,H1,q,k',rfl,dj,uG,hc,aW hS⟩
  refine Gb λyb w hS=>?_;refine Cc (Yk wp m.cB H t.mark t.aw (by omega)) ?_;clear hS;rintro _ post hq w hS;obtain⟨y,H1,q,k',dj,rfl,rfl,uG,hc⟩:=hq.all;(try simp only[app]at hS);refine Gp ?_
  refine zr hS Xu rfl rfl uG λw hS=>?_;exact⟨yb,y,H1,q,k',rfl,dj,uG,hc,aW hS⟩
 clear hS;rintro v5 v6 w ⟨yb,y,H1,q,k',cO,dj,uG,hc,hS⟩;cases cO;rcases hc with ⟨rfl,hh⟩|⟨rfl,z,hh,hz⟩
 ·refine z7 (zq ?_);refine Gn λw hS=>?_;have e:m.high t=(m,⟨t.aw,[],[]⟩):=by unfold dC.high;rw[hh]
  have hk:k'=m.cB:=by
   unfold dE.high at hh;split at hh
   ·cases hh;rfl
   cases hh
  subst hk;rw[e];have hS:=cW.put m rv (hr.mono dj) hS Xp;exact⟨_,⟨⟨t.aw,Θ,Θ⟩,H1,dj,rfl,⟨rfl,dx.nil _ _,dx.nil _ _⟩,rfl⟩,aW hS⟩
 refine z7 (zp ?_);have Uw:=bR3 hh;subst Uw;have FA:=hz.aw;have AW:=hz.iN;have T3:=hz.ops;have hS:SL W (.pt yb [Γ y.aw,y.ov,y.nv] 214::_) w:=hS;refine Gp ?_;refine zD (j:=0) hS Xh wI AW (x:=rC m.cB) rfl (by simp) ?_;refine Gb λnb w hS=>?_;refine Cc (ZI H1 rv m.reqs m.cB.id m.cB.dz m.cB.last (hr.mono dj) (by omega) hid) ?_;clear hS;rintro u post ⟨H2,dQ,rfl,hq⟩ w hS;try simp only[app]at hS
 have fA:=bw.le_trans dj dQ;cases l5:lW m.reqs m.cB.id m.cB.dz m.cB.last with
 | none=>
  rw[l5]at hq
  subst hq;have e:m.high t=({m with cB:=k'},⟨t.aw,j7 m.cB t.aw,[]⟩):=by unfold dC.high;rw[hh];simp only;rw[l5]
  rw[e];refine Gp ?_;refine zq ?_;refine Gn λw hS=>?_;have oo:y.ov.oneCell'=true:=T3.one;refine zr (vs:=[Γ y.aw,y.ov,Θ]) hS Xu rfl rfl (JR oo rfl) λw hS=>?_;refine Gp ?_;have hS:=cW.put (mp:=mp) {m with cB:=k'} rv (hr.mono fA) hS Xp;exact⟨_,⟨⟨y.aw,y.ov,Θ⟩,H2,fA,rfl,⟨FA,T3.mono dQ,dx.nil _ _⟩,rfl⟩,aW hS⟩
 | some L=>
  rw[l5]at hq
  obtain⟨rx,rfl,Uc⟩:=hq;have e:m.high t=({m with cB:=k',reqs:=L},⟨t.aw,j7 m.cB t.aw,[rC m.cB]⟩):=by unfold dC.high;rw[hh];simp only;rw[l5]
  rw[e];have ox:rx.oneCell'=true:=Uc.one;refine Gp ?_;refine zp ?_;refine Gn λw hS=>?_;refine zr (vs:=[Γ y.aw,y.ov,y.nv]) hS Xu rfl rfl uG λw hS=>?_;refine Gp ?_;have hS:=cW.put (mp:=mp) {m with cB:=k',reqs:=L} rx Uc hS Xp;exact⟨_,⟨y,H2,fA,rfl,hz.mono dQ,rfl⟩,aW hS⟩
def K8(mp wp:Nat)(H:bw)(y:dC × (cD × Int))(u:Ε)(post:Β):Prop:=∃(x:iA) (H':bw),H.le H'/\u= .tuple #[agg (eJ x),Γ y.2.2]/\gZ H' x y.2.1/\post=[.ob (cW mp wp H' y.1),.mem H']
def Z4(mp wp:Nat)(H:bw)(m:dC)(hm:m.Ok)(x:mK)(t:cH)(hx:lz H x t)(hid : -9223372036854775808<=m.cB.id/\m.cB.id<=9223372036854775807):
  SP 167 [cF mp,agg (fm x)] [.ob (cW mp wp H m),.mem H] (K8 mp wp H (m.take t)):=by
 refine Enzz λW F w hS=>?_;apply cEn;delta Mc aI bU a_ cV bV cL ai bR;have ib:=hm.lV;refine zw hS λxb w hS=>?_;refine Gm λzb w hS=>?_;refine Cg (yo H x t hx) λw hS=>?_;unfold dC.take;refine zu (λh=>?_) (λh=>?_)
 ·rw[zzc h];refine Gn λw hS=>?_;exact⟨_,⟨uI,H,bw.le_refl H,rfl,⟨rfl,dx.nil _ _,dx.nil _ _⟩,rfl⟩,aW hS⟩
 rw[zzb (by simp[h])];obtain⟨m1,m2,m3,m4,m5,m6,m7⟩:=l_ h;have hl:=hx.aw;have hk:=hx.kind;have Fm:=hx.mark;obtain⟨rv,hr,hS⟩:=cW.iff.1 (SL.bZ hS (t:=.ob (cW mp wp H m)::.pt zb [Γ 0,Θ,Θ] 214::.pt xb (fm x) 101::.mem H::F) Xi);refine Gn λw hS=>?_;rw[hl];have Fs:∀{w:Ζ},(t.aw≠m.at_+1\/m.cB.waits t.kind t.mark=true)->SL W (.pt mp (xO m wp rv) 121::.ob (dF wp m.cB)::.mem H::F) w->∃post,K8 mp wp H (if t.aw≠m.at_+1\/m.cB.waits t.kind t.mark=true then (m,(⟨0,[],[]⟩,10))
   else if t.kind=1 then let r:=({m with at_:=t.aw}:dC).Aj t;(r.1,(r.2,0))
   else if t.kind=3 then let r:=({m with at_:=t.aw}:dC).high t;(r.1,(r.2,0))
   else ({m with at_:=t.aw,cB:=m.cB.low t.mark},(⟨t.aw,[],[]⟩,0))) (.tuple #[agg (eJ uI),Γ 10]) post/\SL W (app post F) w:=λh hS=>by
  rw[zzc h];have hS:=cW.put m rv hr hS Xp;exact⟨_,⟨uI,H,bw.le_refl H,rfl,⟨rfl,dx.nil _ _,dx.nil _ _⟩,rfl⟩,aW hS⟩
 refine za (λh1=>?_) (λh1=>?_)
 ·refine Gn λw hS=>?_;exact Fs (.inl h1) (aW hS)
 refine Gp ?_;refine yH (vs:=[cF wp]) hS Xh rfl (λj v e=>by
  match j,e with
  | 0,e=>exact e) ?_
 refine Gp ?_;refine Cg (ZH wp m.cB x) λw hS=>?_;rw[hk,Fm];refine yU (λh2=>?_) (λh2=>?_)
 ·refine Gn λw hS=>?_;exact Fs (.inr h2) (aW hS)
 clear Fs;rw[zzb (show ¬(t.aw≠m.at_+1\/m.cB.waits t.kind t.mark=true) by rw[h2];simp;omega)];refine Gn λw hS=>?_;rw[hl]at hS
 have hS:SL W (.pt mp (xO {m with at_:=t.aw} wp rv) 121::.ob (dF wp m.cB)::.pt zb [Γ 0,Θ,Θ] 214::.pt xb (fm x) 101::.mem H::F) w:=aW hS;have cG:({m with at_:=t.aw}:dC).Ok:=⟨hm.reqs,hm.t1,hm.rows,by show 0<=t.aw/\t.aw<=1099511627776;omega⟩;rw[hk];refine za (λh3=>?_) (λh3=>?_)
 ·rw[zzc h3];have hS:=cW.put (mp:=mp) {m with at_:=t.aw} rv hr hS Xp;refine Gp ?_;refine Cc (YW mp wp H {m with at_:=t.aw} cG x t hx m5 m7 m4) ?_;clear hS;rintro _ post ⟨y,H1,dj,rfl,hy,rfl⟩ w hS;try simp only[app]at hS
  refine zr hS Xu rfl rfl (mq hy) λw hS=>?_;refine Gp ?_;exact⟨_,⟨y,H1,dj,rfl,hy,rfl⟩,aW hS⟩
 rw[zzb h3];refine bY (λh4=>?_) (λh4=>?_)
 ·rw[zzc h4];have hS:=cW.put (mp:=mp) {m with at_:=t.aw} rv hr hS Xp;refine Gp ?_;refine Cc (QE mp wp H {m with at_:=t.aw} cG x t hx hid) ?_;clear hS;rintro _ post ⟨y,H1,dj,rfl,hy,rfl⟩ w hS;try simp only[app]at hS
  refine zr hS Xu rfl rfl (mq hy) λw hS=>?_;refine Gp ?_;exact⟨_,⟨y,H1,dj,rfl,hy,rfl⟩,aW hS⟩
 rw[zzb h4];refine Gn λw hS=>?_;rw[Fm];refine Cc (cK8 wp m.cB t.mark) ?_;clear hS;rintro _ post ⟨⟨q,rfl⟩,rfl⟩ w hS;refine Gn λw hS=>?_;rw[hl];have hS:=cW.put (mp:=mp) (wp:=wp) {m with at_:=t.aw,cB:=m.cB.low t.mark} rv hr hS Xp;exact⟨_,⟨⟨t.aw,Θ,Θ⟩,H,bw.le_refl H,rfl,⟨rfl,dx.nil _ _,dx.nil _ _⟩,rfl⟩,aW hS⟩
def oO(m:Int × Int):Ξ:=[Γ m.2,Γ m.1]
def Ar(m:Int × Int):(oO m).length=2:=rfl
def Sf(m:Int × Int):∀v∈oO m,v.oneCell'=true:=by simp[oO,Value.oneCell']
structure GH(d:dA)(a:Nat)(na:Bool)(lf:Int):Prop where
 t:na=true->d.at_=a/\d.left=lf/\a<d.l.length
 f:na=false->d.at_=(a:Int)-1/\d.left=0/\a<=d.l.length
structure DU where
 v:Ε
 a:Nat
 na:Bool
 lf:Int
abbrev uK(x:DU):Ξ:=[x.v,Γ x.a,.bool x.na,Γ x.lf]
abbrev sO(v:Ε)(l:List (Int × Int)):Μ:=.ob (bI v 418 2 l.length (l.map oO).flatten)
def fq(p:Nat)(d:dA):zC:=jF λx:DU=>zH (GH d x.a x.na x.lf) [.pt p (uK x) 402,sO x.v d.l]
def fq.iff{W w:Ζ}{l:Β}{p:Nat}{d:dA}:SL W (.ob (fq p d)::l) w↔∃x:DU,GH d x.a x.na x.lf/\SL W (.pt p (uK x) 402::sO x.v d.l::l) w:=by
 unfold fq;simp only[SL.ex,SL.fact,zzu,zzq]
def fq.Bn{W w:Ζ}{l F:Β}{p:Nat}{d:dA}(v:Ε)(a:Nat)(na:Bool)(lf:Int)(h:GH d a na lf)(hS:SL W l w)(k:gx [.pt p [v,Γ a,.bool na,Γ lf] 402,sO v d.l] l F):SL W (.ob (fq p d)::F) w:=fq.iff.2 ⟨⟨v,a,na,lf⟩,h,hS.pick k⟩
def aW3:SP 207 [] [] (λv post=>∃p:Nat,v= Δ p/\post=[.ob (fq p wE)]):=by
 refine Enzz λW F w hS=>?_;apply cFp;delta MO ai bR;refine yX rfl ?_;refine⟨_,rfl,zE hS λp w hS=>?_⟩;have hS:SL W (sO Θ []::.pt p (uK ⟨Θ,0,false,0⟩) 402::F) w:=bI.nil hS;exact⟨_,⟨p,rfl,rfl⟩,SL.bZ (fq.Bn (d:=wE) Θ 0 false 0 ⟨(λh=>by cases h),λ_=>⟨rfl,rfl,zzi _⟩⟩ hS Xp) Xi⟩
def YT(b:Nat)(id:Int)(m:Int × Int):SP 374 [agg (oO m),Δ b] [.pt b [Γ id] 3] (cC (.bool (decide (m.1=id))) [.pt b [Γ id] 3]):=by
 refine Enzz λW F w hS=>?_;apply cJa;delta OR a_;refine zw hS λxb w hS=>?_;unfold oO at hS;refine Gp ?_;(exact cA hS)
def ZE(p:Nat)(x:DU)(l:List (Int × Int))(id:Int)(hn:l.length<=1000):
  SP 341 [Δ p,Γ id] [.pt p (uK x) 402,sO x.v l] (cC (Γ (k_ (l.findIdx? λm=>decide (m.1=id)))) [.pt p (uK x) 402,sO x.v l]):=by
 refine Enzz λW F w hS=>?_;apply cIt;delta OF bU;refine⟨rfl,zE hS λb w hS=>?_⟩;unfold uK at hS;refine Gp ?_;have hC:=Jj (t:=418) Ar rfl (λv0 v1 w R h=>cI9 v0 v1 w R h) (λm=>YT b id m) x.v l (by omega);simp only[zzu,zzq]at hC;refine Cg (hC) λw hS=>?_;(exact cA hS)
def aWf(p:Nat)(d:dA)(id weight:Int)(hn:d.l.length<=1000):SP 297 [Δ p,Γ id,Γ weight] [.ob (fq p d)] (λv post=>(∃e:Int,v= Γ e)/\post=[.ob (fq p (d.add id weight))]):=by
 refine Enzz λW F w hS=>?_;apply cHt;delta N6 aI bU cV ai;have fB:∀{e:Int} {w:Ζ},(id<1\/64<id\/weight<1\/8<weight)->SL W (.ob (fq p d)::F) w->∃post,((∃e':Int,Γ e= Γ e')/\post=[.ob (fq p (d.add id weight))])/\SL W (app post F) w:=λh hS=>by
  rw[show d.add id weight=d by unfold dA.add;rw[zzc h]];exact⟨_,⟨⟨_,rfl⟩,rfl⟩,hS⟩
 refine Gp ?_;refine za (λh=>fB (by omega) hS) (λh1=>?_);refine Gp ?_;refine za (λh=>fB (by omega) hS) (λh2=>?_);refine Gp ?_;refine za (λh=>fB (by omega) hS) (λh3=>?_);refine Gp ?_;refine za (λh=>fB (by omega) hS) (λh4=>?_);clear fB;obtain⟨x,hr,hS⟩:=fq.iff.1 hS;refine Cg (ZE p x d.l id hn) λw hS=>?_;have ha:d.add id weight=match A9 d id with|some _=>d|none=>{d with l:=d.l++[(id,weight)]}:=by
  unfold dA.add;rw[zzb (by omega)];rfl
 rw[ha];unfold A9;cases hf:d.l.findIdx? (λm=>decide (m.1=id)) with
 | some i=>
  refine za (λ_=>?_) (λh=>by simp only[k_]at h;omega);exact⟨_,⟨⟨_,rfl⟩,rfl⟩,fq.iff.2 ⟨x,hr,aW hS⟩⟩
 | none=>
  refine za (λh=>by simp only[k_]at h;omega) (λ_=>?_);unfold uK at hS;refine Gm λb w hS=>?_;refine yy (n:=d.l.length) (xs:=d.l) (y:=(id,weight)) (enc:=oO) hS Xr Xh Ar Sf rfl (by omega) (by omega) λv2 w hS=>?_;have hS:=hS.pY (x:=(id,weight));have o1:v2.oneCell'=true:=bI.one hS;refine Gn λw hS=>?_;refine⟨_,⟨⟨_,rfl⟩,rfl⟩,SL.bZ (fq.Bn (d:={d with l:=d.l++[(id,weight)]}) v2 x.a x.na x.lf ⟨λh=>?_,λh=>?_⟩ hS Xp) Xi⟩
  ·have:=hr.t h;exact⟨this.1,this.2.1,by show x.a<(d.l++[_]).length;rw[zza];omega⟩
  have:=hr.f h;exact⟨this.1,this.2.1,by show x.a<=(d.l++[_]).length;rw[zza];omega⟩
def aWh(p:Nat)(d:dA)(id:Int)(hn:d.l.length<=1000):SP 296 [Δ p,Γ id] [.ob (fq p d)] (λv post=>(∃e:Int,v= Γ e)/\post=[.ob (fq p (d.del id))]):=by
 refine Enzz λW F w hS=>?_;apply cHs;delta N5 aI bU cV ai;obtain⟨x,hr,hS⟩:=fq.iff.1 hS;refine Cg (ZE p x d.l id hn) λw hS=>?_;unfold dA.del A9;cases hf:d.l.findIdx? (λm=>decide (m.1=id)) with
 | none=>
  refine za (λ_=>?_) (λh=>by simp only[k_]at h;omega);exact⟨_,⟨⟨_,rfl⟩,rfl⟩,fq.iff.2 ⟨x,hr,aW hS⟩⟩
 | some i=>
  have hi:i<d.l.length:=(yyk.1 hf).1;have hxa:x.a<=d.l.length:=by
   cases ht:x.na with
   | true=>have:=hr.t ht;omega
   | false=>exact (hr.f ht).2.2
  simp only[k_];refine za (λh=>by omega) (λ_=>?_);unfold uK at hS;refine Gp ?_;refine Cc (HC (sz:=2) (gT:=16) (z:=[Γ 0,Γ 0]) (zv:=.agg #[Γ 0,Γ 0]) (λv0 v1 v2 w R h=>cIu v0 v1 v2 w R h) Tryz.underlying400 (λw=>by kernel_rfl) rfl rfl (by simp[Value.oneCell']) x.v d.l.length i (d.l.map oO).flatten hi (tK Sf _) (by omega) (by omega)) ?_;clear hS;rintro v post rfl w hS;try simp only[app]at hS
  have ef:List.take (i*2) (d.l.map oO).flatten++List.drop ((i+1)*2) (d.l.map oO).flatten=((d.l.eraseIdx i).map oO).flatten:=by
   rw[ug Ar,vi Ar,List.eraseIdx_eq_take_drop_succ];simp
  have el:d.l.length-1=(d.l.eraseIdx i).length:=by rw[uut,zzc hi]
  rw[ef,el]at hS
  have o1:v.oneCell'=true:=bI.one hS;refine Gn λw hS=>?_;refine za (λh1=>?_) (λh1=>?_)
  ·refine Gn λw hS=>?_;have hx:((x.a:Int)-1)=((x.a-1:Nat):Int):=by omega
   rw[hx]at hS
   refine⟨_,⟨⟨_,rfl⟩,rfl⟩,SL.bZ (fq.Bn (d:=⟨d.l.eraseIdx i,if (i:Int)<=d.at_ then d.at_-1 else d.at_,if (i:Int)=d.at_ then 0 else d.left⟩) v (x.a-1) x.na x.lf ⟨λh=>?_,λh=>?_⟩ hS Xp) Xi⟩
   ·obtain⟨h2,h3,h4⟩:=hr.t h;refine⟨?_,?_,by show x.a-1<(d.l.eraseIdx i).length;omega⟩
    ·show (if (i:Int)<=d.at_ then d.at_-1 else d.at_)=_;rw[zzc (by omega)];omega
    show (if (i:Int)=d.at_ then 0 else d.left)=_;rw[zzb (by omega)];exact h3
   obtain⟨h2,h3,h4⟩:=hr.f h;refine⟨?_,?_,by show x.a-1<=(d.l.eraseIdx i).length;omega⟩
   ·show (if (i:Int)<=d.at_ then d.at_-1 else d.at_)=_;rw[zzc (by omega)];omega
   show (if (i:Int)=d.at_ then 0 else d.left)=_;rw[h3];simp
  refine bY (λh2=>?_) (λh2=>?_)
  ·refine Gn λw hS=>?_;refine⟨_,⟨⟨_,rfl⟩,rfl⟩,SL.bZ (fq.Bn (d:=⟨d.l.eraseIdx i,if (i:Int)<=d.at_ then d.at_-1 else d.at_,if (i:Int)=d.at_ then 0 else d.left⟩) v x.a false x.lf ⟨(λh=>by cases h),λ_=>?_⟩ hS Xp) Xi⟩;cases ht:x.na with
   | true=>
    obtain⟨h3,h4,h5⟩:=hr.t ht;refine⟨?_,?_,by show x.a<=(d.l.eraseIdx i).length;omega⟩
    ·show (if (i:Int)<=d.at_ then d.at_-1 else d.at_)=_;rw[zzc (by omega)];omega
    show (if (i:Int)=d.at_ then 0 else d.left)=_;rw[zzc (by omega)]
   | false=>
    obtain⟨h3,h4,h5⟩:=hr.f ht;refine⟨?_,?_,by show x.a<=(d.l.eraseIdx i).length;omega⟩
    ·show (if (i:Int)<=d.at_ then d.at_-1 else d.at_)=_;rw[zzb (by omega)];omega
    show (if (i:Int)=d.at_ then 0 else d.left)=_;rw[h4];simp
  refine⟨_,⟨⟨_,rfl⟩,rfl⟩,SL.bZ (fq.Bn (d:=⟨d.l.eraseIdx i,if (i:Int)<=d.at_ then d.at_-1 else d.at_,if (i:Int)=d.at_ then 0 else d.left⟩) v x.a x.na x.lf ⟨λh=>?_,λh=>?_⟩ hS Xp) Xi⟩
  ·obtain⟨h3,h4,h5⟩:=hr.t h;refine⟨?_,?_,by show x.a<(d.l.eraseIdx i).length;omega⟩
   ·show (if (i:Int)<=d.at_ then d.at_-1 else d.at_)=_;rw[zzb (by omega)];exact h3
   show (if (i:Int)=d.at_ then 0 else d.left)=_;rw[zzb (by omega)];exact h4
  obtain⟨h3,h4,h5⟩:=hr.f h;refine⟨?_,?_,by show x.a<=(d.l.eraseIdx i).length;omega⟩
  ·show (if (i:Int)<=d.at_ then d.at_-1 else d.at_)=_;rw[zzb (by omega)];exact h3
  show (if (i:Int)=d.at_ then 0 else d.left)=_;rw[h4];simp
def Qq(p:Nat)(d:dA)(hd:d.Ok)(hn:d.l.length<=1000):SP 230 [Δ p] [.ob (fq p d)] (λv post=>v= .tuple #[Γ d.next.2,.bool (decide (d.l≠[]))]/\post=[.ob (fq p d.next.1)]):=by
 refine Enzz λW F w hS=>?_;apply cGc;delta Nc aI bU a_ cV cL ai;have ib:=hd.oI;have hl8:=hd.FJ;have rh:=hd.FI;obtain⟨x,hr,hS⟩:=fq.iff.1 hS;unfold uK at hS;refine Gp ?_;refine zt hS (v:=x.v) (t:=418) (sz:=2) (n:=d.l.length) (cells:=(d.l.map oO).flatten) Xh ?_;refine bY (λh=>?_) (λh=>?_)
 ·have he:d.l=[]:=zzp (by omega);have e:d.next=(d,0):=by unfold dA.next;rw[zzc he]
  rw[e,zzz (by simp[he])];exact⟨_,⟨rfl,rfl⟩,fq.iff.2 ⟨x,hr,aW hS⟩⟩
 have dO:d.l≠[]:=λe=>h (by rw[e];rfl);have dZ:0<=d.place/\d.place<d.l.length:=by
  unfold dA.place;have:=hd.neg;have:=hd.lV;split
  ·split<;>omega
  omega
 obtain⟨j,hj⟩:∃j:Nat,d.place=j:=⟨d.place.toNat,by omega⟩;have gM:j<d.l.length:=by omega
 have xk:d.l[j]?=some d.ma:=by
  unfold dA.ma;rw[hj,zzw,zzd gM];rfl
 have hw:=hd.w _ (yy9 xk);refine⟨λus w=>∃(a:Nat) (t:Bool) (lf:Int),us=[]/\((t=true/\lf=d.left/\d.left≠0/\(a:Int)=d.at_)\/(t=false/\(a:Int)=d.at_+1/\d.left=0))/\SL W (.pt p [x.v,Γ a,.bool t,Γ lf] 402::sO x.v d.l::F) w,?_,?_⟩
 ·refine Gp ?_;refine yU (λht=>?_) (λht=>?_)
  ·obtain⟨h3,h4,h5⟩:=hr.t ht;refine bY (λh0=>?_) (λh0=>?_)
   ·refine Gn λw hS=>?_;exact⟨x.a+1,false,x.lf,rfl,.inr ⟨rfl,by omega,by omega⟩,aW hS⟩
   exact⟨x.a,true,x.lf,rfl,.inl ⟨rfl,h4.symm,by omega,h3.symm⟩,by rw[<- ht];exact aW hS⟩
  obtain⟨h3,h4,h5⟩:=hr.f ht;exact⟨x.a,false,x.lf,rfl,.inr ⟨rfl,by omega,h4⟩,by rw[<- ht];exact aW hS⟩
 clear hS;rintro w ⟨a,t,lf,-,hc,hS⟩;refine⟨λus w=>us=[]/\SL W (.pt p [x.v,Γ j,.bool true,Γ (if d.left=0 then d.ma.2 else d.left)] 402::sO x.v d.l::F) w,?_,?_⟩
 ·refine Gp ?_;rcases hc with ⟨rfl,rfl,gB,jV⟩|⟨rfl,gB,jV⟩
  ·refine zp ?_;have e:d.place=d.at_:=by unfold dA.place;rw[zzb gB]
   have:a=j:=by omega
   subst this;rw[zzb gB];exact⟨rfl,aW hS⟩
  refine zq ?_;refine⟨λus w=>us=[]/\SL W (.pt p [x.v,Γ j,.bool false,Γ lf] 402::sO x.v d.l::F) w,?_,?_⟩
  ·refine Gn λw hS=>?_;refine zt hS (v:=x.v) (t:=418) (sz:=2) (n:=d.l.length) (cells:=(d.l.map oO).flatten) Xh ?_;refine Gp ?_;have e:d.place=if (d.l.length:Int)<=d.at_+1 then 0 else d.at_+1:=by unfold dA.place;rw[zzc jV]
   refine za (λh0=>?_) (λh0=>?_)
   ·rw[zzc (by omega)]at e
    have:j=0:=by omega
    subst this;refine Gn λw hS=>?_;have hS:SL W (.pt p [x.v,Γ ((0:Nat):Int),.bool false,Γ lf] 402::sO x.v d.l::F) w:=hS;exact aW hS
   rw[zzb (by omega)]at e
   have:a=j:=by omega
   subst this;exact⟨rfl,aW hS⟩
  clear hS;rintro w ⟨-,hS⟩;refine Gn λw hS=>?_;obtain⟨fa,fc,Us,_,hfx⟩:=bI.at hS (v:=x.v) (t:=418) (sz:=2) (n:=d.l.length) (cells:=(d.l.map oO).flatten) Xh;obtain⟨fb,rfl,hfc⟩:=hfx j gM;rw[Us];refine zG gM (yL (yL ?_));have oV:=hfc _ _ (p' Ar d.l j 0 d.ma (Γ d.ma.2) xk rfl);refine⟨_,_,rfl,by rw[yye];exact oV,?_⟩;refine Gn λw hS=>?_;rw[zzc jV,<- Us];exact aW hS
 clear hS hc;rintro w ⟨-,hS⟩;refine Gn λw hS=>?_;refine yh (i:=1) hS (v:=x.v) (t:=418) Xh Ar xk gM (u:=Γ d.ma.1) rfl ?_;have e:d.next=(⟨d.l,d.place,(if d.left=0 then d.ma.2 else d.left)-1⟩,d.ma.1):=by unfold dA.next;rw[zzb dO]
 rw[e,zzl dO];exact⟨_,⟨rfl,rfl⟩,SL.bZ (fq.Bn (d:=⟨d.l,d.place,(if d.left=0 then d.ma.2 else d.left)-1⟩) x.v j true ((if d.left=0 then d.ma.2 else d.left)-1) ⟨λ_=>⟨hj,rfl,gM⟩,(λh=>by cases h)⟩ hS Xp) Xi⟩
def bX2(kind mark:Int):ir [Γ 0,Γ 0,Θ,Θ,Γ 0] [(0,1,Γ 1),(1,1,Γ kind),(4,1,Γ mark)]=some (fm ⟨1,kind,Θ,Θ,mark⟩):=by simp[ir,Value.cells,fm]
def Yh(sp tp dp lp:Nat)(k:cQ)(H:bw)(kind mark:Int){N:Nat}(hk:ju k N)(hN:N<=1000000000)(dS:k.d.ops<=90000):
  SP 231 [cF sp,Γ kind,Γ mark] [.ob (df sp tp dp lp k),.ob (bX dp k.d),.mem H] (x8 sp tp dp lp H (k.mX kind mark)):=by
 refine Enzz λW F w hS=>?_;apply cGd;delta Nd aI cL G1 ai bR;have hx:lz H ⟨1,kind,Θ,Θ,mark⟩ ⟨1,kind,[],[],mark⟩:=⟨rfl,rfl,rfl,dx.nil _ _,dx.nil _ _⟩;have fB:∀{w:Ζ},¬((kind=2\/kind=3)/\eg ⟨1,kind,[],[],mark⟩=true)->SL W (.ob (df sp tp dp lp k)::.ob (bX dp k.d)::.mem H::F) w->∃post,x8 sp tp dp lp H (k.mX kind mark) (.tuple #[Γ 0,Γ 1]) post/\SL W (app post F) w:=λh hS=>by
  rw[show k.mX kind mark=(k,(0,1)) from zzb h];exact⟨_,⟨rfl,rfl⟩,hS⟩
 refine yX (bX2 kind mark) ?_;refine Gb λxb w hS=>?_;have Fe:∀{w:Ζ},(kind=2\/kind=3)->SL W (.pt xb (fm ⟨1,kind,Θ,Θ,mark⟩) 101::.ob (df sp tp dp lp k)::.ob (bX dp k.d)::.mem H::F) w->zg 5 (cF xb) w λKF=>aF 108 [KF] w λv20 uR=>Zf v20 λv21=>dm v21 (∃post,x8 sp tp dp lp H (k.mX kind mark) (.tuple #[Γ 0,Γ 1]) post/\SL W (app post F) uR)
   (zg 5 (cF xb) uR λv24=>aF 111 [cF sp,v24] uR λv25 w_4=>zf 0 v25 λv26=>zf 1 v25 λv27=>∃post,x8 sp tp dp lp H (k.mX kind mark) (.tuple #[v26,v27]) post/\SL W (app post F) w_4):=λh2 hS=>by
  refine zA hS Xh rfl ?_;refine Cg (yo H ⟨1,kind,Θ,Θ,mark⟩ ⟨1,kind,[],[],mark⟩ hx) λw hS=>?_;refine zu (λh=>fB (λx=>by rw[x.2]at h;cases h) (aW hS)) (λh=>?_);rw[show k.mX kind mark=k.gz ⟨1,kind,[],[],mark⟩ from zzc ⟨h2,h⟩];refine zA hS Xh rfl ?_;refine Cg (YM sp tp dp lp k H ⟨1,kind,Θ,Θ,mark⟩ ⟨1,kind,[],[],mark⟩ hx h hk hN dS) λw hS=>?_;exact cA hS
 refine za (λh=>?_) (λh=>Fe (.inl (by omega)) (aW hS));refine Gp ?_;exact za (λh2=>fB (λx=>by omega) (aW hS)) (λh2=>Fe (.inr (by omega)) (aW hS))
abbrev oF(v:Ε)(l:List Rq):Μ:=.ob (bI v 98 7 l.length (l.map iD).flatten)
def b_f{L:List Rq}{i:Nat}(h:i<L.length):iS (L.take (i+1))=iS (L.take i)++(if L[i].done=false then [L[i]] else []):=by
 unfold iS;rw[zze h,yy0,vv0];cases L[i].done<;>simp
def JW(L:List Rq)(i:Nat):(iS (L.take i)).length<=L.length:=by
 have:=yym (λr:Rq=>!r.done) (L.take i);rw[zzf]at this
 unfold iS;omega
def yW(v:Ε)(L:List Rq)(hn:L.length<=1000):SP 74 [v] [oF v L] (λu post=>post=[oF u (iS L),oF v L]):=by
 refine Enzz λW F w hS=>?_;apply cKd;delta Pu aI a_ cL ai bR;refine zt hS (v:=v) (t:=98) (sz:=7) (n:=L.length) (cells:=(L.map iD).flatten) Xh ?_;have hS:SL W (oF Θ []::_) w:=bI.nil hS;refine⟨λus w=>∃(i:Nat) (u:Ε),us=[u,Γ i]/\i<=L.length/\SL W (oF u (iS (L.take i))::oF v L::F) w,λus _=>match us with|[_,.int _ i]=>(L.length-i).toNat|_=>0,⟨0,Θ,rfl,by omega,hS⟩,?_⟩;clear hS;rintro v3 v8 w ⟨i,u,cO,hi,hS⟩;cases cO;refine bY (λh=>?_) (λh=>?_)
 ·have cx:i<L.length:=by omega
  have hx:L[i]?=some L[i]:=zzd cx;have eY:=b_f cx;have hle:=JW L i;refine zT hS (v:=v) (t:=98) Xh nC hx cx ?_;generalize L[i]=r at *
  refine Gb λxb w hS=>?_;refine zu (λhd=>?_) (λhd=>?_)
  ·rw[zzc hd]at eY
   refine zA hS Xh rfl ?_;refine Gm λyb w hS=>?_;refine yy (n:=(iS (L.take i)).length) (xs:=iS (L.take i)) (y:=r) (enc:=iD) hS Xr Xh nC Ez rfl (by omega) (by omega) λv2 w hS=>?_;have hS:=hS.pY (x:=r);rw[<- eY]at hS
   refine Gp ?_;exact⟨⟨i+1,v2,rfl,by omega,aW hS⟩,by dsimp only;omega⟩
  rw[zzb (by simp[hd]),zzx]at eY
  rw[<- eY]at hS
  refine Gp ?_;exact⟨⟨i+1,v3,rfl,by omega,aW hS⟩,by dsimp only;omega⟩
 rw[zz2 (by omega)]at hS
 exact⟨_,rfl,aW hS⟩
abbrev ji(sp mp wp gp:Nat)(n:Int):Ξ:=[cF sp,cF mp,cF wp,cF gp,Γ n]
def QZ(sp mp wp:Nat)(H:bw)(m:dC)(n:Int):SP 150 [cF sp,cF mp,Γ n] [.ob (cW mp wp H m)] (λv post=>(¬(1<=n/\n<=64)/\v= .tuple #[.pointer none,Γ 1]/\post=[.ob (cW mp wp H m)]) \/
  ((1<=n/\n<=64)/\∃pp gp:Nat,v= .tuple #[cF pp,Γ 0]/\post=[.pt pp (ji sp mp wp gp n) 208,.ob (fq gp wE),.ob (cW mp wp H m)])):=by
 refine Enzz λW F w hS=>?_;apply cD6;delta LQ aI bV ai cT;refine Gp ?_;refine za (λh=>⟨_,.inl ⟨by omega,rfl,rfl⟩,hS⟩) (λh1=>?_);refine Gp ?_;refine za (λh=>⟨_,.inl ⟨by omega,rfl,rfl⟩,hS⟩) (λh2=>?_);obtain⟨rv,hr,hS⟩:=cW.iff.1 hS;refine Gp ?_;refine yH (vs:=[cF wp]) hS Xh rfl (λj v e=>by
  match j,e with
  | 0,e=>exact e) ?_
 refine Cg (YF wp) λw hS=>?_;refine Cc (aW3) ?_;clear hS;rintro _ post ⟨gp,rfl,rfl⟩ w hS;(try simp only[app]at hS);refine Gp ?_
 refine⟨_,rfl,zE hS λpp w hS=>?_⟩;have hS:=cW.put m rv hr hS Xp;exact⟨_,.inr ⟨by omega,pp,gp,rfl,rfl⟩,aW hS⟩
def Zo(sp mp wp pp gp:Nat)(n:Int)(H:bw)(m:dC)(hn:m.reqs.length<=1000):SP 64 [cF pp] [.pt pp (ji sp mp wp gp n) 208,.ob (cW mp wp H m),.mem H] (cC (.bool (Dz m)) [.pt pp (ji sp mp wp gp n) 208,.ob (cW mp wp H m),.mem H]):=by
 refine Enzz λW F w hS=>?_;apply cJ4;delta Pk aI bU cw ai;unfold Dz;refine Gp ?_;obtain⟨rv,hr,hS⟩:=cW.iff.1 (SL.bZ hS (t:=.ob (cW mp wp H m)::.pt pp (ji sp mp wp gp n) 208::.mem H::F) Xi);refine Cg (yZ wp m.cB) λw hS=>?_;have hS:=cW.put m rv hr hS Xp;refine za (λh=>?_) (λh1=>?_)
 ·rw[zzl (.inl h)];exact cA hS
 refine bY (λh=>?_) (λh2=>?_)
 ·rw[zzl (.inr (.inl h))];exact cA hS
 refine bY (λh3=>?_) (λh3=>?_)
 ·refine Gp ?_;refine Cc (yx mp wp H m hn) ?_;clear hS;rintro u post rfl w hS;try simp only[app]at hS
  refine Cc (yW u m.reqs hn) ?_;clear hS;rintro u2 post rfl w hS;try simp only[app]at hS
  refine zt hS (v:=u2) (t:=98) (sz:=7) (n:=(iS m.reqs).length) (cells:=((iS m.reqs).map iD).flatten) Xh ?_;refine Gp ?_;have e:decide (m.cB.state=1\/m.cB.state=2\/m.cB.state=0/\iS m.reqs≠[])=decide ((0:Int)<((iS m.reqs).length:Int)):=by
   rw[yyg];constructor
   ·rintro (h|h|h)
    ·exact absurd h h1
    ·exact absurd h h2
    have:=xx2.2 h.2;omega
   intro h;exact .inr (.inr ⟨h3,λe=>by rw[e]at h;simp at h⟩)
  rw[e];exact cA hS
 rw[zzz (λh=>h.elim h1 (λh=>h.elim h2 (λh=>h3 h.1)))];exact cA hS
def aWg(d:dA)(id:Int):(d.del id).l.length<=d.l.length:=by
 unfold dA.del;split
 ·exact zzi _
 exact List.length_eraseIdx_le ..
def aWe(d:dA)(id w:Int):(d.add id w).l.length<=d.l.length+1:=by
 unfold dA.add;split
 ·omega
 split
 ·omega
 simp
def Eu:∀(L:List Rq) (d:dA),(L.foldl (λd r=>d.del r.id) d).l.length<=d.l.length
 | [],d=>zzi _
 | r::L,d=>yyy (Eu L (d.del r.id)) (aWg d r.id)
def Hd:∀(L:List Rq) (d:dA),(L.foldl (λd r=>d.add r.id r.weight) d).l.length<=d.l.length+L.length
 | [],d=>zzi _
 | r::L,d=>by
  have h1:=Hd L (d.add r.id r.weight);have h2:=aWe d r.id r.weight;rw[xx4,zzh];omega
def aW6{L:List Rq}{i:Nat}(h:i<L.length):(L.take (i+1)).filter (·.done)=(L.take i).filter (·.done)++(if L[i].done=true then [L[i]] else []):=by
 rw[zze h,yy0,vv0];cases L[i].done<;>simp
def Q1(sp mp wp pp gp:Nat)(n:Int)(H:bw)(m:dC)(d:dA)(hn:m.reqs.length<=64)(hd:d.l.length<=500):SP 229 [cF pp] [.pt pp (ji sp mp wp gp n) 208,.ob (fq gp d),.ob (cW mp wp H m),.mem H] (λv post=>post=[.pt pp (ji sp mp wp gp n) 208,.ob (fq gp (mf d m.reqs)),.ob (cW mp wp H m),.mem H]):=by
 refine Enzz λW F w hS=>?_;apply cGb;delta Nb aI bU a_ ai;refine Gp ?_;refine Cc (yx mp wp H m (by omega)) ?_;clear hS;rintro u post rfl w hS;try simp only[app]at hS
 refine zt hS (v:=u) (t:=98) (sz:=7) (n:=m.reqs.length) (cells:=(m.reqs.map iD).flatten) Xh ?_;refine⟨λus w=>∃i:Nat,us=[Γ i]/\i<=m.reqs.length/\SL W (.ob (fq gp (((m.reqs.take i).filter (·.done)).foldl (λd r=>d.del r.id) d))::oF u m.reqs::.ob (cW mp wp H m)::.mem H::.pt pp (ji sp mp wp gp n) 208::F) w,λus _=>match us with|[.int _ i]=>(m.reqs.length-i).toNat|_=>0,⟨0,rfl,by omega,SL.bZ hS (t:=.ob (fq gp d)::oF u m.reqs::.ob (cW mp wp H m)::.mem H::.pt pp (ji sp mp wp gp n) 208::F) Xi⟩,?_⟩;clear hS;rintro v12 w ⟨i,cO,hi,hS⟩;cases cO;refine bY (λh=>?_) (λh=>?_)
 ·have cx:i<m.reqs.length:=by omega
  have hx:m.reqs[i]?=some m.reqs[i]:=zzd cx;have eY:=aW6 cx;have hle:=Eu ((m.reqs.take i).filter (·.done)) d;refine zT hS (v:=u) (t:=98) Xh nC hx cx ?_;generalize m.reqs[i]=r at *
  refine Gb λxb w hS=>?_;refine yU (λhq=>?_) (λhq=>?_)
  ·rw[zzc hq]at eY
   refine Gn λw hS=>?_;refine Cc (aWh gp (((m.reqs.take i).filter (·.done)).foldl (λd r=>d.del r.id) d) r.id (by omega)) ?_;clear hS;rintro _ post ⟨⟨e,rfl⟩,rfl⟩ w hS;(try simp only[app]at hS);refine Gp ?_
   refine⟨⟨i+1,rfl,by omega,?_⟩,by dsimp only;omega⟩;rw[eY,wws];exact SL.bZ hS (t:=.ob (fq gp ((((m.reqs.take i).filter (·.done)).foldl (λd r=>d.del r.id) d).del r.id))::oF u m.reqs::.ob (cW mp wp H m)::.mem H::.pt pp (ji sp mp wp gp n) 208::F) Xi
  rw[zzb (by simp[hq]),zzx]at eY
  rw[<- eY]at hS
  refine Gp ?_;exact⟨⟨i+1,rfl,by omega,aW hS⟩,by dsimp only;omega⟩
 rw[zz2 (by omega)]at hS
 have rl:mf d m.reqs=(iS m.reqs).foldl (λd r=>d.add r.id r.weight) ((m.reqs.filter (·.done)).foldl (λd r=>d.del r.id) d):=rfl;have oY:=Eu (m.reqs.filter (·.done)) d;rw[rl];generalize (m.reqs.filter (·.done)).foldl (λd r=>d.del r.id) d=d1 at *
 refine Gp ?_;refine Cc (yx mp wp H m (by omega)) ?_;clear hS;rintro u1 post rfl w hS;try simp only[app]at hS
 refine Cc (yW u1 m.reqs (by omega)) ?_;clear hS;rintro u2 post rfl w hS;try simp only[app]at hS
 have xt:(iS m.reqs).length<=64:=by
  have:=JW m.reqs m.reqs.length;rw[zz0]at this;omega
 generalize iS m.reqs=L at *
 refine zt hS (v:=u2) (t:=98) (sz:=7) (n:=L.length) (cells:=(L.map iD).flatten) Xh ?_;refine⟨λus w=>∃i:Nat,us=[Γ i]/\i<=L.length/\SL W (.ob (fq gp ((L.take i).foldl (λd r=>d.add r.id r.weight) d1))::oF u2 L::.ob (cW mp wp H m)::.mem H::.pt pp (ji sp mp wp gp n) 208::F) w,λus _=>match us with|[.int _ i]=>(L.length-i).toNat|_=>0,⟨0,rfl,by omega,SL.bZ hS (t:=.ob (fq gp d1)::oF u2 L::.ob (cW mp wp H m)::.mem H::.pt pp (ji sp mp wp gp n) 208::F) Xi⟩,?_⟩;clear hS;rintro v33 w ⟨i,cO,hi,hS⟩;cases cO;refine bY (λh=>?_) (λh=>?_)
 ·have cx:i<L.length:=by omega
  have hx:L[i]?=some L[i]:=zzd cx;have fX:L.take (i+1)=L.take i++[L[i]]:=zze cx;have hle:=Hd (L.take i) d1;rw[zzf]at hle
  refine zT hS (v:=u2) (t:=98) Xh nC hx cx ?_;generalize L[i]=r at *
  refine Gb λxb w hS=>?_;refine Cc (aWf gp ((L.take i).foldl (λd r=>d.add r.id r.weight) d1) r.id r.weight (by omega)) ?_;clear hS;rintro _ post ⟨⟨e,rfl⟩,rfl⟩ w hS;(try simp only[app]at hS);refine Gp ?_
  refine⟨⟨i+1,rfl,by omega,?_⟩,by dsimp only;omega⟩;rw[fX,wws];exact SL.bZ hS (t:=.ob (fq gp (((L.take i).foldl (λd r=>d.add r.id r.weight) d1).add r.id r.weight))::oF u2 L::.ob (cW mp wp H m)::.mem H::.pt pp (ji sp mp wp gp n) 208::F) Xi
 rw[zz2 (by omega)]at hS
 exact⟨_,rfl,aW hS⟩
structure fz.Ok(p:fz):Prop where
 m:p.m.Ok
 d:p.d.Ok
 dl:p.d.l.length<=64
 src:∃N,ju p.k N/\N<=900000000
 n:1<=p.n/\p.n<=64
 row:(mf p.d p.m.reqs).Ok
 id : -9223372036854775808<=p.m.cB.id/\p.m.cB.id<=9223372036854775807
abbrev D4(sp tp dp lp mp wp pp gp:Nat)(H:bw)(p:fz):Β:=[.pt pp (ji sp mp wp gp p.n) 208,.ob (fq gp p.d),.ob (cW mp wp H p.m),.ob (df sp tp dp lp p.k),.ob (bX dp p.k.d),.mem H]
def D5(sp tp dp lp mp wp pp gp:Nat)(H:bw)(y:fz × (Int × Int))(v:Ε)(post:Β):Prop:=∃H',H.le H'/\v= .tuple #[Γ y.2.1,Γ y.2.2]/\post=D4 sp tp dp lp mp wp pp gp H' y.1
def QY(sp tp dp lp mp wp pp gp:Nat)(H:bw)(p:fz)(hp:p.Ok)(dS:p.k.d.ops<=90000):SP 170 [cF pp] (D4 sp tp dp lp mp wp pp gp H p) (D5 sp tp dp lp mp wp pp gp H p.Di):=by
 refine Enzz λW F w hS=>?_;apply cEr;delta Mg aI bU a_ cL ai;obtain⟨N,hk,hN⟩:=hp.src;have C3:=hp.m.reqs.1;have oY:=hp.dl;have rl:=hp.row;have hd0:=th hk.g.ok.bF;have Ff:=hk.g.hd;refine Cc (Q1 sp mp wp pp gp p.n H p.m p.d C3 (by omega)) ?_;clear hS;rintro _ post rfl w hS;(try simp only[app]at hS);refine Gp ?_
 have vB:(mf p.d p.m.reqs).l.length<=1000:=by
  have h1:=Hd (iS p.m.reqs) ((p.m.reqs.filter (·.done)).foldl (λd r=>d.del r.id) p.d);have h2:=Eu (p.m.reqs.filter (·.done)) p.d;have h3:=JW p.m.reqs p.m.reqs.length;rw[zz0]at h3
  unfold mf;omega
 unfold fz.Di;generalize hx:mf p.d p.m.reqs=d1 at *
 refine Cg (Qq gp d1 rl vB) λw hS=>?_;refine Cc (yx mp wp H p.m (by omega)) ?_;clear hS;rintro u post rfl w hS;try simp only[app]at hS
 have fp:∀{w:Ζ},uM p.m.reqs d1.next.2=none->SL W (.pt pp (ji sp mp wp gp p.n) 208::.ob (fq gp d1.next.1)::.ob (cW mp wp H p.m)::.ob (df sp tp dp lp p.k)::.ob (bX dp p.k.d)::.mem H::F) w->∃post,D5 sp tp dp lp mp wp pp gp H (p.vH d1.next) (.tuple #[Γ 0,Γ 0]) post/\SL W (app post F) w:=λe hS=>by
  rw[show p.vH d1.next=({p with d:=d1.next.1},(0,0)) by unfold fz.vH;rw[e]];exact⟨_,⟨H,bw.le_refl H,rfl,rfl⟩,hS⟩
 refine Gp ?_;refine zu (λhq=>?_) (λhq=>?_)
 ·refine fp ?_ (aW hS);have he:d1.l=[]:=Decidable.of_not_not (yyw hq);unfold dA.next uM;rw[zzc he];rfl
 have dO:d1.l≠[]:=zzm hq;refine zt hS (v:=u) (t:=98) (sz:=7) (n:=p.m.reqs.length) (cells:=(p.m.reqs.map iD).flatten) Xh ?_;refine Gp ?_;have hid:1<=d1.next.2:=by
  unfold dA.next;rw[zzb dO];have dZ:0<=d1.place/\d1.place<d1.l.length:=by
   have:=rl.neg;have:=rl.lV;have:=rl.oI;have:0<d1.l.length:=xx2.2 dO;unfold dA.place;split
   ·split<;>omega
   omega
  have hm:d1.ma∈d1.l:=by
   unfold dA.ma;rw[zzd (show d1.place.toNat<d1.l.length by omega)];exact zzg _
  exact (rl.w _ hm).1
 refine za (λh=>fp (by unfold uM;rw[zzb (by omega),yyr (by omega)]) (aW hS)) (λh=>?_);clear fp;obtain⟨j,hj⟩:∃j:Nat,d1.next.2=(j:Int)+1:=⟨(d1.next.2-1).toNat,by omega⟩;have gM:j<p.m.reqs.length:=by omega
 have lD:uM p.m.reqs d1.next.2=some p.m.reqs[j]:=by
  unfold uM;rw[zzb (by omega),hj,show ((j:Int)+1-1).toNat=j by omega,zzd gM]
 rw[show p.vH d1.next=({p with d:=d1.next.1}:fz).Dj p.m.reqs[j] by unfold fz.vH;rw[lD]];unfold fz.Dj;clear lD;rw[hj];generalize d1.next.1=d2 at hS ⊢;refine Gp ?_;refine Cg (zF sp tp dp lp p.k hk.g (by omega)) λw hS=>?_;refine Cg (Yh sp tp dp lp p.k H 2 (cI p.k.g.bF+1) hk (by omega) dS) λw hS=>?_;generalize p.k.mX 2 (cI p.k.g.bF+1)=y at hS ⊢;obtain⟨k',a,e⟩:=y;simp only at hS ⊢;refine za (λhe=>?_) (λhe=>?_)
 ·rw[zzc he];exact⟨_,⟨H,bw.le_refl H,rfl,rfl⟩,aW hS⟩
 rw[zzb he];refine Gp ?_;rw[show ((j:Int)+1-1)=(j:Int) by omega];refine zT hS (v:=u) (t:=98) Xh nC (zzd gM) gM ?_;generalize p.m.reqs[j]=r;refine Gb λxb w hS=>?_;obtain⟨rv,hr,hS⟩:=cW.iff.1 (SL.bZ hS (t:=.ob (cW mp wp H p.m)::.pt pp (ji sp mp wp gp p.n) 208::.ob (fq gp d2)::.ob (df sp tp dp lp k')::.ob (bX dp k'.d)::.mem H::F) Xi);refine Cc (cLc wp p.m.cB (cI p.k.g.bF+1) r.id r.table r.dz) ?_;clear hS;rintro _ post ⟨⟨q,rfl⟩,rfl⟩ w hS;try simp only[app]at hS
 have hS:=cW.put (mp:=mp) {p.m with cB:=p.m.cB.tJ (cI p.k.g.bF+1) r.id r.table r.dz} rv hr hS Xp;exact⟨_,⟨H,bw.le_refl H,rfl,rfl⟩,aW hS⟩
def qR(sp tp dp lp mp wp pp gp:Nat)(H:bw)(p:fz)(hp:p.Ok)(dS:p.k.d.ops<=90000):SP 175 [cF pp] (D4 sp tp dp lp mp wp pp gp H p) (D5 sp tp dp lp mp wp pp gp H p.CM):=by
 refine Enzz λW F w hS=>?_;apply cEw;delta Ml aI bU aR bV ai;obtain⟨N,hk,hN⟩:=hp.src;refine Gn λw hS=>?_;obtain⟨rv,hr,hS⟩:=cW.iff.1 (SL.bZ hS (t:=.ob (cW mp wp H p.m)::.pt pp (ji sp mp wp gp p.n) 208::.ob (fq gp p.d)::.ob (df sp tp dp lp p.k)::.ob (bX dp p.k.d)::.mem H::F) Xi);refine Cg (cK9 wp p.m.cB) λw hS=>?_;unfold fz.CM;refine Cg (Yh sp tp dp lp p.k H 3 p.m.cB.mark hk (by omega) dS) λw hS=>?_;generalize p.k.mX 3 p.m.cB.mark=y at hS ⊢;obtain⟨k',a,e⟩:=y;simp only at hS ⊢;refine za (λhe=>?_) (λhe=>?_)
 ·rw[zzc he];have hS:=cW.put (mp:=mp) p.m rv hr hS Xp;exact⟨_,⟨H,bw.le_refl H,rfl,rfl⟩,aW hS⟩
 rw[zzb he];refine Gp ?_;refine Cc (cLg wp p.m.cB) ?_;clear hS;rintro _ post ⟨⟨q,rfl⟩,rfl⟩ w hS;try simp only[app]at hS
 have hS:=cW.put (mp:=mp) {p.m with cB:=p.m.cB.shut} rv hr hS Xp;exact⟨_,⟨H,bw.le_refl H,rfl,rfl⟩,aW hS⟩
def qS(sp tp dp lp mp wp pp gp:Nat)(H:bw)(p:fz)(hp:p.Ok)(dS:p.k.d.ops<=90000):SP 114 [cF pp] (D4 sp tp dp lp mp wp pp gp H p) (D5 sp tp dp lp mp wp pp gp H p.step):=by
 refine Enzz λW F w hS=>?_;apply cDe;delta Ln aI bU aR bV cL ai;obtain⟨N,hk,hN⟩:=hp.src;have C3:=hp.m.reqs.1;have cNb:=hp.n;unfold fz.step;refine Cg (Zo sp mp wp pp gp p.n H p.m (by omega)) λw hS=>?_;refine zu (λhq=>?_) (λhq=>?_)
 ·rw[zzc hq];exact⟨_,⟨H,bw.le_refl H,rfl,rfl⟩,aW hS⟩
 rw[zzb (by simp[hq])];obtain⟨rv,hr,hS⟩:=cW.iff.1 (SL.bZ hS (t:=.ob (cW mp wp H p.m)::.pt pp (ji sp mp wp gp p.n) 208::.ob (fq gp p.d)::.ob (df sp tp dp lp p.k)::.ob (bX dp p.k.d)::.mem H::F) Xi);refine Gp ?_;refine Cg (yZ wp p.m.cB) λw hS=>?_;refine za (λh0=>?_) (λh0=>?_)
 ·rw[zzc h0];have hS:=cW.put (mp:=mp) p.m rv hr hS Xp;refine Cc (QY sp tp dp lp mp wp pp gp H p hp dS) ?_;clear hS;rintro _ post ⟨H1,dj,rfl,rfl⟩ w hS;(try simp only[app]at hS);refine Gp ?_
  exact⟨_,⟨H1,dj,rfl,rfl⟩,aW hS⟩
 rw[zzb h0];refine bY (λh1=>?_) (λh1=>?_)
 ·rw[zzc h1];refine Gn λw hS=>?_;refine Cg (qY wp p.m.cB) λw hS=>?_;refine Cg (qW wp p.m.cB) λw hS=>?_;refine Cc (qQ sp tp dp lp p.k p.m.cB.table p.m.cB.after p.n (λC hC=>by have:=hk.len C hC;omega) (λC hC=>(hk.rows C hC).sorted) (by omega) (by omega)) ?_;clear hS;rintro u post rfl w hS;try simp only[app]at hS
  obtain⟨H1,dj,hR,hS⟩:=zz (H:=H) (v:=u) hS Xp;have oV:(p.k.wA p.m.cB.table p.m.cB.after p.n).length<=64:=by
   unfold cQ.wA nU;rw[zzf];omega
  generalize p.k.wA p.m.cB.table p.m.cB.after p.n=C at hR oV ⊢;refine Gp ?_;refine Cc (cK5 wp p.m.cB H1 u C hR (by omega)) ?_;clear hS;rintro _ post ⟨⟨q,rfl⟩,rfl⟩ w hS;try simp only[app]at hS
  have hS:=cW.put (mp:=mp) {p.m with cB:=p.m.cB.fill C} rv (hr.mono dj) hS Xp;exact⟨_,⟨H1,dj,rfl,rfl⟩,aW hS⟩
 rw[zzb h1];have hS:=cW.put (mp:=mp) p.m rv hr hS Xp;refine Cc (qR sp tp dp lp mp wp pp gp H p hp dS) ?_;clear hS;rintro _ post ⟨H1,dj,rfl,rfl⟩ w hS;(try simp only[app]at hS);refine Gp ?_
 exact⟨_,⟨H1,dj,rfl,rfl⟩,aW hS⟩
def X3(dp:Nat)(d:DS)(H:bw)(n:Nat)(f:Int)(r:Ε)(post:Β):Prop:=∃H',H.le H'/\post=[.ob (bX dp d),.mem H']/\match iG d.R n f with
 | none=>∃a b,r= .tuple #[a,b,.bool false]
 | some y=>∃v,uU H' v y.2/\r= .tuple #[Γ y.1,v,.bool true]
def bF1(dp:Nat)(d:DS)(H:bw)(n:Nat)(f:Int){N:Nat}(cG:d.Ok N)(hN:N<=140737488355328):
  SP 198 [cF dp,Γ f,Γ (n:Nat)] [.ob (bX dp d),.mem H] (X3 dp d H n f):=by
 refine Enzz λW F w hS=>?_;apply cFg;delta MF aI cL ai bR;refine Cc (Ya dp d N cG hN f) ?_;clear hS;rintro r post hq w hS;unfold BT at hq;cases hg:dJ PF.id d.R f with
 | none=>
  rw[hg]at hq
  obtain⟨rfl,rfl⟩:=hq;have hi:iG d.R n f=none:=by unfold iG;rw[hg]
  (try simp only[app]at hS);refine Gp ?_
  refine zq ?_;refine⟨[.ob (bX dp d),.mem H],⟨H,bw.le_refl H,rfl,?_⟩,aW hS⟩;rw[hi];exact⟨_,_,rfl⟩
 | some x=>
  rw[hg]at hq
  obtain⟨u,rfl,rfl⟩:=hq;have jY:=cG.len x (uh hg).1;(try simp only[app]at hS);refine Gp ?_
  refine zp ?_;refine Cc (qD (.ob (bI u 5 1 x.b.length (x.b.map cX))) H u x.b dP.own (by omega)) ?_;clear hS;rintro r post hq w hS;unfold BG at hq;cases hd:kq x.b with
  | none=>
   rw[hd]at hq
   obtain⟨rfl,H',hh,rfl⟩:=hq;have hi:iG d.R n f=none:=by unfold iG;rw[hg];simp only;rw[hd]
   (try simp only[app]at hS);refine Gp ?_
   refine za (λh=>absurd h (by decide)) (λ_=>?_);refine⟨[.ob (bX dp d),.mem H'],⟨H',hh,rfl,?_⟩,aW hS⟩;rw[hi];exact⟨_,_,rfl⟩
  | some y=>
   rw[hd]at hq
   obtain⟨v,H',hh,hT,rfl,rfl⟩:=hq;have hi:iG d.R n f=if y.2.length=n then some y else none:=by unfold iG;rw[hg];simp only;rw[hd]
   (try simp only[app]at hS);refine Gp ?_
   refine za (λ_=>?_) (λh=>absurd rfl h);refine yR hT ?_;refine Gp ?_;refine⟨[.ob (bX dp d),.mem H'],⟨H',hh,rfl,?_⟩,aW hS⟩;rw[hi];by_cases hl:y.2.length=n
   ·rw[zzc hl,zzl (by omega)];exact⟨v,hT,rfl⟩
   rw[zzb hl,zzz (by omega)];exact⟨_,_,rfl⟩
def loadAt(R:List PF)(n:Nat)(x:rN):Nat->rN
 | 0=>x
 | 1=>gq R n 0 x
 | _=>gq R n 1 (gq R n 0 x)
def FD{R:List PF}{n:Nat}{f:Int}{y:Int × iI}(h:iG R n f=some y):i_ y.1 y.2=true/\y.2.length=n:=by
 unfold iG at h;split at h
 ·cases h
 split at h
 ·cases h
 rename_i hd;split at h
 ·rename_i hl;cases h;exact⟨aWo hd,hl⟩
 cases h
def czx{α:Type}{l m:List α}{i:Nat}(hi:i<l.length)(h:m.length=l.length):(l.take i++m.drop i).set i l[i]=l.take (i+1)++m.drop (i+1):=by
 rw[vvr _ _ (by rw[zzf];omega),zzf,show i-min i l.length=0 by omega,yyq (by omega:i<m.length),List.set_cons_zero,zze hi,zzk];rfl
def bXo{R:List PF}{n:Nat}{x:rN}{j:Nat}(h:j<=1):loadAt R n x (j+1)=gq R n j (loadAt R n x j):=by
 match j,h with
 | 0,_=>rfl
 | 1,_=>rfl
def U8{R:List PF}{n:Nat}{f:Int}{x:rN}(h:x.2.2.length=n):(gq R n f x).2.2.length=n:=by
 unfold gq;cases hi:iG R n f with
 | none=>exact h
 | some y=>
  simp only;split
  ·exact h
  exact (FD hi).2
def bXn{R:List PF}{n:Nat}{f:Int}{x:rN}(h:0<=x.2.1/\x.2.1<=1099511627776):0<=(gq R n f x).2.1/\(gq R n f x).2.1<=1099511627776:=by
 unfold gq;cases hi:iG R n f with
 | none=>exact h
 | some y=>
  simp only;split
  ·exact h
  have:=(sD.1 (FD hi).1).1;exact⟨this.1,this.2.1⟩
def bXv(sp tp dp lp:Nat)(d:DS)(H:bw)(x0:rN)(n:Nat)(Uo:x0.2.2.length=n)(h8:n<=8){N:Nat}(cG:d.Ok N)(hN:N<=140737488355328):
  SP 139 [cF sp] [.pt sp (mh tp dp lp x0.1 x0.2.1) 156,.ob (dL tp x0.2.2),.ob (bX dp d),.mem H] (λ_ post=>∃H',H.le H'/\post=[.pt sp (mh tp dp lp (gq d.R n 1 (gq d.R n 0 x0)).1 (gq d.R n 1 (gq d.R n 0 x0)).2.1) 156,.ob (dL tp (gq d.R n 1 (gq d.R n 0 x0)).2.2),.ob (bX dp d),.mem H']):=by
 refine Enzz λW F w hS=>?_;apply cDu;delta LD aI bU cV aR bV cL ai;refine⟨λus w=>∃(j:Nat) (H':bw),us=[Γ j]/\j<=2/\H.le H'/\(loadAt d.R n x0 j).2.2.length=n/\SL W (.pt sp (mh tp dp lp (loadAt d.R n x0 j).1 (loadAt d.R n x0 j).2.1) 156::.ob (dL tp (loadAt d.R n x0 j).2.2)::.ob (bX dp d)::.mem H'::F) w,
  λus _=>match us with|[.int _ i]=>(2-i).toNat|_=>0,⟨0,H,rfl,by omega,bw.le_refl H,Uo,hS⟩,?_⟩
 clear hS;rintro v2 w ⟨j,H',cO,hj,hh,jY,hS⟩;cases cO;refine bY (λh=>?_) (λh=>?_)
 ·have CO:j<=1:=by omega
  have kZ:=bXo (R:=d.R) (n:=n) (x:=x0) CO;have gC:∀{w:Ζ} {H2:bw} (y:rN),gq d.R n j (loadAt d.R n x0 j)=y->H.le H2->SL W (.pt sp (mh tp dp lp y.1 y.2.1) 156::.ob (dL tp y.2.2)::.ob (bX dp d)::.mem H2::F) w ->
    ∃(j':Nat) (H':bw),[Γ ((j+1:Nat):Int)]=[Γ j']/\j'<=2/\H.le H'/\(loadAt d.R n x0 j').2.2.length=n/\SL W (.pt sp (mh tp dp lp (loadAt d.R n x0 j').1 (loadAt d.R n x0 j').2.1) 156::.ob (dL tp (loadAt d.R n x0 j').2.2)::.ob (bX dp d)::.mem H'::F) w:=λy hy fA hS=>by
   refine⟨j+1,_,rfl,by omega,fA,?_,?_⟩
   ·rw[kZ];exact U8 jY
   rw[kZ,hy];exact hS
  generalize hx:loadAt d.R n x0 j=x at *
  refine Gn λw hS=>?_;refine Cg (yr tp x.2.2) λw hS=>?_;refine Cc (bF1 dp d H' x.2.2.length j cG hN) ?_;clear hS;rintro r post ⟨H2,dQ,rfl,hq⟩ w hS;try simp only[app]at hS
  rw[jY]at hq
  have fA:=bw.le_trans hh dQ;cases hi:iG d.R n j with
  | none=>
   rw[hi]at hq
   obtain⟨a,b,rfl⟩:=hq;refine Gp ?_;refine⟨λus w=>False,?_,λw h=>h.elim⟩;refine z7 (zq ?_);refine Gp ?_;exact⟨gC x (by unfold gq;rw[hi]) fA (aW hS),by dsimp only;omega⟩
  | some y=>
   rw[hi]at hq
   obtain⟨v,hT,rfl⟩:=hq;obtain⟨jX,FA⟩:=FD hi;have s_:=(sD.1 jX).2;refine Gp ?_;refine⟨λus w=>us=[]/\¬(0<=x.1/\y.1<=x.2.1)/\SL W (.pt sp (mh tp dp lp x.1 x.2.1) 156::.ob (dL tp x.2.2)::.ob (bX dp d)::.mem H2::F) w,?_,?_⟩
   ·refine z7 (zp ?_);refine bY (λh0=>?_) (λh0=>?_)
    ·refine bY (λh1=>?_) (λh1=>?_)
     ·refine Gp ?_;exact⟨gC x (by unfold gq;rw[hi];simp only;rw[zzc ⟨h0,h1⟩]) fA (aW hS),by dsimp only;omega⟩
     exact⟨rfl,λh=>h1 h.2,aW hS⟩
    exact⟨rfl,λh=>h0 h.1,aW hS⟩
   clear hS;rintro w ⟨-,hc,hS⟩;refine Gn λw hS=>?_;refine yR hT ?_;have hS:SL W (_::.ob (dL tp (y.2.take 0++x.2.2.drop 0))::_) _:=hS;refine⟨λus w=>∃i:Nat,us=[Γ i]/\i<=y.2.length/\SL W (.ob (dL tp (y.2.take i++x.2.2.drop i))::.pt sp (mh tp dp lp j y.1) 156::.ob (bX dp d)::.mem H2::F) w,
    λus _=>match us with|[.int _ i]=>(y.2.length-i).toNat|_=>0,⟨0,rfl,by omega,aW hS⟩,?_⟩
   clear hS;rintro v54 w ⟨i,cO,cx,hS⟩;cases cO;refine bY (λh=>?_) (λh=>?_)
   ·have cx:i<y.2.length:=by omega
    have o8:=czx (m:=x.2.2) cx (by omega);have k9:i<(y.2.take i++x.2.2.drop i).length:=by rw[zza,zzf,zzr];omega
    have S3:=s_ _ (zzg cx);refine Y0 hS Xh hT cx λu hu=>?_;generalize y.2[i]=C at *
    generalize y.2.take i++x.2.2.drop i=T at *
    refine Gp ?_;refine Cg (Q8 tp T H2 u i C k9 hu S3.sorted (by have:=S3.len;omega)) λw hS=>?_;refine⟨⟨i+1,rfl,by omega,?_⟩,by dsimp only;omega⟩;rw[<- o8];exact aW hS
   obtain rfl:i=y.2.length:=by omega
   rw[zz0,yy3 (by omega),zzx]at hS
   refine Gp ?_;exact⟨gC (j,y.1,y.2) (by unfold gq;rw[hi];simp only;rw[zzb hc]) fA (aW hS),by dsimp only;omega⟩
 obtain rfl:j=2:=by omega
 exact⟨_,⟨H',hh,rfl⟩,hS⟩
def cQ.lM(k:cQ):Option iI:=match oB k.ts.length k.image (cR k.g.bF) (eZ k.g.bF) k.ts with
 | none=>none
 | some ts=>if k.image<=cI k.g.bF/\eZ k.g.bF<=k.image+1 then some ts else none
def a_9{L:List da}(h:iP L):cI L-eZ L+1=((cR L).length:Int):=by
 by_cases hL:L=[]
 ·subst hL;rfl
 rw[h.head hL];omega
def bXx{L:List da}{N:Nat}(h:∀s∈L,kR s N):1<=eZ L/\eZ L<=1099511627776:=by
 cases L with
 | nil=>exact⟨yyd _,by show (1:Int)<=_;decide⟩
 | cons s r=>exact⟨(h s (.head _)).n0,(h s (.head _)).n1⟩
def cw0{n:Nat}{image:Int}{b:Φ}{r:List (Φ)}{aw:Int}{ts:iI}:oB n image (b::r) aw ts=match lA b with
  | .error _=>none
  | .ok t=>if t.aw=aw/\(∀c∈t.changes,c.table<(n:Int)) then oB n image r (aw+1) (if image<aw then fV ts t.changes else ts) else none:=rfl
def cw2(sp tp dp lp:Nat)(H:bw)(k:cQ){N:Nat}(hg:ij k.g N)(hN:N<=1000000000)(hs:∀C∈k.ts,f_ C){L0:Nat}(hn:∀C∈k.ts,C.length<=L0)(hL:L0+16*(cR k.g.bF).length<=900000)(lC:0<=k.image/\k.image<=1099511627776):
  SP 140 [cF sp] [.ob (df sp tp dp lp k),.mem H] (λv post=>∃H',H.le H'/\match k.lM with
   | none=>v= .bool false/\post=[.mem H']
   | some ts=>v= .bool true/\post=[.ob (df sp tp dp lp {k with ts:=ts}),.mem H']):=by
 refine Enzz λW F w hS=>?_;apply cDw;delta LG aI bU a_ aR bV cL cw ai bR;have hF:∀{w:Ζ} {H':bw},k.lM=none->H.le H'->SL W (.mem H'::F) w->∃post,(∃H',H.le H'/\match k.lM with
   | none=>(.bool false:Ε)= .bool false/\post=[.mem H']
   | some ts=>(.bool false:Ε)= .bool true/\post=[.ob (df sp tp dp lp {k with ts:=ts}),.mem H'])/\SL W (app post F) w:=λhr hh hS=>by
  rw[hr];exact⟨[.mem _],⟨_,hh,rfl,rfl⟩,hS⟩
 have sj:=a_9 hg.seq;have ri:=bXx hg.ok.bF;have tm:=hg.hd;refine Cg (ZB sp tp dp lp k hg hN) λw hS=>?_;refine⟨λus w=>∃(i:Nat) (T:iI) (H2:bw),us=[Γ (eZ k.g.bF+i)]/\i<=(cR k.g.bF).length/\oB k.ts.length k.image (cR k.g.bF) (eZ k.g.bF) k.ts=oB k.ts.length k.image ((cR k.g.bF).drop i) (eZ k.g.bF+i) T/\T.length=k.ts.length/\(∀C∈T,f_ C)/\(∀C∈T,C.length<=L0+16*i)/\H.le H2/\SL W (.ob (df sp tp dp lp {k with ts:=T})::.mem H2::F) w,
  λus _=>match us with|[.int _ i]=>(cI k.g.bF+1-i).toNat|_=>0,⟨0,k.ts,H,by simp,by omega,by simp,rfl,hs,by simpa using hn,bw.le_refl H,aW hS⟩,?_⟩
 clear hS;rintro v3 w ⟨i,T,H2,cO,hi,dH,vn,s_,wW,hh,hS⟩;cases cO;refine Cg (zF sp tp dp lp {k with ts:=T} hg hN) λw hS=>?_;refine za (λh=>?_) (λh=>?_)
 ·have h:eZ k.g.bF+i<=cI k.g.bF:=h;have cx:i<(cR k.g.bF).length:=by omega
  have C4:=hg.seq.read i;rw[zzd cx]at C4
  rw[yyq cx,cw0]at dH
  generalize (cR k.g.bF)[i]=bs at *
  have kx:1<=eZ k.g.bF+i/\eZ k.g.bF+i<=1099511627776:=by omega
  generalize hlq:eZ k.g.bF+i=aw at *
  have uC:(match lA bs with
   | .error _=>none
   | .ok t=>if t.aw=aw/\(∀c∈t.changes,c.table<(k.ts.length:Int)) then oB k.ts.length k.image ((cR k.g.bF).drop (i+1)) (aw+1) (if k.image<aw then fV T t.changes else T) else none)=none->k.lM=none:=λh=>by unfold cQ.lM;rw[dH,h]
  refine Cc (yS sp tp dp lp {k with ts:=T} hg hN H2 aw (by omega)) ?_;clear hS;rintro r post hq w hS;unfold uV cQ.gP at hq;simp only at hq;rw[C4]at hq
  simp only at hq;cases hd:lA bs with
  | error e=>
   rw[hd]at hq uC
   obtain⟨dO,H3,gb,rfl,rfl⟩:=hq;refine Gm λb w hS=>?_;refine za (λ_=>?_) (λh=>absurd dO h);exact hF (uC rfl) (bw.le_trans hh gb) (aW hS)
  | ok t=>
   rw[hd]at hq uC dH
   obtain⟨x,H3,gb,rfl,hx,rfl⟩:=hq;have nD:=bw.le_trans hh gb;obtain⟨ht1,Fx,ht3,ht4,ht5,Uh,ht7⟩:=l_ (HB hd);try simp only[app]at hS
   refine Gp ?_;refine zE hS λxb w hS=>?_;refine zr (vs:=fm x) hS Xu rfl rfl (As (aw:=x.aw) (kind:=x.kind) (mark:=x.mark) hx.cv.one hx.sv.one) λw hS=>?_;unfold fm at hS;rw[hx.aw,hx.kind,hx.mark]at hS
   refine Gn λw hS=>?_;refine za (λh=>absurd rfl h) (λ_=>?_);refine bY (λhl=>?_) (λhl=>?_)
   ·exact hF (uC (by simp only;rw[zzb λh=>hl h.1])) nD (aW hS)
   have hS:=df.iff.1 (SL.bZ hS (t:=.ob (df sp tp dp lp {k with ts:=T})::.pt xb [Γ t.aw,Γ t.kind,x.cv,x.sv,Γ t.mark] 101::.mem H3::F) Xi);refine Gp ?_;refine Cg (yr tp T) λw hS=>?_;refine Cg (ZU H3 x.cv t.changes T.length hx.cv (by omega)) λw hS=>?_;rw[vn];refine zu (λhb=>?_) (λhb=>?_)
   ·have hb:=yyw hb;exact hF (uC (by simp only;rw[zzb λh=>hb h.2])) nD (aW hS)
   have hb:=zzm hb;have eE:t.changes.all (hY T.length)=true:=zz6.2 λc hc=>zzl ⟨(xM.1 (Uh c hc)).1,by rw[vn];exact hb c hc⟩;simp only at dH;rw[zzc (show t.aw=aw/\∀c∈t.changes,c.table<(k.ts.length:Int) from ⟨by omega,hb⟩)]at dH
   have IK:aw+1=eZ k.g.bF+((i+1:Nat):Int):=by omega
   rw[IK]at dH
   refine bY (λl8=>?_) (λl8=>?_)
   ·rw[zzc (show k.image<aw by omega)]at dH
    refine Gn λw hS=>?_;refine Cg (ZM tp T H3 x.cv t.changes hx.cv (by omega) s_ (L0+16*i) wW (by omega)) λw hS=>?_;rw[zzc eE]at hS
    rw[IK];refine⟨⟨i+1,fV T t.changes,H3,rfl,by omega,dH,by rw[tV];exact vn,Ee s_ λc hc=>zz6.1 eE c hc,λC hC=>?_,nD,SL.bZ (df.put {k with ts:=fV T t.changes} hS Xp) Xi⟩,by dsimp only;omega⟩;have:=Ed (L0+16*i) (l:=t.changes) wW (λc hc=>zz6.1 eE c hc) C hC;omega
   rw[zzb (show ¬k.image<aw by omega)]at dH
   refine Gp ?_;rw[IK];exact⟨⟨i+1,T,H3,rfl,by omega,dH,vn,s_,λC hC=>by have:=wW C hC;omega,nD,SL.bZ (df.put {k with ts:=T} hS Xp) Xi⟩,by dsimp only;omega⟩
 have h:¬eZ k.g.bF+i<=cI k.g.bF:=h;obtain rfl:i=(cR k.g.bF).length:=by omega
 rw[vv1]at dH
 have dH:oB k.ts.length k.image (cR k.g.bF) (eZ k.g.bF) k.ts=some T:=dH;have hR:k.lM=if k.image<=cI k.g.bF/\eZ k.g.bF<=k.image+1 then some T else none:=by unfold cQ.lM;rw[dH]
 have hS:SL W (.pt sp (mh tp dp lp k.dV k.image) 156::.ob (dL tp T)::.ob (dc lp dp k.g)::_) _:=df.iff.1 hS;refine Gn λw hS=>?_;have hS:=df.put {k with ts:=T} hS Xp;refine Cg (zF sp tp dp lp {k with ts:=T} hg hN) λw hS=>?_;have hS:SL W (.pt sp (mh tp dp lp k.dV k.image) 156::.ob (dL tp T)::.ob (dc lp dp k.g)::_) _:=df.iff.1 hS;refine bY (λh1=>?_) (λh1=>?_)
 ·have h1:k.image<=cI k.g.bF:=h1;refine Gp ?_;have hS:=df.put {k with ts:=T} hS Xp;refine Cg (ZB sp tp dp lp {k with ts:=T} hg hN) λw hS=>?_;have hS:SL W (.pt sp (mh tp dp lp k.dV k.image) 156::.ob (dL tp T)::.ob (dc lp dp k.g)::_) _:=df.iff.1 hS;refine Gp ?_;have hS:=df.put {k with ts:=T} hS Xp;by_cases h2:eZ k.g.bF<=k.image+1
  ·rw[zzl (show eZ ({k with ts:=T}:cQ).g.bF<=k.image+1 from h2)];refine⟨[.ob (df sp tp dp lp {k with ts:=T}),.mem H2],⟨H2,hh,?_⟩,aW hS⟩;rw[hR,zzc ⟨h1,h2⟩];exact⟨rfl,rfl⟩
  rw[zzz (show ¬eZ ({k with ts:=T}:cQ).g.bF<=k.image+1 from h2)];exact hF (by rw[hR,zzb λh=>h2 h.2]) hh (aW hS)
 exact hF (by rw[hR,zzb λh=>h1 h.1]) hh (aW hS)
def GF(dp:Nat)(H:bw)(y:DS × Except Int cQ)(r:Ε)(post:Β):Prop:=match y.2 with
 | .error e=>e≠0/\∃H',H.le H'/\r= .tuple #[.pointer none,Γ e]/\post=[.ob (bX dp y.1),.mem H']
 | .ok k=>∃sp tp lp H',H.le H'/\r= .tuple #[cF sp,Γ 0]/\post=[.ob (df sp tp dp lp k),.ob (bX dp y.1),.mem H']
def U'{R:List PF}{n:Nat}{x:rN}(hx:x.2.2.length=n/\(0<=x.2.1/\x.2.1<=1099511627776)/\∀C∈x.2.2,BV C)(f:Int):(gq R n f x).2.2.length=n/\(0<=(gq R n f x).2.1/\(gq R n f x).2.1<=1099511627776)/\∀C∈(gq R n f x).2.2,BV C:=by
 refine⟨U8 hx.1,bXn hx.2.1,?_⟩;unfold gq;cases hi:iG R n f with
 | none=>exact hx.2.2
 | some y=>
  simp only;split
  ·exact hx.2.2
  exact (sD.1 (FD hi).1).2
def bXs(R:List PF)(n:Nat):(lh R n).2.2.length=n/\(0<=(lh R n).2.1/\(lh R n).2.1<=1099511627776)/\∀C∈(lh R n).2.2,BV C:=
 U' (U' (x:=(-1,0,List.replicate n [])) ⟨xxf,⟨show (0:Int)<=0 by decide,show (0:Int)<=1099511627776 by decide⟩,λC hC=>by rw[(uue.1 hC).2];exact⟨List.Pairwise.nil,by simp,by decide⟩⟩ 0) 1
def cAc(H:bw)(dp:Nat)(d:DS)(cM size:Int){N B:Nat}(cG:d.Ok B)(hB:B<=140737488355328)(hw:p3 d.R 16 N)(hN:N<=900000000)(dS:d.ops<=90000)(hn:∀d' g,eV d 16 size=(d',.ok g)->(cR g.bF).length<=50000):
  SP 96 [cF dp,Γ cM,Γ size] [.ob (bX dp d),.mem H] (GF dp H (lk d cM size)):=by
 refine Enzz λW F w hS=>?_;apply cKr;delta PH aI cL ai cT;have hR:=cG.DA;refine Cc (Q3 cM) ?_;clear hS;rintro r post hq w hS;unfold BR at hq;by_cases ht:cM<1\/8<cM
 ·rw[zzc ht]at hq
  obtain⟨rfl,rfl⟩:=hq;have e:lk d cM size=(d,.error 1):=by unfold lk;rw[zzc ht]
  rw[e];(try simp only[app]at hS);refine Gp ?_
  refine za (λ_=>?_) (λh=>absurd (by decide) h);exact⟨_,⟨by decide,H,bw.le_refl H,rfl,rfl⟩,aW hS⟩
 rw[zzb ht]at hq
 obtain⟨tp,rfl,rfl⟩:=hq;obtain⟨n,rfl⟩:∃n:Nat,cM=n:=⟨cM.toNat,by omega⟩;rw[zzw]at hS
 (try simp only[app]at hS);refine Gp ?_
 refine za (λh=>absurd rfl h) (λ_=>?_);refine Cc (VZ dp d 16 size cG hB hw (by omega) (by omega) (by omega)) ?_;clear hS;rintro r post hq w hS;unfold lk;rw[zzb ht];unfold BS at hq;have CI:=FW (base:=16) (size:=size) cG;cases tw:eV d 16 size with
 | mk d' o=>
  rw[tw]at hq CI
  cases o with
  | error e=>
   obtain⟨he,rfl,rfl⟩:=hq;(try simp only[app]at hS);refine Gp ?_
   refine za (λ_=>?_) (λh=>absurd he h);exact⟨_,⟨he,H,bw.le_refl H,rfl,rfl⟩,aW hS⟩
  | ok g=>
   obtain⟨lp,rfl,rfl⟩:=hq;have hG:=VY hw (by omega) tw;have cMq:=hn d' g tw;obtain⟨x1,x2,x3⟩:=bXs d'.R n;(try simp only[app]at hS);refine Gp ?_
   refine za (λh=>absurd rfl h) (λ_=>?_);refine Gp ?_;refine zw hS λsp w hS=>?_;refine Cc (bXv sp tp dp lp d' H (-1,0,List.replicate n []) n xxf (by omega) CI hB) ?_;clear hS;rintro _ post ⟨H2,fA,rfl⟩ w hS;try simp only[app]at hS
   have hli:gq d'.R n 1 (gq d'.R n 0 (-1,0,List.replicate n []))=lh d'.R n:=rfl;rw[hli]at hS
   simp only[zzw];generalize lh d'.R n=x at *
   obtain⟨nw,im,ts⟩:=x;simp only at x1 x2 x3 hS ⊢;have hS:=df.eO (d:=d') hS Xp;refine Cc (cw2 sp tp dp lp H2 ⟨g,d',ts,nw,im⟩ hG (by omega) (λC hC=>(x3 C hC).sorted) (L0:=1000) (λC hC=>(x3 C hC).len) (by show 1000+16*(cR g.bF).length<=900000;omega) x2) ?_;clear hS;rintro r post ⟨H3,gb,hq⟩ w hS;have nD:=bw.le_trans fA gb;have hK:cQ.lM ⟨g,d',ts,nw,im⟩=match oB n im (cR g.bF) (eZ g.bF) ts with
    | none=>none
    | some ts=>if im<=cI g.bF/\eZ g.bF<=im+1 then some ts else none:=by rw[<- x1];rfl
   rw[hK]at hq
   clear hK;cases hr:oB n im (cR g.bF) (eZ g.bF) ts with
   | none=>
    rw[hr]at hq
    obtain⟨rfl,rfl⟩:=hq;try simp only[app]at hS
    refine z7 (zq ?_);exact⟨_,⟨by decide,H3,nD,rfl,rfl⟩,aW hS⟩
   | some ts2=>
    rw[hr]at hq
    simp only at hq;by_cases hc:im<=cI g.bF/\eZ g.bF<=im+1
    ·rw[zzc hc]at hq
     obtain⟨rfl,rfl⟩:=hq;try simp only[app]at hS
     refine z7 (zp ?_);simp only;rw[zzc hc];exact⟨_,⟨sp,tp,lp,H3,nD,rfl,rfl⟩,aW hS⟩
    rw[zzb hc]at hq
    obtain⟨rfl,rfl⟩:=hq;try simp only[app]at hS
    refine z7 (zq ?_);simp only;rw[zzb hc];exact⟨_,⟨by decide,H3,nD,rfl,rfl⟩,aW hS⟩
def QX(H:bw)(dp:Nat)(d:DS)(cM size:Int){N:Nat}(cG:d.Ok N)(hN:N<=900000000)(dS:d.ops<=90000)(hn:∀d' g,eV d 16 size=(d',.ok g)->(cR g.bF).length<=50000):
  SP 96 [cF dp,Γ cM,Γ size] [.ob (bX dp d),.mem H] (GF dp H (lk d cM size)):=
 cAc H dp d cM size cG (by omega) (p3.all cG.len 16) hN dS hn
structure Tm where
 id:Int
 when:Int
deriving DecidableEq
instance:Inhabited Tm:=⟨⟨0,0⟩⟩
def gi(t:Tm):Ξ:=[Γ t.id,Γ t.when]
def s4(t:Tm):(gi t).length=2:=rfl
def Ch(t:Tm):∀v∈gi t,v.oneCell'=true:=by simp[gi,Value.oneCell']
def rV(x:Int):Int:=min (max x 0) 1125899906842624
def pe(a b:Tm):Prop:=a.when<b.when\/(a.when=b.when/\a.id<b.id)
def pU(L:List Tm)(id:Int):List Tm:=L.filter λt=>decide (t.id≠id)
def erase_filter:∀(l:List Tm) (i:Nat) (id:Int),(l.map (·.id)).Nodup->(∃h:i<l.length,l[i].id=id)->pU l id=l.eraseIdx i
 | [],i,id,_,⟨h,_⟩=>by simp at h
 | x::l,0,id,hn,⟨_,he⟩=>by
  simp only[vvg]at he;rw[zzo,wwu]at hn
  unfold pU;rw[vvd (by simpa using he),List.eraseIdx_cons_zero,yy2];intro y hy;have:y.id≠x.id:=λe=>hn.1 (e▸zzv.2 ⟨y,hy,rfl⟩);simpa [he] using this
 | x::l,i+1,id,hn,⟨h,he⟩=>by
  rw[zzo,wwu]at hn
  have hl:i<l.length:=by simpa using h
  have l7:l[i].id=id:=by simpa using he
  have hx:x.id≠id:=λe=>hn.1 (by rw[e,<- l7];exact zzv.2 ⟨_,zzg hl,rfl⟩);have ih:=erase_filter l i id hn.2 ⟨hl,l7⟩;unfold pU at ih ⊢;rw[vvc (by simpa using hx),uuf,ih]
def bWx{l:List Tm}{id:Int}(h:∀t∈l,t.id≠id):pU l id=l:=by
 unfold pU;rw[yy2];intro t ht;simpa using h t ht
def bWy{l l':List Tm}(h:l.Perm l')(id:Int):(pU l id).Perm (pU l' id):=h.filter _
def bWw{l:List Tm}(h:(l.map (·.id)).Nodup)(id:Int):((pU l id).map (·.id)).Nodup:=h.sublist (List.filter_sublist.map _)
def EE{α β:Type}(f:α->List β):∀(xs:List α) (s:Nat) (h:s<xs.length) (y:α),∃R,(xs.flatMap f).Perm (f xs[s]++R)/\((xs.set s y).flatMap f).Perm (f y++R)
 | [],s,h,y=>by simp at h
 | x::xs,0,h,y=>⟨xs.flatMap f,by simp,by simp⟩
 | x::xs,s+1,h,y=>by
  obtain⟨R,h1,h2⟩:=EE f xs s (by simpa using h) y;refine⟨f x++R,?_,?_⟩
  ·simp only[List.flatMap_cons,vvj];refine (h1.append_left _).trans ?_;rw[<- zzk,<- zzk];exact vvq.append_right _
  simp only[List.set_cons_succ,List.flatMap_cons];refine (h2.append_left _).trans ?_;rw[<- zzk,<- zzk];exact vvq.append_right _
structure rS(xs:List (Ε × List Tm))(L:List Tm):Prop where
 len:xs.length=16
 at_:∀s (h:s<xs.length),∀t∈xs[s].2,md t.id 16=s
 perm:(xs.flatMap (·.2)).Perm L
 nodup:(L.map (·.id)).Nodup
def rS.sub{xs:List (Ε × List Tm)}{L:List Tm}(h:rS xs L)(s:Nat)(hs:s<xs.length):(xs[s].2.map (·.id)).Nodup/\∀t∈xs[s].2,t∈L:=by
 obtain⟨R,h1,_⟩:=EE (·.2) xs s hs xs[s];have hp:=h1.symm.trans h.perm;have hn:=(hp.map (·.id)).nodup_iff.2 h.nodup;rw[zzs]at hn
 exact⟨(ttb.1 hn).1,λt ht=>hp.subset (zz1.2 (.inl ht))⟩
def rS.mem{xs:List (Ε × List Tm)}{L:List Tm}(h:rS xs L){t:Tm}(ht:t∈L):∃hs:md t.id 16<xs.length,t∈xs[md t.id 16].2:=by
 have:=h.perm.symm.subset ht;obtain⟨x,hx,Uk⟩:=List.mem_flatMap.1 this;obtain⟨s,hs,rfl⟩:=yy5.1 hx;have e:=h.at_ s hs t Uk;subst e;exact⟨hs,Uk⟩
def rS.del{xs:List (Ε × List Tm)}{L:List Tm}(h:rS xs L){id:Int}{i:Nat}(hs:md id 16<xs.length)(hi:i<(xs[md id 16].2).length)(he:(xs[md id 16].2)[i].id=id)(v:Ε):
  rS (xs.set (md id 16) (v,(xs[md id 16].2).eraseIdx i)) (pU L id):=by
 obtain⟨hn,rm⟩:=h.sub _ hs;have e:=erase_filter _ i id hn ⟨hi,he⟩;refine⟨by simpa using h.len,λs lE t ht=>?_,?_,bWw h.nodup id⟩
 ·rw[xxi]at ht
  split at ht
  ·rename_i es;subst es;exact h.at_ _ hs t (vva ht)
  exact h.at_ s (by simpa using lE) t ht
 obtain⟨R,h1,h2⟩:=EE (·.2) xs (md id 16) hs (v,(xs[md id 16].2).eraseIdx i);refine h2.trans ?_;simp only;rw[<- e];have h3:=bWy (h1.symm.trans h.perm) id;unfold pU at h3 ⊢;rw[yy0]at h3
 have hR:R.filter (λt=>decide (t.id≠id))=R:=by
  rw[yy2];intro t ht;have xq:=((h1.symm.trans h.perm).map (·.id)).nodup_iff.2 h.nodup;rw[zzs,ttb]at xq
  have:=xq.2.2 id (zzv.2 ⟨_,zzg hi,he⟩) t.id (zzv.2 ⟨t,ht,rfl⟩);simpa using λe=>this e.symm
 rw[hR]at h3
 exact h3
def rS.gone{xs:List (Ε × List Tm)}{L:List Tm}(h:rS xs L){id:Int}(hs:md id 16<xs.length)(hn:∀t∈xs[md id 16].2,t.id≠id):∀t∈L,t.id≠id:=λt ht e=>by
 obtain⟨_,hm⟩:=h.mem ht;subst e;exact hn t hm rfl
def bw9{l:List Tm}{id:Int}{i:Nat}(h:l.findIdx? (λt=>decide (t.id=id))=some i):∃hi:i<l.length,l[i].id=id:=by
 obtain⟨hi,h1,_⟩:=yyk.1 h;exact⟨hi,by simpa using h1⟩
def bFa{l:List Tm}{id:Int}(h:l.findIdx? (λt=>decide (t.id=id))=none):∀t∈l,t.id≠id:=λt ht=>by
 have:=xxl.1 h t ht;simpa using this
set_option maxRecDepth 100000
open Go.RowKit
abbrev mj(p:Ε × List Tm):zC:=bI p.1 361 2 p.2.length (p.2.map gi).flatten
def jE(xs:List (Ε × List Tm))(now:Int):Ξ:=xs.map (·.1)++[Γ now]
abbrev BX(wp:Nat)(xs:List (Ε × List Tm))(now:Int):Β:=[.pt wp (jE xs now) 173,.ob (ze mj xs)]
def iq(wp:Nat)(L:List Tm)(now:Int):zC:=jF λxs:List (Ε × List Tm)=>zH (rS xs L) (BX wp xs now)
def iq.iff{W w:Ζ}{wp:Nat}{L:List Tm}{now:Int}{l:Β}:SL W (.ob (iq wp L now)::l) w↔∃xs,rS xs L/\SL W (.pt wp (jE xs now) 173::.ob (ze mj xs)::l) w:=by
 unfold iq BX;simp only[SL.ex,SL.fact,zzu,zzq]
def KO{xs:List (Ε × List Tm)}{now:Int}{s o:Nat}{p:Ε × List Tm}(h:xs[s]?=some p)(ho:o=s):(jE xs now)[o]?=some p.1:=by
 subst ho;have hl:=(zzj.1 h).1;unfold jE;rw[zzt (by simpa using hl),wwr,h];rfl
def DR{xs:List (Ε × List Tm)}{now:Int}(h:xs.length=16):(jE xs now)[0+16]?=some (Γ now):=by
 unfold jE;rw[yya (by simp[h])];simp[h]
def cK2{xs:List (Ε × List Tm)}{now:Int}{s o:Nat}(hs:s<xs.length)(ho:o=s)(v:Ε)(l:List Tm):(jE xs now).set o v=jE (xs.set s (v,l)) now:=by
 subst ho;unfold jE;rw[wwn _ _ (by simpa using hs),vvh]
def cK3{xs:List (Ε × List Tm)}{now n2:Int}(h:xs.length=16):(jE xs now).set (0+16) (Γ n2)=jE xs n2:=by
 unfold jE;rw[vvr _ _ (by simp[h])];simp[h]
def Yx(x:Int):SP 95 [Γ x] [] (cC (Γ (rV x)) []):=by
 refine Enzz λW F w hS=>?_;apply cKq;delta PG ai;refine Gp ?_;(exact cA hS)
def Yi(v:Int):SP 307 [Γ v] [] (cC (Γ (md v 16:Int)) []):=by
 refine Enzz λW F w hS=>?_;apply cH1;unfold Oc;have hv:0<=IntKind.u64.wrap v:=by rw[wwz];omega
 refine zW ?_;refine ZL (by omega) ?_;have e:(IntKind.u64.wrap v).tmod 16=(md v 16:Int):=by
  rw[xxt hv];unfold md;have:=ww6 (IntKind.u64.wrap v) (show (16:Int)≠0 by omega);omega
 rw[e];have:=ie v 16 (by decide);refine yz (by omega) ?_;(exact cA hS)
def bY7(x:Int):SP 41 [Γ x] [] (λv post=>∃wp:Nat,v= Δ wp/\post=[.ob (iq wp [] (rV x))]):=by
 refine Enzz λW F w hS=>?_;apply cJi;delta OZ ai bR;refine Cg (Yx x) λw hS=>?_;refine⟨_,rfl,zE hS ?_⟩;clear hS;intro wp w hS;have hS:SL W (.pt wp (jE (List.replicate 16 (.slice none 0 0,[])) (rV x)) 173::F) w:=hS;refine⟨_,⟨wp,rfl,rfl⟩,?_⟩;refine iq.iff.2 ⟨List.replicate 16 (.slice none 0 0,[]),⟨by simp,λs h t ht=>(by rw[List.getElem_replicate]at ht;cases ht),by simp[List.replicate],by simp⟩,?_⟩;have hn:∀k,SL W (.ob (ze mj (List.replicate k (.slice none 0 0,[])))::.pt wp (jE (List.replicate 16 (.slice none 0 0,[])) (rV x)) 173::F) w:=by
  intro k;induction k with
  | zero=>exact ze.nil hS
  | succ k ih=>
   refine ze.iff.2 ?_;have:=ze.iff.1 ih;exact bI.nil this
 exact (hn 16).perm (.swap _ _ _)
def zY(wp:Nat)(L:List Tm)(now:Int):SP 50 [Δ wp] [.ob (iq wp L now)] (cC (Γ now) [.ob (iq wp L now)]):=by
 refine Enzz λW F w hS=>?_;apply cJs;delta O9 bU;obtain⟨xs,hx,hS⟩:=iq.iff.1 hS;refine Gp ?_;refine zV hS Xh (DR hx.len) ?_;exact⟨_,⟨rfl,rfl⟩,iq.iff.2 ⟨xs,hx,hS⟩⟩
def qF(b:Nat)(id:Int)(t:Tm):SP 355 ([agg (gi t)]++(#[Δ b]:Array Ε).toList) [.pt b [Γ id] 3] (cC (.bool (decide (t.id=id))) [.pt b [Γ id] 3]):=by
 refine Enzz λW F w hS=>?_;apply cIy;delta OI a_;refine⟨_,rfl,zE hS ?_⟩;clear hS;intro b2 w hS;refine Gp ?_;exact cA hS
def qX(wp:Nat)(xs:List (Ε × List Tm))(now id:Int)(p:Ε × List Tm)(hp:xs[md id 16]?=some p)(wS:xs.length=16)(hn:p.2.length<=1000000):
  SP 306 [Δ wp,Γ id] (BX wp xs now) (cC (Γ (k_ (p.2.findIdx? λt=>decide (t.id=id)))) (BX wp xs now)):=by
 refine Enzz λW F w hS=>?_;apply cH0;delta Ob bV;refine⟨rfl,zE hS ?_⟩;clear hS;intro b w hS;refine Gn λw hS=>?_;refine Cg (Yi id) λw hS=>?_;have hm:=ie id 16 (by decide);refine yB hm ?_;refine zV hS Xh (KO hp (by omega)) ?_;have hS:=ze.take (SL.bZ hS (t:=.ob (ze mj xs)::.pt b [Γ id] 3::.pt wp (jE xs now) 173::F) Xi) hp;have hC:=Jj (t:=361) s4 rfl (λv0 v1 w R h=>cIx v0 v1 w R h) (λt=>qF b id t) p.1 p.2 (by omega);simp only[zzu,zzq]at hC;refine Cc (hC) ?_;clear hS;rintro v post ⟨rfl,rfl⟩ w hS;try simp only[app]at hS
 have hS:=ze.put (y:=p) (SL.bZ hS (t:=.ob (mj p)::.ob (ze mj (xs.eraseIdx (md id 16)))::.pt wp (jE xs now) 173::F) Xi) (by omega);have e:xs.set (md id 16) p=xs:=by
  obtain⟨h1,h2⟩:=zzj.1 hp;rw[<- h2];simp
 rw[e]at hS
 (exact cA hS)
def aWy(wp:Nat)(L:List Tm)(now id:Int)(hn:L.length<=1000000):SP 248 [Δ wp,Γ id] [.ob (iq wp L now)]
  (cC (.bool (decide (∃t∈L,t.id=id))) [.ob (iq wp (pU L id) now)]):=by
 refine Enzz λW F w hS=>?_;apply cGs;delta Nu aI bV cw ai;obtain⟨xs,hx,hS⟩:=iq.iff.1 hS;have hm:=ie id 16 (by decide);have hs:md id 16<xs.length:=by rw[hx.len];exact hm
 have hp:xs[md id 16]?=some xs[md id 16]:=by simp[hs]
 obtain⟨hnd,rm⟩:=hx.sub _ hs;have dZ:(xs[md id 16].2).length<=1000000:=by
  obtain⟨R,h1,_⟩:=EE (·.2) xs _ hs xs[md id 16];have:=(h1.symm.trans hx.perm).length_eq;rw[zza]at this;omega
 have hxd:=λi (hi:i<(xs[md id 16].2).length) he v=>hx.del hs (i:=i) hi he v;have bRz:=hx.gone hs;generalize xs[md id 16]=p at *
 refine Cc (qX wp xs now id p hp hx.len dZ) ?_;clear hS;rintro v post ⟨rfl,rfl⟩ w hS;try simp only[app]at hS
 cases hf:p.2.findIdx? (λt=>decide (t.id=id)) with
 | none=>
  have fp:=bRz (bFa hf);simp only[k_];refine Gp ?_;refine za (λ_=>?_) (λh=>by omega);have e:decide (∃t∈L,t.id=id)=false:=by
   rw[yy7];rintro ⟨t,ht,he⟩;exact fp t ht he
  rw[e,bWx fp];exact⟨_,⟨rfl,rfl⟩,iq.iff.2 ⟨xs,hx,aW hS⟩⟩
 | some i=>
  obtain⟨hi,he⟩:=bw9 hf;simp only[k_];refine Gp ?_;refine za (λh=>by omega) (λ_=>?_);refine Cg (Yi id) λw hS=>?_;refine yB hm ?_;refine zV hS Xh (KO hp (by omega)) ?_;refine Gp ?_;have hS:=ze.take (SL.bZ hS (t:=.ob (ze mj xs)::.pt wp (jE xs now) 173::F) Xi) hp;refine Cc (HC (sz:=2) (gT:=16) (z:=[Γ 0,Γ 0]) (zv:=.agg #[Γ 0,Γ 0]) (λv0 v1 v2 w R h=>cH2 v0 v1 v2 w R h) Tryz.underlying170 (λw=>by kernel_rfl) rfl rfl (by simp[Value.oneCell']) p.1 p.2.length i (p.2.map gi).flatten hi (tK Ch _) (by omega) (by omega)) ?_;clear hS;rintro v post rfl w hS;try simp only[app]at hS
  refine yB hm ?_;have o1:v.oneCell'=true:=bI.one hS;refine ZA hS Xu (KO hp (by omega)) o1 ?_;clear hS;intro w hS;have ef:List.take (i*2) (p.2.map gi).flatten++List.drop ((i+1)*2) (p.2.map gi).flatten=((p.2.eraseIdx i).map gi).flatten:=by
   rw[ug s4,vi s4,List.eraseIdx_eq_take_drop_succ];simp
  have el:p.2.length-1=(p.2.eraseIdx i).length:=by rw[uut,zzc hi]
  rw[ef,el,cK2 hs (by omega) v (p.2.eraseIdx i)]at hS
  have hS:=ze.put (y:=(v,p.2.eraseIdx i)) (SL.bZ hS (t:=.ob (mj (v,p.2.eraseIdx i))::.ob (ze mj (xs.eraseIdx (md id 16)))::.pt wp (jE (xs.set (md id 16) (v,p.2.eraseIdx i)) now) 173::F) Xi) hs;have e:decide (∃t∈L,t.id=id)=true:=by
   rw[uud];exact⟨_,rm _ (zzg hi),he⟩
  rw[e];exact⟨_,⟨rfl,rfl⟩,iq.iff.2 ⟨_,hxd i hi he v,aW hS⟩⟩
def aw6{K:Ε->Prop}{w:Ζ}{xs:List (Ε × List Tm)}{k:Nat}{p:Ε × List Tm}(hp:xs[k]?=some p)(wS:k<16)(h:K p.1):eW Tryz.prog (Instr.index 171 (.agg (xs.map (·.1)).toArray) (Γ (k:Int))) w K:=
 Wy Tryz.underlying171 (λw=>by kernel_rfl) (λw=>by kernel_rfl) wS (by rw[wwr,hp];rfl) h
def cK1{xs:List (Ε × List Tm)}{now:Int}(h:xs.length=16):∀j v,(xs.map (·.1))[j]?=some v->(jE xs now)[0+0+j]?=some v:=λj v e=>by
 unfold jE;rw[zzt (by have:=(zzj.1 e).1;omega),show 0+0+j=j by omega];exact e
def kr(now:Int)(L:List Tm):List Tm:=L.filter λt=>decide (t.when<=now)
def a_h(wp:Nat)(xs:List (Ε × List Tm))(now:Int)(wS:xs.length=16)(hn:(xs.flatMap (·.2)).length<=1000000):SP 242 [Δ wp] (BX wp xs now)
  (λv post=>post=[.pt wp (jE xs now) 173,.ob (ze mj xs),.ob (bI v 361 2 (kr now (xs.flatMap (·.2))).length ((kr now (xs.flatMap (·.2))).map gi).flatten)]):=by
 refine Enzz λW F w hS=>?_;apply cGo;delta Nq aI bU a_ bV ai bR;refine Gp ?_;refine yH (vs:=xs.map (·.1)) hS Xh (by simp[wS]) (cK1 wS) ?_;have hf:∀k (h:k<xs.length),(xs.take (k+1)).flatMap (·.2)=(xs.take k).flatMap (·.2)++xs[k].2:=λk h=>by
  rw[zze h,vv5];simp
 have eE:∀k,((xs.take k).flatMap (·.2)).length<=1000000:=λk=>by
  have:xs=xs.take k++xs.drop k:=by simp
  rw[this,vv5,zza]at hn;omega
 refine⟨λus w=>∃(k:Nat) (v:Ε),us=[v,Γ k]/\k<=16/\SL W (.ob (bI v 361 2 (kr now ((xs.take k).flatMap (·.2))).length ((kr now ((xs.take k).flatMap (·.2))).map gi).flatten)::.pt wp (jE xs now) 173::.ob (ze mj xs)::F) w,
  λus _=>match us with|[_,.int _ k]=>(16-k).toNat|_=>0,⟨0,_,rfl,by omega,bI.nil hS⟩,?_⟩
 clear hS;rintro v3 v10 w ⟨k,v,hv,hk,hS⟩;cases hv;refine bY (λh=>?_) (λh=>?_)
 ·have Fk:k<xs.length:=by omega
  have hp:xs[k]?=some xs[k]:=by simp[Fk]
  have h1:=hf k Fk;have h2:=eE (k+1);refine aw6 hp (by omega) ?_;rw[h1,zza]at h2
  have mQ:∀(v:Ε) (w:Ζ),SL W (.ob (bI v 361 2 (kr now ((xs.take (k+1)).flatMap (·.2))).length ((kr now ((xs.take (k+1)).flatMap (·.2))).map gi).flatten)::.pt wp (jE xs now) 173::.ob (ze mj xs)::F) w ->
    (∃(k':Nat) (v':Ε),([v,Γ (k+1:Nat)]:Ξ)=[v',Γ k']/\k'<=16/\SL W (.ob (bI v' 361 2 (kr now ((xs.take k').flatMap (·.2))).length ((kr now ((xs.take k').flatMap (·.2))).map gi).flatten)::.pt wp (jE xs now) 173::.ob (ze mj xs)::F) w) /\
    ((16:Int)-((k+1:Nat):Int)).toNat<((16:Int)-(k:Int)).toNat:=λv w hS=>⟨⟨k+1,v,rfl,by omega,hS⟩,by omega⟩
  rw[h1]at mQ
  have hT:=λ{A:Β} {w:Ζ} (hS:SL W (.ob (ze mj xs)::A) w)=>ze.take hS hp;generalize xs[k]=p at *
  generalize (xs.take k).flatMap (·.2)=A at *
  have uo:=hT (SL.bZ hS (t:=.ob (ze mj xs)::F) Xi);refine zt uo .hd ?_;clear uo;refine⟨λus w=>∃(j:Nat) (v:Ε),us=[v,Γ j]/\j<=p.2.length/\SL W (.ob (bI v 361 2 (kr now (A++p.2.take j)).length ((kr now (A++p.2.take j)).map gi).flatten)::.pt wp (jE xs now) 173::.ob (ze mj xs)::F) w,
   λus _=>match us with|[_,.int _ j]=>(p.2.length-j).toNat|_=>0,⟨0,_,rfl,by omega,by simpa using hS⟩,?_⟩
  clear hS;rintro v4 v17 w ⟨j,v,hv,hj,hS⟩;cases hv;refine bY (λh=>?_) (λh=>?_)
  ·have gM:j<p.2.length:=by omega
   have uo:=hT (SL.bZ hS (t:=.ob (ze mj xs)::F) Xi);refine zT uo .hd s4 (x:=p.2[j]) (by simp[gM]) gM ?_;clear uo;have kZ:kr now (A++p.2.take (j+1))=if p.2[j].when<=now then kr now (A++p.2.take j)++[p.2[j]] else kr now (A++p.2.take j):=by
    unfold kr;rw[zze gM,<- zzk,yy0 (l₁:=A++p.2.take j)];by_cases hw:p.2[j].when<=now<;>simp[hw]
   have oY:(kr now (A++p.2.take j)).length<=1000000:=by
    refine yyy (yym _ _) ?_;rw[zza,zzf];omega
   generalize p.2[j]=t at kZ;refine zE hS ?_;clear hS;intro b w hS;refine zr (vs:=gi t) hS .hd rfl rfl (Ch _) ?_;clear hS;intro w hS;refine Gn λw hS=>?_;refine zV hS Xh (DR wS) ?_;refine bY (λhw=>?_) (λhw=>?_)
   ·refine zA hS .hd rfl ?_;refine zN (cells:=gi t) hS (by simp[ir,cK,Value.cells,gi]) ?_;clear hS;intro b2 w hS;rw[zzc hw]at kZ
    refine zJ (m:=1) hS Xr (j8 (cs:=gi t) hS .hd rfl) rfl rfl (Ch _) (by omega) (by omega) ?_;clear hS;intro v' w hS;refine Gp ?_;refine⟨⟨j+1,v',by simp,by omega,?_⟩,by dsimp only;omega⟩;rw[kZ,vj,zza,zz7];exact aW hS
   rw[zzb hw]at kZ
   refine Gp ?_;refine⟨⟨j+1,v4,by simp,by omega,?_⟩,by dsimp only;omega⟩;rw[kZ];exact aW hS
  have hjj:j=p.2.length:=by omega
  subst hjj;rw[zz0]at hS
  refine Gp ?_;exact mQ v4 w hS
 have Fk:k=16:=by omega
 subst Fk;have e:xs.take 16=xs:=by rw[<- wS,zz0]
 rw[e]at hS
 exact⟨_,rfl,aW hS⟩
