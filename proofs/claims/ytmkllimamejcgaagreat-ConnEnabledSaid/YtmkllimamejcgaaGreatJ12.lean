/- Part of the proof. -/
import Derived.Test.YtmkllimamejcgaaGreatJ11
import Derived.Lib.ConvBytes
import Derived.Laws.AppendOwn
import Derived.Test.YtmkllimamejcgaaGreatQVcW
namespace Go.Proofs.YtmkllimamejcgaaGreat
set_option linter.all false
open Go.RowKit
section
variable {W w:Α} {l:Ψ} {P:Program}
def Ye{src dst e:Ε}{u:TypeDesc}{bs:Δ}{K:Ω->Α->Prop}(hS:SL W l w)(h1:P.underlying src=some u)(h2:P.underlying dst=some (.slice e))(h3:P.underlying e=some (.int .u8))
  (h:∀v w',SL W (.ob (bR v e 1 bs.length (bs.map ic))::l) w'->K v w'):zR P (convert src dst (.string (ji bs))) w K:=by
 refine⟨_,_,Lib.run_convert_string_bytes w src dst e (ji bs) h1 h2 h3,h _ _ ?_⟩;have hg:(ji bs).size<=grownCap w (ji bs).size 0 e:=grownCap_ge _ _ _ _;have e1:(Lib.bytesCells w e (ji bs)).toList=bs.map ic++List.replicate (grownCap w bs.length 0 e-bs.length) (.int .u8 0):=by
  unfold Lib.bytesCells;rw[sa];simp[ji,ic]
 have hn:SL W (.pt w.heap.size (Lib.bytesCells w e (ji bs)).toList e::l) (w.drew.alloc (.cells (Lib.bytesCells w e (ji bs)) e)):=by
  have:=(hS.drew).new (cs:=(Lib.bytesCells w e (ji bs)).toList) (t:=e);simpa using this
 have hm:=hn.mark (n:=(Lib.bytesCells w e (ji bs)).size) .hd (by simp);rw[e1]at hm
 rw[sa]at hg ⊢
 exact bR.mk hg (by simp) (by simp) hm
end
structure vM(H:bw)(vs:List mA)(zs:List eF):Prop where
 len:vs.length=zs.length
 at_:∀j (h:j<vs.length) (h':j<zs.length),ma H vs[j] zs[j]
def vM.mono{H H':bw}(hh:H.le H'){vs:List mA}{zs:List eF}(h:vM H vs zs):vM H' vs zs:=⟨h.len,λj a b=>(h.at_ j a b).mono hh⟩
def vM.snoc{H:bw}{vs:List mA}{zs:List eF}(h:vM H vs zs){x:mA}{z:eF}(hx:ma H x z):vM H (vs++[x]) (zs++[z]):=by
 have hl:=h.len;refine⟨by simp[hl],λj a b=>?_⟩;by_cases hj:j<vs.length
 ·rw[wwk hj,wwk (by omega)];exact h.at_ j hj (by omega)
 have e:j=vs.length:=by rw[zza,zz6]at a;omega
 subst e;rw[ww4 (zzi _),ww4 (by omega)];simpa [hl] using hx
set_option maxRecDepth 100000
def mP(x:eF):Β:=ji (lu x)
def ai3:∀{l:List eF} {b:Int} {i:Nat} (h:kI b l) (hi:i<l.length),mN b (l.take i)<l[i].aw
 | [],_,_,_,hi=>absurd hi (by simp)
 | x::l,b,0,h,_=>h.1
 | x::l,b,i+1,h,hi=>ai3 (l:=l) (b:=x.aw) h.2 (by simpa using hi)
structure EG(gw:Nat)(zs:List eF):Prop where
 it:∀x∈zs,AG gw x
 od:kI 0 zs
 le:zs.length<=64
def EG.at{gw:Nat}{zs:List eF}(h:EG gw zs)(i:Nat)(hi:i<=zs.length):sI gw (oD (zs.take i)) i:=by
 have:=F8 (n:=gw) (l:=zs.take i) (λx hx=>h.it x (yyn hx)) (h.od.take i);rw[zzf,xxn hi]at this
 exact this
def EG.lt{gw:Nat}{zs:List eF}(h:EG gw zs){i:Nat}(hi:i<zs.length):(oD (zs.take i)).aw<zs[i].aw:=by
 rw[WX];exact ai3 h.od hi
def sK.add{W w:Α}{l:Ψ}{v:Ω}{A B:List lA}(h:SL W (.ob (bR v 390 5 (A.length+B.length) ((A.map nN).flatten++(B.map nN).flatten))::l) w):SL W (sK v (A++B)::l) w:=by
 rw[show sK v (A++B)= .ob (bR v 390 5 (A.length+B.length) ((A.map nN).flatten++(B.map nN).flatten)) by simp[sK]];exact h
def sJ.add{W w:Α}{l:Ψ}{v:Ω}{A B:List mn}(h:SL W (.ob (bR v 393 7 (A.length+B.length) ((A.map pc).flatten++(B.map pc).flatten))::l) w):SL W (sJ v (A++B)::l) w:=by
 rw[show sJ v (A++B)= .ob (bR v 393 7 (A.length+B.length) ((A.map pc).flatten++(B.map pc).flatten)) by simp[sJ]];exact h
def fFb(A:List lA):∀v∈(A.map nN).flatten,v.oneCell'=true:=λv hv=>by
 obtain⟨l,hl,h⟩:=xx5.1 hv;obtain⟨o,_,rfl⟩:=zzy.1 hl;exact E8 o v h
def fwe(A:List mn):∀v∈(A.map pc).flatten,v.oneCell'=true:=λv hv=>by
 obtain⟨l,hl,h⟩:=xx5.1 hv;obtain⟨o,_,rfl⟩:=zzy.1 hl;exact Kf o v h
def QD(H:bw)(v:Ω)(vs:List mA)(zs:List eF)(hv:iD H 3 v vs.length (vs.map jP).flatten)(hi:vM H vs zs){gw:Nat}(hj:EG gw zs)(iX:zs≠[]):
  SP 300 [v] [.mem H] (λu post=>∃xv H',H.le H'/\u= .tuple #[agg (jP xv),.int .i64 0]/\ma H' xv (oD zs)/\post=[.mem H']):=by
 refine Enzz λW F w hS=>?_;apply h_b;delta Ru aI a_ gi ai gI bI;have hlen:=hi.len;have Kz:=hj.le;refine Gb λrb w hS=>?_;refine Gb λob w hS=>?_;refine zo hv ?_;have hS:=bR.nil (t:=390) (sz:=5) hS;have hS:=bR.nil (t:=393) (sz:=7) hS;have hS:SL W (sJ (.slice none 0 0) (oD (zs.take 0)).notes::sK (.slice none 0 0) (oD (zs.take 0)).ops::.pt ob [.int .i64 (oD (zs.take 0)).aw,.slice none 0 0,.slice none 0 0] 214::_) _:=hS;refine⟨λus w=>∃(i:Nat) (ov nv:Ω),us=[.bool true,.int .i64 i]/\i<=zs.length/\SL W (sK ov (oD (zs.take i)).ops::sJ nv (oD (zs.take i)).notes::.pt ob [.int .i64 (oD (zs.take i)).aw,ov,nv] 214::.pt rb [.int .i64 0,.slice none 0 0,.slice none 0 0] 214::.mem H::F) w,
  λus _=>match us with|[_,.int _ i]=>(zs.length-i).toNat|_=>0,⟨0,.slice none 0 0,.slice none 0 0,rfl,zz8 _,aW hS⟩,?_⟩
 clear hS;rintro v5 v10 w ⟨i,ov,nv,gW,d_,hS⟩;cases gW;refine Gp ?_;have m_:=hj.at i d_;refine za (λh=>?_) (λh=>?_)
 ·have xj:i<vs.length:=by omega
  have rl:i<zs.length:=by omega
  have hx:=hi.at_ i xj rl;have hw:=hj.it _ (zzg rl);have iw:=hj.lt rl;refine zE hS Xh b_z hv (zzd xj) xj ?_;have ht:=eIf rl;generalize zs[i]=z at *
  generalize vs[i]=x at *
  have hex:jP x=[.int .i64 z.aw,x.ov,x.nv]:=by unfold jP;rw[hx.aw]
  refine Gb λxb w hS=>?_;refine zr hS Xu rfl rfl (rK hx) λw hS=>?_;refine zC hS Xh rfl ?_;refine Cc (zY H x z hx) ?_;clear hS;rintro _ post ⟨rfl,rfl⟩ w hS;try simp only[app]at hS
  rw[hw.may];refine Gp ?_;refine zp ?_;rw[hex]at hS
  have hz5:=hw.ops;have Wu:=hw.mO;have lV:=m_.len;have K6:=m_.mO;generalize hP:oD (zs.take i)=P at *
  refine⟨λus w=>us=[.bool true]/\SL W (.pt xb [.int .i64 z.aw,x.ov,x.nv] 214::sK ov P.ops::sJ nv P.notes::.pt ob [.int .i64 P.aw,ov,nv] 214::.pt rb [.int .i64 0,.slice none 0 0,.slice none 0 0] 214::.mem H::F) w,?_,?_⟩
  ·refine Gp ?_;rw[zzm iw];exact⟨rfl,aW hS⟩
  clear hS;rintro _ w ⟨gW,hS⟩;cases gW;refine Gn λw hS=>?_;refine zI (n:=P.ops.length) (m:=z.ops.length) hS Xr (MQ hS Xh hx.ops) (by rw[Fg BV]) rfl (fFb _) (by omega) (by omega) λMs w hS=>?_;have hS:=sK.add hS;have o1:=bR.one hS;refine Gn λw hS=>?_;refine zI (n:=P.notes.length) (m:=z.notes.length) hS Xr (MQ hS Xh hx.mO) (by rw[Fg BT]) rfl (fwe _) (by omega) (by omega) λMi w hS=>?_;have hS:=sJ.add hS;have o2:=bR.one hS;refine Gn λw hS=>?_;refine⟨⟨i+1,Ms,Mi,rfl,by omega,?_⟩,by dsimp only;omega⟩;rw[ht];show SL W (sK Ms (P.ops++z.ops)::sJ Mi (P.notes++z.notes)::.pt ob [.int .i64 z.aw,Ms,Mi] 214::_) w;exact aW hS
 have nX:i=zs.length:=by omega
 subst nX;have Cu:0<zs.length:=xx0.2 iX;rw[zz1]at hS m_
 have lV:=m_.len;have K6:=m_.mO;generalize oD zs=P at *
 refine zo hv ?_;refine Gp ?_;refine za (λh0=>by omega) (λh0=>?_);refine Gp ?_;refine zt hS (v:=ov) (t:=390) (sz:=5) (n:=P.ops.length) (cells:=(P.ops.map nN).flatten) Xh ?_;refine Gp ?_;refine za (λh0=>by omega) (λh0=>?_);refine Gp ?_;refine zt hS (v:=nv) (t:=393) (sz:=7) (n:=P.notes.length) (cells:=(P.notes.map pc).flatten) Xh ?_;refine Gp ?_;refine za (λh1=>by omega) (λh1=>?_);refine Gp ?_;refine zp ?_;have o1:=bR.one (Has.front (c:=sK ov P.ops) hS Xr);have o2:=bR.one (Has.front (c:=sJ nv P.notes) hS Xr);obtain⟨H1,iA,nO,hS⟩:=zz (H:=H) (v:=ov) hS Xp;obtain⟨H2,iW,uK,hS⟩:=zz (H:=H1) (v:=nv) hS Xp;refine zC hS Xh rfl ?_;refine zr (vs:=[.int .i64 P.aw,ov,nv]) hS Xu rfl rfl (rK (x:=⟨P.aw,ov,nv⟩) (t:=P) ⟨rfl,nO.mono iW,uK⟩) λw hS=>?_;refine zC hS Xh rfl ?_;exact⟨_,⟨⟨P.aw,ov,nv⟩,H2,bw.le_trans iA iW,rfl,⟨rfl,nO.mono iW,uK⟩,rfl⟩,aW hS⟩
structure wQ where
 wp:Nat
 kp:Nat
 gp:Nat
 dp:Nat
 lp:Nat
 pp:Nat
 qp:Nat
 qb:Nat
 rp:Nat
abbrev um(kp qp rp fW:Nat)(l:Int)(ov nv:Ω)(n:Nat):Γ:=[mV kp,mV qp,mV rp,.int .i64 fW,.int .i64 l,ov,nv,.int .i64 n]
def iE(p:wQ)(c:jD)(H:bw)(s:km):zB:=nT λh:Ω × Ω=>zG (ma H ⟨s.held.aw,h.1,h.2⟩ s.held)
 [.pt p.wp (um p.kp p.qp p.rp c.fW s.held.aw h.1 h.2 s.n) 216,.ob (iu p.kp p.gp p.dp p.lp p.pp H s.k),.ob (Gate p.qp p.qb c.cap s.out (s.L.map mP)),o8 p.rp c.b c.m c.j s.ll s.kB]
section
variable {W w:Α} {l F:Ψ} {p:wQ} {c:jD} {H:bw} {s:km}
def iE.iff:SL W (.ob (iE p c H s)::l) w↔∃ov nv,ma H ⟨s.held.aw,ov,nv⟩ s.held/\SL W (.pt p.wp (um p.kp p.qp p.rp c.fW s.held.aw ov nv s.n) 216::.ob (iu p.kp p.gp p.dp p.lp p.pp H s.k)::.ob (Gate p.qp p.qb c.cap s.out (s.L.map mP))::o8 p.rp c.b c.m c.j s.ll s.kB::l) w:=by
 unfold iE;simp only[SL.ex,SL.fact,zzu,zzp];exact⟨λ⟨x,h⟩=>⟨x.1,x.2,h⟩,λ⟨a,b,h⟩=>⟨(a,b),h⟩⟩
def iE.open(hS:SL W l w)(r:lg (.ob (iE p c H s)) l F):∃ov nv,ma H ⟨s.held.aw,ov,nv⟩ s.held/\SL W (.pt p.wp (um p.kp p.qp p.rp c.fW s.held.aw ov nv s.n) 216::.ob (iu p.kp p.gp p.dp p.lp p.pp H s.k)::.ob (Gate p.qp p.qb c.cap s.out (s.L.map mP))::o8 p.rp c.b c.m c.j s.ll s.kB::F) w:=iE.iff.1 (hS.perm r.perm)
def iE.put(s:km){ov nv:Ω}(hS:SL W l w)(hi:ma H ⟨s.held.aw,ov,nv⟩ s.held)(k:lJ [.pt p.wp (um p.kp p.qp p.rp c.fW s.held.aw ov nv s.n) 216,.ob (iu p.kp p.gp p.dp p.lp p.pp H s.k),.ob (Gate p.qp p.qb c.cap s.out (s.L.map mP)),o8 p.rp c.b c.m c.j s.ll s.kB] l F):SL W (.ob (iE p c H s)::F) w:=iE.iff.2 ⟨ov,nv,hi,hS.pick k⟩
def iE.jT{k:gF}{L:List eF}{out n:Nat}{ll kB:Int}{held:eF}{ov nv:Ω}(hS:SL W l w)(hi:ma H ⟨held.aw,ov,nv⟩ held)(q:lJ [.pt p.wp (um p.kp p.qp p.rp c.fW held.aw ov nv n) 216,.ob (iu p.kp p.gp p.dp p.lp p.pp H k),.ob (Gate p.qp p.qb c.cap out (L.map mP)),o8 p.rp c.b c.m c.j ll kB] l F):SL W (.ob (iE p c H ⟨k,L,out,ll,kB,held,n⟩)::F) w:=iE.iff.2 ⟨ov,nv,hi,hS.pick q⟩
def iE.mono{H':bw}(hh:H.le H')(h:SL W (.ob (iE p c H s)::l) w):SL W (.ob (iE p c H' s)::l) w:=by
 obtain⟨ov,nv,hi,hS⟩:=iE.iff.1 h;have hS:=iu.nZ hh hS Xr;exact iE.put s hS (hi.mono hh) Xp
def iE.nZ{H':bw}(hh:H.le H')(hS:SL W l w)(r:lg (.ob (iE p c H s)) l F):SL W (.ob (iE p c H' s)::F) w:=iE.mono hh (hS.perm r.perm)
def Gate.fIa{g b cap out:Nat}{L:Θ}(hS:SL W l w)(hA:L.length+out<=cap/\cap<=64)(k:lJ [.pt g [.pointer (some ⟨b,0,none⟩),.int .i64 out] 125,.ob (Ring b cap L)] l F):SL W (.ob (Gate g b cap out L)::F) w:=Gate.close hA (hS.pick k)
def cWf{g b cap out:Nat}{L:Θ}(hS:SL W l w)(r:lg (.ob (Gate g b cap out L)) l F):(L.length+out<=cap/\cap<=64)/\SL W (.pt g [.pointer (some ⟨b,0,none⟩),.int .i64 out] 125::.ob (Ring b cap L)::F) w:=Gate.open (hS.perm r.perm)
end
def ici(kp qp rp n:Nat)(h1:1<=n)(h2:n<=64):SP 149 [mV kp,mV qp,mV rp,.int .i64 n] [] (λv post=>∃p:Nat,v= .tuple #[mV p,.int .i64 0]/\post=[.pt p (um kp qp rp n 0 (.slice none 0 0) (.slice none 0 0) 0) 216]):=by
 refine Enzz λW F w hS=>?_;apply gIj;delta Od aI ai h_ bI;refine Gp ?_;refine za (λh=>by omega) (λ_=>?_);refine Gp ?_;refine za (λh=>by omega) (λ_=>?_);refine Gp ?_;refine⟨_,rfl,zD hS λp w hS=>?_⟩;exact⟨_,⟨p,rfl,rfl⟩,hS⟩
def ZN(p:wQ)(c:jD)(H:bw)(s:km)(now:Int):SP 65 [mV p.wp,.int .i64 now] [.ob (iE p c H s)] (e_ (.bool (s.ready now)) [.ob (iE p c H s)]):=by
 refine Enzz λW F w hS=>?_;apply ibj;delta SK aI bW ai;obtain⟨ov,nv,hi,hS⟩:=iE.iff.1 hS;refine Gp ?_;unfold km.ready;refine za (λh=>?_) (λh=>?_)
 ·rw[zzc (by omega)];refine Gp ?_;refine Cg (qQ p.rp c.b c.m c.j s.ll s.kB now) λw hS=>?_;have hS:=iE.put s hS hi Xp;(exact dW hS)
 rw[zzb (by omega)];refine Gp ?_;obtain⟨hg,hS⟩:=cWf hS Xr;refine Gp ?_;refine Cg (yQ p.qb c.cap (s.L.map mP)) λw hS=>?_;rw[zzs];have hS:=Gate.fIa hS hg Xp;have hS:=iE.put s hS hi Xp;have e:decide ((0:Int)<(s.L.length:Int))=decide (0<s.L.length):=by rw[yyg];omega
 rw[e];(exact dW hS)
def gin{x:eF}(h:jE x=true):sQ (lu x)= .ok x:=TB h
def eFy{H:bw}{vs:List mA}{L:List eF}{i:Nat}(h:vM H vs (L.take i))(hi:i<L.length){x:mA}(hx:ma H x L[i]):vM H (vs++[x]) (L.take (i+1)):=by
 rw[zze hi];exact h.snoc hx
def Q9(p:wQ)(c:jD)(H:bw)(s:km){gw f:Nat}(hI:uw c gw s f)(hn:s.n=0)(hL:0<s.L.length):
  SP 237 [mV p.wp] [.ob (iE p c H s),.mem H] (λv post=>v= .int .i64 0/\∃H',H.le H'/\post=[.ob (iE p c H' (s.hold c.fW)),.mem H']):=by
 refine Enzz λW F w hS=>?_;apply gWx;delta PG aI bW ia b_ gi ai bI;obtain⟨ov,nv,hi,hS⟩:=iE.iff.1 hS;have lP:=hI.Bf;have oz:=hI.fW;have DR:=hI.room;have tW:=hI.cap;obtain⟨F2,xZ⟩:∃F2,F2=o8 p.rp c.b c.m c.j s.ll s.kB::F:=⟨_,rfl⟩;have hS:=SL.cR hS (t:=.pt p.wp (um p.kp p.qp p.rp c.fW s.held.aw ov nv s.n) 216::.ob (iu p.kp p.gp p.dp p.lp p.pp H s.k)::.ob (Gate p.qp p.qb c.cap s.out (s.L.map mP))::.mem H::o8 p.rp c.b c.m c.j s.ll s.kB::F) Xi;rw[<- xZ]at hS
 have lU:s.hold c.fW=⟨s.k,s.L.drop (min c.fW s.L.length),s.out+min c.fW s.L.length,s.ll,s.kB,oD (s.L.take (min c.fW s.L.length)),min c.fW s.L.length⟩:=by
  unfold km.hold;rw[zzc hn];rcases Nat.le_total c.fW s.L.length with h|h
  ·rw[xxn h]
  rw[Nat.min_eq_right h,yy3 h,zz2 h,yy3 (zzi _),zz2 (zzi _)]
 have hm:∃m,m=min c.fW s.L.length:=⟨_,rfl⟩;obtain⟨m,hm⟩:=hm;rw[<- hm]at lU
 refine⟨λus w=>∃(lv:Ω) (vs:List mA) (H2:bw),us=[lv]/\H.le H2/\vM H2 vs (s.L.take m)/\SL W (.ob (bR lv 214 3 vs.length (vs.map jP).flatten)::.pt p.wp (um p.kp p.qp p.rp c.fW s.held.aw ov nv s.n) 216::.ob (iu p.kp p.gp p.dp p.lp p.pp H2 s.k)::.ob (Gate p.qp p.qb c.cap (s.out+m) ((s.L.drop m).map mP))::.mem H2::F2) w,?_,?_⟩
 ·have hS:=bR.nil (t:=214) (sz:=3) hS;have hS:SL W (.ob (bR (.slice none 0 0) 214 3 ([]:List mA).length (([]:List mA).map jP).flatten)::.pt p.wp (um p.kp p.qp p.rp c.fW s.held.aw ov nv s.n) 216::.ob (iu p.kp p.gp p.dp p.lp p.pp H s.k)::.ob (Gate p.qp p.qb c.cap (s.out+0) ((s.L.drop 0).map mP))::.mem H::F2) w:=hS;refine⟨λus w=>∃(i:Nat) (lv:Ω) (vs:List mA) (H2:bw),us=[lv]/\vs.length=i/\i<=c.fW/\i<=s.L.length/\H.le H2/\vM H2 vs (s.L.take i)/\SL W (.ob (bR lv 214 3 vs.length (vs.map jP).flatten)::.pt p.wp (um p.kp p.qp p.rp c.fW s.held.aw ov nv s.n) 216::.ob (iu p.kp p.gp p.dp p.lp p.pp H2 s.k)::.ob (Gate p.qp p.qb c.cap (s.out+i) ((s.L.drop i).map mP))::.mem H2::F2) w,
   λus _=>match us with|[.slice _ n _]=>c.fW-n|_=>0,⟨0,.slice none 0 0,[],H,rfl,rfl,by omega,by omega,bw.le_refl H,⟨rfl,λj h=>by simp at h⟩,hS⟩,?_⟩
  clear hS;rintro lv w ⟨i,_,vs,H2,gW,LB,pP,d_,kG,Dy,hS⟩;cases gW;obtain⟨a,cp,rfl,_⟩:=bR.at hS .hd;subst LB;refine cF (λh=>?_) (λh=>?_)
  ·refine Gp ?_;by_cases nX:vs.length=s.L.length
   ·have e0:s.L.drop vs.length=[]:=yy3 (by omega);rw[e0,yy4]at hS
    refine Cg (cW0 p.qp p.qb c.cap (s.out+vs.length)) λw hS=>?_;refine zq ?_;have sU:m=vs.length:=by omega
    subst sU;have e1:([]:Θ)=(s.L.drop vs.length).map mP:=by rw[e0];rfl
    rw[e1]at hS
    exact⟨_,vs,H2,rfl,kG,Dy,aW hS⟩
   have rl:vs.length<s.L.length:=by omega
   have hw:=hI.it _ (zzg rl);have dFi:=λ{H3:bw} (kT:H2.le H3) {x:mA} (hx:ma H3 x s.L[vs.length])=>eFy (Dy.mono kT) rl hx;rw[yyq rl,zzn]at hS
   generalize s.L[vs.length]=z at *
   refine Cg (cW1 p.qp p.qb c.cap (s.out+vs.length) (mP z) ((s.L.drop (vs.length+1)).map mP)) λw hS=>?_;refine zp ?_;refine Ye (bs:=lu z) hS yy1 xxm wwj λbv w hS=>?_;refine Cc (YG (.ob (bR bv 5 1 (lu z).length ((lu z).map ic))) H2 bv (lu z) iV.own) ?_;clear hS;rintro r post hq w hS;unfold Bp at hq;rw[gin hw.may]at hq
   obtain⟨x,H3,kT,rfl,hx,rfl⟩:=hq;try simp only[app]at hS
   have hS:=iu.nZ kT hS Xr;refine Gm λb w hS=>?_;refine zr hS Xu rfl rfl (rK hx) λw hS=>?_;refine Gp ?_;refine za (λh=>absurd rfl h) (λ_=>?_);refine zC hS Xh rfl ?_;refine Gb λyb w hS=>?_;refine zI (n:=vs.length) (m:=1) hS Xr (oG (cs:=jP x) hS Xh rfl) rfl rfl (rK hx) (by omega) (by omega) λlv2 w hS=>?_;rw[<- AT]at hS
   rw[show s.out+vs.length+1=s.out+(vs.length+1) by omega]at hS
   have hS:=hS.u7 (xs:=vs) (x:=x);obtain⟨a2,cp2,rfl,_⟩:=bR.at hS .hd;refine⟨⟨vs.length+1,_,vs++[x],H3,rfl,by simp,by omega,by omega,bw.le_trans kG kT,dFi kT hx,aW hS⟩,?_⟩;simp only[zza,zz6];omega
  have sU:m=vs.length:=by omega
  subst sU;exact⟨_,vs,H2,rfl,kG,Dy,aW hS⟩
 clear hS;rintro lv w ⟨_,vs,H2,gW,kG,Dy,hS⟩;cases gW;obtain⟨H3,kT,hR,hS⟩:=zz (H:=H2) (v:=lv) hS Xp;have hS:=iu.nZ kT hS Xr;have iX:s.L.take m≠[]:=λh=>by
  have:=yyu List.length h;rw[zzf,yyo]at this
  omega
 have LB:vs.length=m:=by have:=Dy.len;rw[zzf]at this;omega
 refine Cc (QD H3 lv vs (s.L.take m) hR (Dy.mono kT) (gw:=gw) ⟨λx hx=>hI.it x (yyn hx),hI.od.take _,by rw[zzf];omega⟩ iX) ?_;clear hS;rintro _ post ⟨xv,H4,w_,rfl,hx,rfl⟩ w hS;try simp only[app]at hS
 have hS:=iu.nZ w_ hS Xr;have oC:=hx.aw;obtain⟨xl,xo,xn⟩:=xv;simp only at oC;subst oC;refine Gm λb w hS=>?_;refine zr hS Xu rfl rfl (rK hx) λw hS=>?_;refine Gp ?_;refine za (λ_=>?_) (λh=>absurd rfl h);refine zC hS Xh rfl ?_;refine zo hR ?_;rw[LB];refine Gp ?_;refine Yd (o:=4) (vs:=jP ⟨(oD (s.L.take m)).aw,xo,xn⟩) hS Xu rfl (by show 7<=8;decide) (rK hx) λw hS=>?_;simp only[jP,List.take,List.drop,zzu,zzp]at hS;refine Gn λw hS=>?_;rw[lU];rw[xZ]at hS
 have hS:=iE.jT (p:=p) (c:=c) (held:=oD (s.L.take m)) (n:=m) hS hx Xp;exact⟨_,⟨rfl,H4,bw.le_trans kG (bw.le_trans kT w_),rfl⟩,aW hS⟩
def Q8(kp gp dp lp pp:Nat)(H:bw)(k:gF)(x:mA)(t:eF)(hx:ma H x t)(hi:EE t)(Cl:∀o∈t.ops,pD o.key){N m:Nat}(hk:EH k N m):
  SP 238 [agg [mV kp],agg (jP x)] [.ob (iu kp gp dp lp pp H k),.mem H] (C4 kp gp dp lp pp H (k.kR t)):=by
 refine Enzz λW F w hS=>?_;apply gWy;delta PH a_;refine zw hS λab w hS=>?_;refine zw hS λxb w hS=>?_;refine Gp ?_;refine Cc (YS kp gp dp lp pp H k x t hx hi Cl hk) ?_;clear hS;rintro v post ⟨rfl,H',hh,rfl⟩ w hS;try simp only[app]at hS
 exact⟨_,⟨rfl,H',hh,rfl⟩,aW hS⟩
def aWf(O:bw->km->Η)(H:bw)(y:km × Int × Int)(v:Ω)(post:Ψ):Prop:=v= .tuple #[.int .i64 y.2.1,.int .i64 y.2.2]/\∃H',H.le H'/\post=[O H' y.1,.mem H']
def uw.iok{c:jD}{gw f:Nat}{s:km}(h:uw c gw s f)(hn:0<s.n):jE s.held=true/\EE s.held/\∀o∈s.held.ops,pD o.key:=by
 have h1:=h.room;have h2:=h.out;have h3:=h.cap;rcases h.held with ⟨h4,_⟩|⟨_,h4⟩
 ·omega
 have hm:=(h4.may hn (by omega)).1;exact⟨hm,L1 hm⟩
def eFu{a b c d:Ω}{l:Int}{ov nv e:Ω}:∀j v,([.int .i64 l,ov,nv]:Γ)[j]?=some v->[a,b,c,d,.int .i64 l,ov,nv,e][4+j]?=some v
 | 0,v,h=>h
 | 1,v,h=>h
 | 2,v,h=>h
 | j+3,v,h=>by simp at h
def icp(p:wQ)(c:jD)(H:bw)(s:km)(now draw:Int){gw f N m:Nat}(hI:uw c gw s f)(hf:f<=1000000)(hk:EH s.k N m):
  SP 176 [mV p.wp,.int .i64 now,.int .i64 draw] [.ob (iE p c H s),.mem H] (aWf (λH s=>.ob (iE p c H s)) H (s.step c now draw)):=by
 refine Enzz λW F w hS=>?_;apply gRb;delta OJ aI bW ia b_ gi ai bI;refine Cc (ZN p c H s now) ?_;clear hS;rintro _ post ⟨rfl,rfl⟩ w hS;try simp only[app]at hS
 unfold km.step;cases hr:s.ready now with
 | false=>
  rw[zzb (by decide)];refine Gp ?_;refine zq ?_;exact⟨_,⟨rfl,H,bw.le_refl H,rfl⟩,aW hS⟩
 | true=>
 rw[zzc rfl];refine Gp ?_;refine zp ?_;obtain⟨KF,su⟩:=hI.hold hr;have ub:(s.hold c.fW).k=s.k:=by unfold km.hold;split<;>rfl
 refine⟨λus w=>∃H2,us=[]/\H.le H2/\SL W (.ob (iE p c H2 (s.hold c.fW))::.mem H2::F) w,?_,?_⟩
 ·obtain⟨ov,nv,hi,hS⟩:=iE.open hS Xr;refine Gp ?_;have hS:=iE.put s hS hi Xp;refine za (λh=>?_) (λh=>?_)
  ·have hL:0<s.L.length:=by
    unfold km.ready at hr;rw[zzb (by omega),zzx]at hr
    exact hr
   refine Cc (Q9 p c H s hI (by omega) hL) ?_;clear hS;rintro _ post ⟨rfl,H2,kG,rfl⟩ w hS;(try simp only[app]at hS);refine Gp ?_
   refine za (λh=>absurd rfl h) (λ_=>?_);exact⟨H2,rfl,kG,aW hS⟩
  have e:s.hold c.fW=s:=by unfold km.hold;rw[zzb (by omega)]
  rw[e];exact⟨H,rfl,bw.le_refl H,aW hS⟩
 clear hS;rintro w ⟨H2,-,kG,hS⟩;rw[<- ub]at hk
 clear hI ub hr;generalize s.hold c.fW=s1 at *
 obtain⟨ov,nv,hi,hS⟩:=iE.open hS Xr;obtain⟨hm,K4,Cl⟩:=KF.iok su;have y_:=KF.f0;have DD:=KF.f1;have hg:=UU s1.n s1.out;refine Gn λw hS=>?_;refine yD (vs:=[mV p.kp]) hS Xh rfl (λj v h=>?_) ?_
 ·match j,h with
  | 0,h=>exact h
  | j+1,h=>simp at h
 refine Gp ?_;refine yD (vs:=[.int .i64 s1.held.aw,ov,nv]) hS Xh rfl eFu ?_;have hI2:ma H2 ⟨s1.held.aw,ov,nv⟩ s1.held:=hi;refine Cc (Q8 p.kp p.gp p.dp p.lp p.pp H2 s1.k ⟨s1.held.aw,ov,nv⟩ s1.held hI2 K4 Cl hk) ?_;clear hS;rintro _ post ⟨rfl,H3,kT,rfl⟩ w hS;try simp only[app]at hS
 have tT:=bw.le_trans kG kT;have VB:=hi.mono kT;unfold km.hand;generalize s1.k.kR s1.held=y at *
 obtain⟨k',e⟩:=y;simp only at hS ⊢;refine cF (λh0=>?_) (λh0=>?_)
 ·rw[zzc h0];refine Gn λw hS=>?_;refine Cg (Qq s1.n p.qp p.qb c.cap s1.out (s1.L.map mP)) λw hS=>?_;refine Cg (QY p.rp c.b c.m c.j s1.ll s1.kB) λw hS=>?_;refine Yd (o:=4) (vs:=[.int .i64 0,.slice none 0 0,.slice none 0 0]) hS Xu rfl (by show 7<=8;decide) (by simp[Value.oneCell']) λw hS=>?_;simp only[List.take,List.drop,zzu,zzp]at hS;refine Gn λw hS=>?_;have hS:SL W (_::_::_::_::.pt p.wp (um p.kp p.qp p.rp c.fW sY.aw (.slice none 0 0) (.slice none 0 0) 0) 216::_) w:=hS;have hS:=iE.jT (p:=p) (c:=c) (H:=H3) (L:=s1.L) (held:=sY) (n:=0) (ov:=.slice none 0 0) (nv:=.slice none 0 0) hS ⟨rfl,iD.nil _ _,iD.nil _ _⟩ Xp;exact⟨_,⟨rfl,H3,tT,rfl⟩,aW hS⟩
 rw[zzb h0];refine cF (λh9=>?_) (λh9=>?_)
 ·rw[zzc h9];refine Gp ?_;refine Cg (Q1 p.rp c.b c.m c.j s1.ll s1.kB now draw (by omega)) λw hS=>?_;have hS:=iE.jT (p:=p) (c:=c) (H:=H3) (L:=s1.L) (held:=s1.held) hS VB Xp;exact⟨_,⟨rfl,H3,tT,rfl⟩,aW hS⟩
 rw[zzb h9];have hS:=iE.jT (p:=p) (c:=c) (H:=H3) (L:=s1.L) (held:=s1.held) hS VB Xp;exact⟨_,⟨rfl,H3,tT,rfl⟩,aW hS⟩
def bwo(s:Β):s=ji s.data.toList:=by cases s;simp[ji]
def bwn(l:Δ):(ji l).data.toList=l:=by simp[ji]
def awl{l:Δ}{k:Nat}{kk:IntKind}{K:Ω->Prop}(hk:k<=l.length)(h:K (.string (ji (l.take k)))):Zp (.string (ji l)) none (some (.int kk (k:Int))) K:=by
 refine⟨ji l,0,k,rfl,⟨kk,rfl⟩,rfl,zz8 _,by rw[sa];exact hk,?_⟩;have:(ji l).extract 0 k=ji (l.take k):=by apply ByteArray.ext;simp[ji,ByteArray.data_extract]
 rw[this];exact h
def awm{l:Δ}{k:Nat}{kk:IntKind}{K:Ω->Prop}(hk:k<=l.length)(h:K (.string (ji (l.drop k)))):Zp (.string (ji l)) (some (.int kk (k:Int))) none K:=by
 refine⟨ji l,k,(ji l).size,rfl,rfl,⟨kk,rfl⟩,by rw[sa];exact hk,zzi _,?_⟩;have:(ji l).extract k (ji l).size=ji (l.drop k):=by
  apply ByteArray.ext;rw[sa];simp[ji,ByteArray.data_extract];rw[zz2 (by rw[zzq];omega)]
 rw[this];exact h
def I4{P:Program}{w:Α}{t:Ε}{l:Δ}{j:Nat}{k:IntKind}{K:Ω->Prop}(ht:P.underlying t=some .string)(hj:j<l.length)(h:K (.int .u8 (l[j]).toNat)):jY P (Instr.index t (.string (ji l)) (.int k (j:Int))) w K:=by
 have e:(ji l)[j]'(by rw[sa];exact hj)=l[j]:=by simp[ji,ByteArray.getElem_eq_getElem_data]
 exact awn ht (by rw[sa];exact hj) (by rw[e];exact h)
def ZY(l p:Δ):SP 314 [.string (ji l),.string (ji p)] [] (e_ (.bool (decide (l.take p.length=p))) []):=by
 refine Enzz λW F w hS=>?_;apply h_k;delta RC aI cW;refine Gp ?_;rw[sa,sa];refine za (λh=>?_) (λh=>?_)
 ·refine Gp ?_;rw[sa];refine awl (by omega) ?_;refine Gp ?_;rw[show decide (ji (l.take p.length)=ji p)=decide (l.take p.length=p) by rw[yyg];exact TA];(exact dW hS)
 rw[zzz λe=>by
  have:=yyu List.length e;rw[zzf]at this
  omega]
 (exact dW hS)
def ZO(l p:Δ):SP 255 [.string (ji l),.string (ji p)] [] (e_ (.tuple #[.string (ji (if l.take p.length=p then l.drop p.length else l)),.bool (decide (l.take p.length=p))]) []):=by
 refine Enzz λW F w hS=>?_;apply g_b;delta PV gi;refine Cg (ZY l p) λw hS=>?_;refine zu (λh=>?_) (λh=>?_)
 ·have h:=yyz h;rw[zzb h,zzz h];(exact dW hS)
 have h:=zzl h;rw[zzc h,zzm h];refine Gp ?_;rw[sa];refine awm ?_ ?_
 ·have:=yyu List.length h;rw[zzf]at this
  omega
 (exact dW hS)
def ZV(l p:Δ):SP 187 [.string (ji l),.string (ji p)] [] (e_ (.tuple #[.string (ji (if l.take p.length=p then l.drop p.length else l)),.bool (decide (l.take p.length=p))]) []):=by
 refine Enzz λW F w hS=>?_;apply gRm;unfold OU;refine Cg (ZO l p) λw hS=>?_;(exact dW hS)
def cIh(l:Δ)(c:Ζ):firstIdx (ji l) c=pC (l.findIdx? λx=>decide (x=c)):=by
 have mh:∀i,i<l.length->(ji l)[i]! = l[i]!:=λi hi=>by
  have h2:i<(ji l).size:=by rw[sa];exact hi
  rw[wwt (ji l) i h2,wwt l i hi];simp[ji,ByteArray.getElem_eq_getElem_data]
 unfold firstIdx;rw[sa];cases hf:l.findIdx? (λx=>decide (x=c)) with
 | none=>
  have h1:=xxl.1 hf;have:(List.range l.length).find? (λi=>(ji l)[i]! == c)=none:=by
   rw[List.find?_range_eq_none];intro i hi;rw[mh i hi,wwt l i hi];have:=yyz (h1 _ (zzg hi));simpa using this
  rw[this];rfl
 | some j=>
  obtain⟨hj,hk,vp⟩:=yyk.1 hf;have:(List.range l.length).find? (λi=>(ji l)[i]! == c)=some j:=by
   rw[List.find?_range_eq_some];refine⟨?_,List.mem_range.2 hj,λi hi=>?_⟩
   ·rw[mh j hj,wwt l j hj];simpa using hk
   rw[mh i (by omega),wwt l i (by omega)];have:=vp i hi;simpa using this
  rw[this];rfl
def Z0(l:Δ)(c:Ζ):SP 361 [.string (ji l),.int .u8 c.toNat] [] (e_ (.int .i64 (pC (l.findIdx? λx=>decide (x=c)))) []):=by
 refine Enzz λW F w hS=>?_;apply iah;unfold R_;refine⟨.int .i64 (pC (l.findIdx? λx=>decide (x=c))),w,?_,?_⟩
 ·have:=run_callFunc_extern Tryz.func390 (by kernel_rfl) (by kernel_rfl) (by kernel_rfl) (e:=Extern.BytealgIndexByte.indexByte) (by kernel_rfl) #[.string (ji l),.int .u8 c.toNat] w;rw[this,run_indexByte_string,cIh,show ((c.toNat:Int).toNat.toUInt8)=c by simp];rfl
 (exact dW hS)
def qr(l:Δ)(c:Ζ):SP 315 [.string (ji l),.string (ji [c])] [] (e_ (.int .i64 (pC (l.findIdx? λx=>decide (x=c)))) []):=by
 refine Enzz λW F w hS=>?_;apply h_l;delta RD aI ai;refine Gp ?_;refine⟨λ_ _=>False,?_,λw h=>h.elim⟩;rw[sa];refine Gp ?_;refine za (λh=>absurd h (by simp)) (λ_=>?_);refine cF (λh=>?_) (λ_=>?_)
 ·have h:=TA.1 h;rw[<- h];exact⟨_,⟨by simp[pC],rfl⟩,hS⟩
 refine Gp ?_;refine za (λ_=>?_) (λh=>absurd (by simp) h);refine I4 (j:=0) yy1 (by simp) ?_;refine Cg (Z0 l c) λw hS=>?_;(exact dW hS)
def p_(l:Δ)(c:Ζ):Δ × Δ × Bool:=match l.findIdx? (λx=>decide (x=c)) with
 | none=>(l,[],false)
 | some i=>(l.take i,l.drop (i+1),true)
def bId(l:Δ)(c:Ζ)(hl:l.length<=4611686018427387904):SP 256 [.string (ji l),.string (ji [c])] [] (e_ (.tuple #[.string (ji (p_ l c).1),.string (ji (p_ l c).2.1),.bool (p_ l c).2.2]) []):=by
 refine Enzz λW F w hS=>?_;apply g_c;delta PW aI ai;refine Cg (qr l c) λw hS=>?_;unfold p_;cases hf:l.findIdx? (λx=>decide (x=c)) with
 | none=>
  simp only[pC];refine za (λh=>absurd h (by decide)) (λ_=>?_);exact⟨_,⟨rfl,rfl⟩,hS⟩
 | some i=>
  have hi:=(yyk.1 hf).1;simp only[pC];refine za (λ_=>?_) (λh=>by omega);refine Gn λw hS=>?_;refine awl (by omega) ?_;refine Gp ?_;rw[sa];have e:([c]:Δ).length=1:=rfl;rw[e];refine Gp ?_;refine awm (by omega) ?_;exact⟨_,⟨rfl,rfl⟩,hS⟩
def bIc(l:Δ)(c:Ζ)(hl:l.length<=4611686018427387904):SP 188 [.string (ji l),.string (ji [c])] [] (e_ (.tuple #[.string (ji (p_ l c).1),.string (ji (p_ l c).2.1),.bool (p_ l c).2.2]) []):=by
 refine Enzz λW F w hS=>?_;apply gRn;unfold OV;refine Cg (bId l c hl) λw hS=>?_;(exact dW hS)
def sR(l:Δ)(a b:Nat):Int:=match l with
 | [d]=>if a<=d.toNat/\d.toNat<=b then (d.toNat:Int)-48 else -1
 | _=>-1
def giq:∀n:Fin 256,48<=n.1->IntKind.i64.wrap (IntKind.u8.wrap ((n.1:Int)-48))=(n.1:Int)-48:=by decide
def f_f{d:Ζ}{K:Ω->Prop}(hd:48<=d.toNat)(h:K (.int .i64 ((d.toNat:Int)-48))):zc .sub (.int .u8 d.toNat) (.int .u8 48) λv=>zJ .i64 v K:=by
 refine⟨_,rfl,_,_,rfl,?_⟩;rw[giq ⟨d.toNat,d.toNat_lt⟩ hd];exact h
def ZW(l:Δ)(a b:Nat)(ha:48<=a):SP 189 [.string (ji l),.int .u8 a,.int .u8 b] [] (e_ (.int .i64 (sR l a b)) []):=by
 refine Enzz λW F w hS=>?_;apply gRo;delta OW aI ai;refine Gp ?_;rw[sa];refine za (λh=>?_) (λh=>?_)
 ·have e:sR l a b = -1:=by
   unfold sR;split
   ·simp at h
   rfl
  rw[e];(exact dW hS)
 obtain⟨d,rfl⟩:∃d,l=[d]:=List.length_eq_one_iff.1 (by omega);refine I4 (j:=0) yy1 (by simp) ?_;show zc .lss (.int .u8 d.toNat) (.int .u8 a) _;refine cF (λh1=>?_) (λh1=>?_)
 ·rw[show sR [d] a b = -1 from zzb (by omega)];(exact dW hS)
 refine I4 (j:=0) yy1 (by simp) ?_;show zc .gtr (.int .u8 d.toNat) (.int .u8 b) _;refine cF (λh2=>?_) (λh2=>?_)
 ·rw[show sR [d] a b = -1 from zzb (by omega)];(exact dW hS)
 refine I4 (j:=0) yy1 (by simp) ?_;refine f_f (d:=d) (by omega) ?_;rw[show sR [d] a b=(d.toNat:Int)-48 from zzc (by omega)];(exact dW hS)
def Uh{l:Δ}{a b:Nat}(h:l.length≠1):sR l a b = -1:=by
 unfold sR;split
 ·simp at h
 rfl
def Kb{d:Ζ}{a b:Nat}(h:48<=a):sR [d] a b<0↔¬(a<=d.toNat/\d.toNat<=b):=by
 show (if a<=d.toNat/\d.toNat<=b then (d.toNat:Int)-48 else -1)<0↔_;split<;>omega
def Ea(r:Δ):Option (Int × Int):=
 let c:=p_ r 32
 if sR c.1 48 55<0\/(if c.2.2=true then sR c.2.1 49 56 else 1)<0 then none else some (sR c.1 48 55,if c.2.2=true then sR c.2.1 49 56 else 1)
def Hf{d:Ζ}{a b:Nat}(h:a<=d.toNat/\d.toNat<=b):sR [d] a b=(d.toNat:Int)-48:=zzc h
def aFx{d:Ζ}:d.toNat=32↔d=32:=⟨λh=>UInt8.toNat_inj.1 h,λh=>by rw[h];rfl⟩
def Gl{r:Δ}(h:(p_ r 32).1.length≠1\/((p_ r 32).2.2=true/\(p_ r 32).2.1.length≠1)):Ea r=none:=by
 unfold Ea;simp only;rw[zzc];rcases h with h|⟨h,h2⟩
 ·left;rw[Uh h];decide
 right;rw[zzc h,Uh h2];decide
def wU(d:Ζ)(r:Δ):p_ (d::r) 32=if d=32 then ([],r,true) else (d::(p_ r 32).1,(p_ r 32).2.1,(p_ r 32).2.2):=by
 unfold p_;rw[List.findIdx?_cons];by_cases hd:d=32
 ·simp[hd]
 rw[zzb (by simpa using hd),zzb hd];cases r.findIdx? (λx=>decide (x=32))<;>simp
def fFm(r:Δ):Bj r=Ea r:=by
 match r with
 | []=>rw[Gl (.inl (by decide))];rfl
 | [d]=>
  by_cases hd:d=32
  ·subst hd;decide
  have hc:p_ [d] 32=([d],[],false):=by rw[wU,zzb hd];rfl
  unfold Ea Bj;rw[hc];simp only;have:=Kb (d:=d) (a:=48) (b:=55) (by decide);by_cases h:48<=d.toNat/\d.toNat<=55
  ·rw[zzc h,zzb (λx=>x.elim (λh2=>by rw[Hf h]at h2;omega) (λh2=>absurd h2 (by decide))),Hf h];rfl
  rw[zzb h,zzc (.inl (this.2 h))]
 | [d,s]=>
  have e:Bj [d,s]=none:=rfl;rw[e,Gl];rw[wU];by_cases hd:d=32
  ·rw[zzc hd];left;simp
  rw[zzb hd,wU];by_cases hs:s=32
  ·rw[zzc hs];right;exact⟨rfl,by simp⟩
  rw[zzb hs];left;simp
 | [d,s,e]=>
  by_cases hd:d=32
  ·have e1:Bj [d,s,e]=none:=zzb (by rw[hd];simp);rw[e1,Gl];rw[wU,zzc hd];left;simp
  by_cases hs:s=32
  ·have hc:p_ [d,s,e] 32=([d],[e],true):=by rw[wU,zzb hd,wU,zzc hs]
   unfold Ea Bj;rw[hc];simp only[ww7];have h1:=Kb (d:=d) (a:=48) (b:=55) (by decide);have h2:=Kb (d:=e) (a:=49) (b:=56) (by decide);by_cases h:(48<=d.toNat/\d.toNat<=55)/\49<=e.toNat/\e.toNat<=56
   ·rw[zzc ⟨h.1,aFx.2 hs,h.2⟩,zzb (by omega),Hf h.1,Hf h.2]
   rw[zzb (λx=>h ⟨x.1,x.2.2⟩),zzc (by omega)]
  have e1:Bj [d,s,e]=none:=zzb (λx=>hs (aFx.1 x.2.1));rw[e1,Gl];rw[wU,zzb hd,wU,zzb hs];left;simp
 | d::s::e::f::t=>
  have e1:Bj (d::s::e::f::t)=none:=rfl;rw[e1,Gl];rw[wU];by_cases hd:d=32
  ·rw[zzc hd];left;simp
  rw[zzb hd,wU];by_cases hs:s=32
  ·rw[zzc hs];right;exact⟨rfl,by simp⟩
  rw[zzb hs];left;simp
def aww(o:Option (Int × Int)):Ω:=.tuple #[agg [.int .i64 (o.getD (0,0)).1,.int .i64 (o.getD (0,0)).2],.bool o.isSome]
def QC(s:Β)(hs:s.size<=4611686018427387904):SP 124 [.string s] [] (e_ (aww (IJ s)) []):=by
 refine Enzz λW F w hS=>?_;apply gF2;delta NY aI a_ gi ai;rw[bwo s]at hs ⊢
 generalize hl:s.data.toList=l at *
 rw[sa]at hs
 unfold IJ;rw[bwn];refine Gb λrb w hS=>?_;refine Cg (ZV l AB) λw hS=>?_;by_cases hp:l.take AB.length=AB
 ·rw[zzc hp,zzm hp,show l.take 9=AB from hp,zzc rfl];refine zp ?_;refine Cg (bIc (l.drop AB.length) 32 (by rw[zzq];omega)) λw hS=>?_;rw[fFm,show l.drop 9=l.drop AB.length from rfl];generalize l.drop AB.length=r at *
  unfold Ea;generalize p_ r 32=c at *
  obtain⟨A,B,q⟩:=c;simp only at hS ⊢;refine Cc (ZW A 48 55 (by decide)) ?_;clear hS;rintro _ post ⟨rfl,rfl⟩ w hS;try simp only[app]at hS
  refine Gm λnb w hS=>?_;refine⟨λus w=>us=[]/\SL W (.pt nb [.int .i64 (sR A 48 55),.int .i64 (if q=true then sR B 49 56 else 1)] 227::.pt rb [.int .i64 0,.int .i64 0] 227::F) w,?_,?_⟩
  ·refine yF (λhq=>?_) (λhq=>?_)
   ·rw[zzc hq];refine Cg (ZW B 49 56 (by decide)) λw hS=>?_;(first|exact aW hS|exact⟨rfl,aW hS⟩)
   rw[zzb (by simp[hq])];exact⟨rfl,aW hS⟩
  clear hS;rintro w ⟨-,hS⟩;refine cF (λh=>?_) (λh=>?_)
  ·rw[zzc (.inl h)];refine Gn λw hS=>?_;exact dW hS
  refine cF (λh2=>?_) (λh2=>?_)
  ·rw[zzc (.inr h2)];refine Gn λw hS=>?_;exact dW hS
  rw[zzb (by omega)];refine Gn λw hS=>?_;exact dW hS
 rw[zzz hp,zzb (show ¬l.take 9=AB from hp)];refine zq ?_;refine Gn λw hS=>?_;exact dW hS
def eFf{P:Program}{T:List Bool}{f g:FuncId}{sz:Nat}{α:Type}{enc:α->Γ}(hn:∀x,(enc x).length=sz)(hT:T.getD g false=true){cap:Array Ω}{c:Η}{q:α->Bool}{H:bw}
  (vc:∀v0 v1 w R,GZ P T sz v0 v1 w R->zQ P f [v0,v1] w R) (one:∀x,Spec P g ([agg (enc x)]++cap.toList) [c] (e_ (.bool (q x)) [c]))
  (v:Ω) (xs:List α) (hv:iD H sz v xs.length (xs.map enc).flatten) (hl:xs.length<=9223372036854775806) :
  Spec P f [v,.func (.func g) #[] cap] [c,.mem H] (e_ (.int .i64 (pC (xs.findIdx? q))) [c,.mem H]):=by
 intro W F w hS;apply vc;unfold GZ;have hS:SL W (c::.mem H::F) w:=hS;refine zo hv ?_;refine⟨λvs w=>∃k:Nat,vs=[.int .i64 k]/\k<=xs.length/\(∀j (h:j<xs.length),j<k->q xs[j]=false)/\SL W (c::.mem H::F) w,λvs _=>match vs with|[.int _ k]=>(xs.length-k).toNat|_=>0,⟨0,rfl,by omega,λj h hj=>by omega,hS⟩,?_⟩;clear hS;rintro v8 w ⟨k,hv,hk,hq,hS⟩;cases hv;refine cF (λh=>?_) (λh=>?_)
 ·have pQ:k<xs.length:=by omega
  refine zE hS Xh hn ‹_› (x:=xs[k]) (by simp[pQ]) pQ ?_;refine yf (args':=[agg (enc xs[k])]++cap.toList) hT (one xs[k]) (by simp) hS Xp ?_;clear hS;rintro _ post ⟨rfl,rfl⟩ w hS;try simp only[app]at hS
  cases FP:q xs[k] with
  | true=>
   refine zq ?_;have e:xs.findIdx? q=some k:=yyk.2 ⟨pQ,FP,λj hj=>by rw[hq j (by omega) hj];decide⟩;rw[e];exact⟨_,⟨rfl,rfl⟩,hS⟩
  | false=>
   refine zp ?_;refine Gp ?_;refine⟨⟨k+1,rfl,by omega,λj h hj=>?_,hS⟩,by dsimp only;omega⟩;rcases xxv j k with FE|FE
   ·exact hq j h FE
   obtain rfl:j=k:=by omega
   exact FP
 have e:xs.findIdx? q=none:=xxl.2 λx hx=>by
  obtain⟨j,hj,rfl⟩:=yy5.1 hx;exact hq j hj (by omega)
 rw[e];exact⟨_,⟨rfl,rfl⟩,hS⟩
structure iK.Ok(m:iK):Prop where
 reqs:lr m.reqs
 t1:1<=m.tables/\m.tables<=8
 rows:m.dI.rows.length<=1000
 rI:0<=m.at_/\m.at_<=1099511627776
abbrev CQ(m:iK)(wp:Nat)(rv:Ω):Γ:=[fw wp,.int .i64 m.tables,.int .i64 m.late,.int .i64 m.at_,rv]
def ie(mp wp:Nat)(H:bw)(m:iK):zB:=nT λrv:Ω=>zG (nh H rv m.reqs) [.pt mp (CQ m wp rv) 121,.ob (iN wp m.dI)]
section
variable {W w:Α} {l F:Ψ} {mp wp:Nat} {H H':bw}
def ie.iff{m:iK}:SL W (.ob (ie mp wp H m)::l) w↔∃rv,nh H rv m.reqs/\SL W (.pt mp (CQ m wp rv) 121::.ob (iN wp m.dI)::l) w:=by
 unfold ie;simp only[SL.ex,SL.fact,zzu,zzp]
def ie.put(m:iK)(rv:Ω)(hr:nh H rv m.reqs)(hS:SL W l w)(p:lJ [.pt mp (CQ m wp rv) 121,.ob (iN wp m.dI)] l F):SL W (.ob (ie mp wp H m)::F) w:=ie.iff.2 ⟨rv,hr,hS.pick p⟩
def ie.nZ{m:iK}(hh:H.le H')(hS:SL W l w)(r:lg (.ob (ie mp wp H m)) l F):SL W (.ob (ie mp wp H' m)::F) w:=by
 obtain⟨rv,h1,h2⟩:=ie.iff.1 (hS.perm r.perm);exact ie.iff.2 ⟨rv,h1.mono hh,h2⟩
end
def Yn(H:bw)(v:Ω)(L:List Rq)(tables aw:Int)(hv:nh H v L)(hn:L.length<=1000):
  SP 205 [v,.int .i64 tables,.int .i64 aw] [.mem H] (λu post=>∃q:Bool,u= .bool q/\(q=true↔lr L/\∀r∈L,r.table<tables/\r.at_<=aw)/\post=[.mem H]):=by
 refine Enzz λW F w hS=>?_;apply gR1;delta O9 aI a_ cW ai;refine zo hv ?_;refine⟨λus w=>∃i:Nat,us=[.int .i64 i]/\i<=L.length/\(∀j (h:j<L.length),j<i->L[j].table<tables/\L[j].at_<=aw)/\SL W (.mem H::F) w,λus _=>match us with|[.int _ i]=>(L.length-i).toNat|_=>0,⟨0,rfl,by omega,λj h hj=>by omega,hS⟩,?_⟩;clear hS;rintro v11 w ⟨i,gW,hi,jJ,hS⟩;cases gW;refine cF (λh=>?_) (λh=>?_)
 ·have d_:i<L.length:=by omega
  have hx:L[i]?=some L[i]:=zzd d_;have hm:=zzg d_;refine zE hS Xh tm hv hx d_ ?_;have ud:L[i].table<tables/\L[i].at_<=aw->∀j (h:j<L.length),j<i+1->L[j].table<tables/\L[j].at_<=aw:=λh j hj m_=>by
   rcases xxv j i with h2|h2
   ·exact jJ j hj h2
   obtain rfl:j=i:=by omega
   exact h
  generalize L[i]=r at *
  refine Gb λxb w hS=>?_;refine za (λh2=>⟨_,⟨false,rfl,⟨(λe=>by cases e),λx=>by have:=(x.2 r hm).1;omega⟩,rfl⟩,aW hS⟩) (λh2=>?_);refine Gp ?_;refine za (λh3=>⟨_,⟨false,rfl,⟨(λe=>by cases e),λx=>by have:=(x.2 r hm).2;omega⟩,rfl⟩,aW hS⟩) (λh3=>?_);refine Gp ?_;exact⟨⟨i+1,rfl,by omega,ud ⟨by omega,by omega⟩,aW hS⟩,by dsimp only;omega⟩
 refine Cc (Zi H v L hv (by omega)) ?_;clear hS;rintro _ post ⟨q,rfl,hq,rfl⟩ w hS;try simp only[app]at hS
 refine⟨_,⟨q,rfl,hq.trans ⟨λx=>⟨x,λr hr=>?_⟩,λx=>x.1⟩,rfl⟩,hS⟩;obtain⟨j,hj,rfl⟩:=yyi hr;exact jJ j hj (by omega)
def Nu(H:bw)(tables late chunk aw:Int)(L:List Rq)(v:Ω)(post:Ψ):Prop:=
 (Gg tables late chunk aw L/\(∃e:Int,e≠0/\v= .tuple #[.pointer none,.int .i64 e])/\post=[.mem H]) \/
 (¬Gg tables late chunk aw L/\∃(mp wp:Nat) (H':bw),H.le H'/\v= .tuple #[fw mp,.int .i64 0]/\post=[.ob (ie mp wp H' ⟨tables,late,aw,L,rY chunk⟩),.mem H'])
def e_o(H:bw)(tables late chunk aw:Int)(v:Ω)(L:List Rq)(hv:nh H v L)(hn:L.length<=1000):
  SP 148 [.int .i64 tables,.int .i64 late,.int .i64 chunk,.int .i64 aw,v] [.mem H] (Nu H tables late chunk aw L):=by
 refine Enzz λW F w hS=>?_;apply gIi;delta Oc aI gi ai h_ bI;have kz:∀{e:Int} {w:Α},e≠0->Gg tables late chunk aw L->SL W (.mem H::F) w->∃post,Nu H tables late chunk aw L (.tuple #[.pointer none,.int .i64 e]) post/\SL W (app post F) w:=λhe h hS=>⟨_,.inl ⟨h,⟨_,he,rfl⟩,rfl⟩,hS⟩;refine Gp ?_;refine za (λh=>kz (by decide) (.inl h) hS) (λh1=>?_);refine Gp ?_;refine za (λh=>kz (by decide) (.inr (.inl h)) hS) (λh2=>?_);refine Gp ?_;refine za (λh=>kz (by decide) (.inr (.inr (.inl h))) hS) (λh3=>?_);obtain⟨n,rfl⟩:∃n:Nat,tables=n:=⟨tables.toNat,by omega⟩;have igk:(2:Int) ^ n<=256:=by
  have:n<=8:=by omega
  match n,this with
  | 0,_=>decide
  | 1,_=>decide
  | 2,_=>decide
  | 3,_=>decide
  | 4,_=>decide
  | 5,_=>decide
  | 6,_=>decide
  | 7,_=>decide
  | 8,_=>decide
 have Cu:(0:Int)<2 ^ n:=Int.pow_pos (by decide);refine QQ (by omega) (by omega) ?_;rw[Int.one_mul];refine Gp ?_;refine za (λh=>kz (by decide) (.inr (.inr (.inr (.inl (by rw[zzv];exact h))))) hS) (λh4=>?_);refine Gp ?_;refine za (λh=>kz (by decide) (.inr (.inr (.inr (.inr (.inl h))))) hS) (λh5=>?_);refine Gp ?_;refine za (λh=>kz (by decide) (.inr (.inr (.inr (.inr (.inr (.inl h)))))) hS) (λh6=>?_);refine Cc (Yn H v L n aw hv hn) ?_;clear hS;rintro _ post ⟨q,rfl,hq,rfl⟩ w hS;(try simp only[app]at hS);refine Gp ?_
 refine zu (λhe=>?_) (λhe=>?_)
 ·refine kz (by decide) (.inr (.inr (.inr (.inr (.inr (.inr (.inr (.inr ?_)))))))) hS;by_cases hm:lr L
  ·right;refine Classical.byContradiction λhx=>?_;have:q=true:=hq.2 ⟨hm,λr hr=>by
    refine⟨Int.not_le.1 λh=>hx ⟨r,hr,.inl h⟩,Int.not_lt.1 λh=>hx ⟨r,hr,.inr h⟩⟩⟩
   rw[he]at this;cases this
  exact .inl hm
 obtain⟨hm,jJ⟩:=hq.1 he;refine Cc (icj chunk) ?_;clear hS;rintro r post oB w hS;rcases oB with ⟨h7,rfl,rfl⟩|⟨h7,wp,rfl,rfl⟩
 ·(try simp only[app]at hS);refine Gp ?_
  refine za (λ_=>?_) (λh=>absurd (by decide) h);exact kz (by decide) (.inr (.inr (.inr (.inr (.inr (.inr (by omega))))))) hS
 (try simp only[app]at hS);refine Gp ?_
 refine za (λh=>absurd rfl h) (λ_=>?_);refine yT (cells:=[fw wp]) (by simp[mq,Value.cells,fw]) ?_;refine Cc (z7 H v L hv hn) ?_;clear hS;rintro u post rfl w hS;try simp only[app]at hS
 obtain⟨H1,iA,hR,hS⟩:=zz (H:=H) (v:=u) hS Xp;have hu:u.oneCell'=true:=hR.one;refine yT (cells:=[fw wp,.int .i64 n,.int .i64 late,.int .i64 aw,u]) (by simp[mq,show ∀n,(Value.int .i64 n).cells = #[.int .i64 n] from λ_=>rfl,show ∀v,(Value.agg #[v]).cells = #[v] from λ_=>rfl,D9 hu]) ?_;refine⟨_,rfl,zD hS λmp w hS=>?_⟩;have eW:¬Gg n late chunk aw L:=by
  rintro (h|h|h|h|h|h|h|h|h|⟨r,hr,h⟩)
  ·exact h1 h
  ·exact h2 h
  ·exact h3 h
  ·rw[zzv]at h;exact h4 h
  ·exact h5 h
  ·exact h6 h
  ·omega
  ·omega
  ·exact h hm
  have:=jJ r hr;omega
 have hS:=ie.put (wp:=wp) ⟨n,late,aw,L,rY chunk⟩ u hR hS Xp;exact⟨_,.inr ⟨eW,mp,wp,H1,iA,rfl,rfl⟩,aW hS⟩
section
variable (mp wp:Nat) (H:bw) (m:iK)
def yR:SP 51 [fw mp] [.ob (ie mp wp H m)] (e_ (.int .i64 m.at_) [.ob (ie mp wp H m)]):=by
 refine Enzz λW F w hS=>?_;apply ia6;delta Sx bW;obtain⟨rv,hr,hS⟩:=ie.iff.1 hS;refine Gp ?_;exact⟨_,⟨rfl,rfl⟩,SL.cR (ie.put m rv hr hS Xp) Xi⟩
def yM(hn:m.reqs.length<=1000):SP 75 [fw mp] [.ob (ie mp wp H m),.mem H] (λu post=>post=[.ob (bR u 98 7 m.reqs.length (m.reqs.map mL).flatten),.ob (ie mp wp H m),.mem H]):=by
 refine Enzz λW F w hS=>?_;apply ibr;delta SV bW;obtain⟨rv,hr,hS⟩:=ie.iff.1 hS;refine Gp ?_;refine Cc (z7 H rv m.reqs hr hn) ?_;clear hS;rintro u post rfl w hS;try simp only[app]at hS
 exact⟨_,rfl,SL.cR (ie.put m rv hr hS Xp) Xi⟩
def YD:SP 46 [agg [fw wp]] [] (e_ (fw wp) []):=by
 refine Enzz λW F w hS=>?_;apply ia1;delta Sr a_;refine zw hS λxb w hS=>?_;refine Gp ?_;exact dW hS
def ZG(k:iM)(x:s9):SP 63 [agg [fw wp],agg (kJ x)] [.ob (iN wp k)] (e_ (.bool (k.waits x.kind x.mark)) [.ob (iN wp k)]):=by
 refine Enzz λW F w hS=>?_;apply ibh;delta SI a_;refine zw hS λxb w hS=>?_;refine zw hS λyb w hS=>?_;refine Gp ?_;refine Cg (qV wp k x) λw hS=>?_;exact dW hS
def bw1(b:Nat)(t:Int)(r:Rq):SP 337 ([agg (mL r)]++(#[fw b]:Array Ω).toList) [.pt b [.int .i64 t] 3] (e_ (.bool (decide (r.table=t))) [.pt b [.int .i64 t] 3]):=by
 refine Enzz λW F w hS=>?_;apply h_3;delta RW a_;refine zw hS λxb w hS=>?_;unfold mL at hS;refine Gp ?_;exact dW hS
def a_w{α:Type}{l:List α}{q:α->Bool}:decide (0<=pC (l.findIdx? q))=l.any q:=by
 cases h:l.findIdx? q with
 | none=>
  have:=xxl.1 h;rw[show l.any q=false by rw[List.any_eq_false];exact λx hx=>by rw[this x hx];decide];rfl
 | some i=>
  obtain⟨hi,hk,_⟩:=yyk.1 h;rw[show l.any q=true from List.any_eq_true.2 ⟨_,zzg hi,hk⟩];exact zzm (by simp only[pC];omega)
def Yl(hn:m.reqs.length<=1000)(t:Int):SP 292 [fw mp,.int .i64 t] [.ob (ie mp wp H m),.mem H] (e_ (.bool (m.captured t)) [.ob (ie mp wp H m),.mem H]):=by
 refine Enzz λW F w hS=>?_;apply g_2;delta Rk aI bW cW ai;obtain⟨rv,hr,hS⟩:=ie.iff.1 hS;unfold iK.captured;refine⟨rfl,zD hS λb w hS=>?_⟩;refine Gn λw hS=>?_;refine za (λh=>?_) (λh1=>?_)
 ·rw[zzz (by omega),uu3];exact⟨_,⟨rfl,rfl⟩,SL.cR (ie.put m rv hr hS Xp) Xi⟩
 refine cF (λh=>?_) (λh2=>?_)
 ·rw[zzz (by omega),uu3];exact⟨_,⟨rfl,rfl⟩,SL.cR (ie.put m rv hr hS Xp) Xi⟩
 rw[zzm (show 0<=t/\t<m.tables by omega),vv6];refine Gn λw hS=>?_;refine fR8 (by omega) ?_;refine cF (λh=>?_) (λh3=>?_)
 ·rw[zzm h,Bool.true_or];exact⟨_,⟨rfl,rfl⟩,SL.cR (ie.put m rv hr hS Xp) Xi⟩
 rw[zzz h3,Bool.false_or];refine Gp ?_;have hC:SP 336 [rv,.func (.func 337) #[] #[fw b]] [.pt b [.int .i64 t] 3,.mem H] (e_ (.bool (m.reqs.any λr=>decide (r.table=t))) [.pt b [.int .i64 t] 3,.mem H]):=by
  refine Enzz λW F w hS=>?_;apply h_2;delta RV ai;refine Cg (eFf tm rfl (λv0 v1 w R h=>ial v0 v1 w R h) (λr=>bw1 b t r) rv m.reqs hr (by omega)) λw hS=>?_;rw[a_w];exact⟨_,⟨rfl,rfl⟩,hS⟩
 refine Cg (hC) λw hS=>?_;exact⟨_,⟨rfl,rfl⟩,SL.cR (ie.put m rv hr hS Xp) Xi⟩
end
abbrev wM(v:Ω)(l:List mn):Η:=.ob (bR v 393 7 l.length (l.map pc).flatten)
abbrev Jq(v:Ω)(l:List lA):Η:=.ob (bR v 390 5 l.length (l.map nN).flatten)
def YT(mp wp:Nat)(H:bw)(m:iK)(hm:m.Ok)(s:Β)(hs:s.size<=1000)(aw:Int):
  SP 291 [fw mp,.string s,.int .i64 aw] [.ob (ie mp wp H m),.mem H] (λv post=>∃H',H.le H'/\post=[wM v (m.accept s aw).2,.ob (ie mp wp H' {m with reqs:=(m.accept s aw).1}),.mem H']):=by
 refine Enzz λW F w hS=>?_;apply g_1;delta Rj aI bW a_ ia gi ai bI;have FR:=hm.reqs.1;have ko:∀{w:Α},m.accept s aw=(m.reqs,[])->SL W (.ob (ie mp wp H m)::.mem H::F) w->∃post,(∃H',H.le H'/\post=[wM (.slice none 0 0) (m.accept s aw).2,.ob (ie mp wp H' {m with reqs:=(m.accept s aw).1}),.mem H'])/\SL W (app post F) w:=λe hS=>by
  rw[e];have hS:SL W (wM (.slice none 0 0) []::.ob (ie mp wp H m)::.mem H::F) _:=bR.nil hS;exact⟨_,⟨H,bw.le_refl H,rfl⟩,hS⟩
 refine Cc (QC s (by omega)) ?_;clear hS;rintro _ post ⟨rfl,rfl⟩ w hS;try simp only[app]at hS
 unfold aww;cases hp:IJ s with
 | none=>
  simp only[wwy,uu5];refine Gm λb w hS=>?_;refine zq ?_;exact ko (by unfold iK.accept;rw[hp]) (aW hS)
 | some g=>
  obtain⟨t,wt⟩:=g;simp only[xxc,uu6];refine Gm λb w hS=>?_;refine zp ?_;obtain⟨rv,hr,hS⟩:=ie.iff.1 (SL.cR hS (t:=.ob (ie mp wp H m)::.pt b [.int .i64 t,.int .i64 wt] 227::.mem H::F) Xi);refine cF (λh=>?_) (λh1=>?_)
  ·exact ko (by unfold iK.accept;rw[hp];simp only;rw[zzc h]) (SL.cR (ie.put m rv hr hS Xp) Xi)
  refine Gn λw hS=>?_;have HC:m.accept s aw=match ux m.reqs t wt aw with
   | none=>(m.reqs,[])
   | some L=>(L,[⟨1,L.length,t,wt,aw,0,false⟩]):=by
   unfold iK.accept;rw[hp];simp only;rw[zzb h1];rfl
  refine Cc (Zk H rv m.reqs t wt aw hr (by omega)) ?_;clear hS;rintro u post ⟨H1,iA,rfl,hq⟩ w hS;try simp only[app]at hS
  cases ha:ux m.reqs t wt aw with
  | none=>
   rw[ha]at hq HC
   subst hq;refine Gp ?_;refine zq ?_;have hS:=ie.put m rv (hr.mono iA) hS Xp;rw[HC];have hS:SL W (wM (.slice none 0 0) []::.ob (ie mp wp H1 m)::_) _:=bR.nil hS;exact⟨_,⟨H1,iA,rfl⟩,aW hS⟩
  | some L=>
   rw[ha]at hq HC
   obtain⟨x,rfl,hx⟩:=hq;have ox:x.oneCell'=true:=hx.one;refine Gp ?_;refine zp ?_;refine Gn λw hS=>?_;refine zo hx ?_;refine Gm λnb w hS=>?_;rw[HC];have hS:=ie.put (mp:=mp) (wp:=wp) {m with reqs:=L} x hx hS Xp;have hS:SL W (wM (.slice (some ⟨nb,0,none⟩) 1 1) [⟨1,L.length,t,wt,aw,0,false⟩]::.ob (ie mp wp H1 {m with reqs:=L})::.mem H1::F) w:=bR.full (sz:=7) rfl (SL.cR hS (t:=.pt nb [.int .i64 1,.int .i64 L.length,.int .i64 t,.int .i64 wt,.int .i64 aw,.int .i64 0,.bool false] 393::.ob (ie mp wp H1 {m with reqs:=L})::.mem H1::F) Xi);exact⟨_,⟨H1,iA,rfl⟩,aW hS⟩
def Tc(aw:Int):∀(l:Θ) (m:iK) (s:Β),m.j_ aw (l++[s])=({(m.j_ aw l).1 with reqs:=((m.j_ aw l).1.accept s aw).1},(m.j_ aw l).2++((m.j_ aw l).1.accept s aw).2)
 | [],m,s=>by simp[iK.j_]
 | x::l,m,s=>by
  show (let r:=m.accept x aw;let y:=iK.j_ {m with reqs:=r.1} aw (l++[s]);(y.1,r.2++y.2))=_;simp only;rw[Tc aw l];simp[iK.j_,zzk]
def Ta{m:iK}(h:lr m.reqs)(s:Β)(aw:Int):lr (m.accept s aw).1/\(m.accept s aw).2.length<=1:=by
 unfold iK.accept;split
 ·exact⟨h,by simp⟩
 split
 ·exact⟨h,by simp⟩
 split
 ·exact⟨h,by simp⟩
 rename_i L hL;exact⟨ES hL,by simp⟩
def JO(aw:Int):∀(l:Θ) {m:iK},m.Ok->(m.j_ aw l).1.Ok/\(m.j_ aw l).2.length<=l.length/\(m.j_ aw l).1.dI=m.dI/\(m.j_ aw l).1.tables=m.tables/\(m.j_ aw l).1.late=m.late/\(m.j_ aw l).1.at_=m.at_
 | [],m,h=>⟨h,by simp[iK.j_],rfl,rfl,rfl,rfl⟩
 | x::l,m,h=>by
  have h1:=Ta h.reqs x aw;have h2:=JO aw l (m:={m with reqs:=(m.accept x aw).1}) ⟨h1.1,h.t1,h.rows,h.rI⟩;unfold iK.j_;simp only;refine⟨h2.1,?_,h2.2.2⟩;rw[zza,zzj];have:=h2.2.1;omega
def fFj{α:Type}{enc:α->Γ}{v:Ω}{t:Ε}{sz:Nat}{A B:List α}:bR v t sz (A.length+B.length) ((A.map enc).flatten++(B.map enc).flatten)=bR v t sz (A++B).length ((A++B).map enc).flatten:=by
 rw[zza,zzt,yys]
def Ns(mp wp:Nat)(H:bw)(y:iK × eF)(u:Ω)(post:Ψ):Prop:=∃(x:mA) (H':bw),H.le H'/\u=agg (jP x)/\ma H' x y.2/\post=[.ob (ie mp wp H' y.1),.mem H']
def YU(mp wp:Nat)(H:bw)(m:iK)(hm:m.Ok)(x:s9)(t:fF)(hx:rH H x t)(hs:t.signals.length<=2)(dWs:∀s∈t.signals,s.size<=40)(hc:t.changes.length<=16):
  SP 224 [fw mp,agg (kJ x)] [.ob (ie mp wp H m),.mem H] (Ns mp wp H (m.De t)):=by
 refine Enzz λW F w hS=>?_;apply gWk;delta Ps aI a_ aR b_ ai gI bI;refine zw hS λxb w hS=>?_;unfold kJ at hS;rw[hx.aw]at hS
 have wk:=hx.cv;have DV:=hx.sv;refine Gm λzb w hS=>?_;refine Gm λyb w hS=>?_;refine zo DV ?_;have hS:SL W (wM (.slice none 0 0) []::_) w:=bR.nil hS;have hS:=SL.cR hS (t:=wM (.slice none 0 0) []::.ob (ie mp wp H m)::.pt yb [.int .i64 t.aw,.slice none 0 0,.slice none 0 0] 214::.pt zb [.int .i64 0,.slice none 0 0,.slice none 0 0] 214::.pt xb [.int .i64 t.aw,.int .i64 x.kind,x.cv,x.sv,.int .i64 x.mark] 101::.mem H::F) Xi;refine⟨λus w=>∃(i:Nat) (nv:Ω) (H1:bw),us=[.int .i64 i]/\i<=t.signals.length/\H.le H1/\SL W (wM nv (m.j_ t.aw (t.signals.take i)).2::.ob (ie mp wp H1 (m.j_ t.aw (t.signals.take i)).1)::.pt yb [.int .i64 t.aw,.slice none 0 0,nv] 214::.pt zb [.int .i64 0,.slice none 0 0,.slice none 0 0] 214::.pt xb [.int .i64 t.aw,.int .i64 x.kind,x.cv,x.sv,.int .i64 x.mark] 101::.mem H1::F) w,
  λus _=>match us with|[.int _ i]=>(t.signals.length-i).toNat|_=>0,⟨0,.slice none 0 0,H,rfl,by omega,bw.le_refl H,hS⟩,?_⟩
 clear hS;rintro Es w ⟨i,nv,H1,gW,hi,iA,hS⟩;cases gW;refine cF (λh=>?_) (λh=>?_)
 ·have d_:i<t.signals.length:=by omega
  have KJ:=JO t.aw (t.signals.take i) hm;have k_:t.signals.take (i+1)=t.signals.take i++[t.signals[i]]:=zze d_;have FY:=Tc t.aw (t.signals.take i) m t.signals[i];rw[<- k_]at FY
  have Ky:=dWs _ (zzg d_);have iw:(t.signals.take i).length<=2:=by rw[zzf];omega
  refine yU hS Xh (DV.mono iA) d_ (u:=.string t.signals[i]) (by simp[d_]) ?_;refine Gn λw hS=>?_;refine Cc (YT mp wp H1 (m.j_ t.aw (t.signals.take i)).1 KJ.1 t.signals[i] (by omega) t.aw) ?_;clear hS;rintro v post ⟨H2,iW,rfl⟩ w hS;try simp only[app]at hS
  have A4:=(Ta KJ.1.reqs t.signals[i] t.aw).2;have hl2:=KJ.2.1;refine Gp ?_;refine zI (n:=(m.j_ t.aw (t.signals.take i)).2.length) (m:=((m.j_ t.aw (t.signals.take i)).1.accept t.signals[i] t.aw).2.length) (cells:=((m.j_ t.aw (t.signals.take i)).2.map pc).flatten) (cs:=(((m.j_ t.aw (t.signals.take i)).1.accept t.signals[i] t.aw).2.map pc).flatten) hS Xr (sC hS Xh) (tR BT _) rfl (xC Kf _) (by omega) (by omega) λv2 w hS=>?_;have o1:v2.oneCell'=true:=bR.one hS;rw[fFj,show (m.j_ t.aw (t.signals.take i)).2++((m.j_ t.aw (t.signals.take i)).1.accept t.signals[i] t.aw).2=(m.j_ t.aw (t.signals.take (i+1))).2 by rw[FY]]at hS
  refine Gn λw hS=>?_;rw[show (⟨(m.j_ t.aw (t.signals.take i)).1.tables,(m.j_ t.aw (t.signals.take i)).1.late,(m.j_ t.aw (t.signals.take i)).1.at_,((m.j_ t.aw (t.signals.take i)).1.accept t.signals[i] t.aw).1,(m.j_ t.aw (t.signals.take i)).1.dI⟩:iK)=(m.j_ t.aw (t.signals.take (i+1))).1 by rw[FY]]at hS
  exact⟨⟨i+1,v2,H2,rfl,by omega,bw.le_trans iA iW,aW hS⟩,by dsimp only;omega⟩
 have HZ:t.signals.take i=t.signals:=zz2 (by omega);rw[HZ]at hS
 obtain⟨wu,DN,vw,xu,iw,mh⟩:=JO t.aw t.signals hm;have sj:m.De t=({(m.j_ t.aw t.signals).1 with dI:=(m.j_ t.aw t.signals).1.dI.vF t.changes},⟨t.aw,rA (m.j_ t.aw t.signals).1 t.aw t.changes,(m.j_ t.aw t.signals).2⟩):=rfl;rw[sj];generalize m.j_ t.aw t.signals=y at *
 obtain⟨m1,N⟩:=y;simp only at hS wu DN ⊢;clear vw xu iw mh sj;refine Gp ?_;refine zo (wk.mono iA) ?_;have hS:SL W (Jq (.slice none 0 0) (rA m1 t.aw (t.changes.take 0))::_) w:=bR.nil hS;refine⟨λus w=>∃(i:Nat) (ov:Ω),us=[.int .i64 i]/\i<=t.changes.length/\SL W (Jq ov (rA m1 t.aw (t.changes.take i))::wM nv N::.ob (ie mp wp H1 m1)::.pt yb [.int .i64 t.aw,ov,nv] 214::.pt zb [.int .i64 0,.slice none 0 0,.slice none 0 0] 214::.pt xb [.int .i64 t.aw,.int .i64 x.kind,x.cv,x.sv,.int .i64 x.mark] 101::.mem H1::F) w,
  λus _=>match us with|[.int _ i]=>(t.changes.length-i).toNat|_=>0,⟨0,.slice none 0 0,rfl,by omega,aW hS⟩,?_⟩
 clear hS;rintro v33 w ⟨i,ov,gW,hi,hS⟩;cases gW;refine cF (λh=>?_) (λh=>?_)
 ·have d_:i<t.changes.length:=by omega
  have Ik:t.changes[i]?=some t.changes[i]:=zzd d_;have k_:t.changes.take (i+1)=t.changes.take i++[t.changes[i]]:=zze d_;have j6:rA m1 t.aw (t.changes.take (i+1))=rA m1 t.aw (t.changes.take i)++(if m1.captured t.changes[i].table=true then [⟨t.aw,t.changes[i].table,t.changes[i].key,t.changes[i].gone,t.changes[i].val⟩] else []):=by
   unfold rA;rw[k_,yy0,zzt];congr 1;rw[vvz];split<;>simp
  have Cs:(rA m1 t.aw (t.changes.take i)).length<=16:=by
   unfold rA;rw[zzs];have:=yyp (λc:jB=>m1.captured c.table) (t.changes.take i);rw[zzf]at this
   omega
  refine zE hS Xh wW (wk.mono iA) Ik d_ ?_;generalize t.changes[i]=c at *
  refine Gb λcb w hS=>?_;refine Cg (Yl mp wp H1 m1 (by have:=wu.reqs.1;omega) c.table) λw hS=>?_;refine yF (λhq=>?_) (λhq=>?_)
  ·rw[zzc hq]at j6
   refine Gm λob w hS=>?_;refine yu (n:=(rA m1 t.aw (t.changes.take i)).length) (xs:=rA m1 t.aw (t.changes.take i)) (y:=⟨t.aw,c.table,c.key,c.gone,c.val⟩) (enc:=nN) hS Xr Xh BV (λx=>E8 x) rfl (by omega) (by omega) λv2 w hS=>?_;have hS:=hS.u7 (x:=(⟨t.aw,c.table,c.key,c.gone,c.val⟩:lA));rw[<- j6]at hS
   have o1:v2.oneCell'=true:=bR.one hS;refine Gn λw hS=>?_;exact⟨⟨i+1,v2,rfl,by omega,aW hS⟩,by dsimp only;omega⟩
  rw[zzb (by simp[hq]),zzw]at j6
  rw[<- j6]at hS
  refine Gp ?_;exact⟨⟨i+1,ov,rfl,by omega,aW hS⟩,by dsimp only;omega⟩
 have dIr:t.changes.take i=t.changes:=zz2 (by omega);rw[dIr]at hS
 obtain⟨rv,hr,hS⟩:=ie.iff.1 (SL.cR hS (t:=.ob (ie mp wp H1 m1)::Jq ov (rA m1 t.aw t.changes)::wM nv N::.pt yb [.int .i64 t.aw,ov,nv] 214::.pt zb [.int .i64 0,.slice none 0 0,.slice none 0 0] 214::.pt xb [.int .i64 t.aw,.int .i64 x.kind,x.cv,x.sv,.int .i64 x.mark] 101::.mem H1::F) Xi);refine Gn λw hS=>?_;refine Cc (icn wp m1.dI H1 x.cv t.changes (wk.mono iA) (by have:=wu.rows;omega) (by omega)) ?_;clear hS;rintro _ post ⟨⟨q,rfl⟩,rfl⟩ w hS;try simp only[app]at hS
 have hS:=ie.put (mp:=mp) {m1 with dI:=m1.dI.vF t.changes} rv hr hS Xp;obtain⟨H2,iW,U7,hS⟩:=zz (H:=H1) (v:=nv) hS Xp;obtain⟨H3,kT,U8,hS⟩:=zz (H:=H2) (v:=ov) hS Xp;have on:nv.oneCell'=true:=U7.one;have oo:ov.oneCell'=true:=U8.one;refine Gp ?_;refine zr (vs:=[.int .i64 t.aw,ov,nv]) hS Xu rfl rfl (Mk oo on) λw hS=>?_;refine Gp ?_;have Hs:=bw.le_trans iW kT;have hS:=ie.nZ (m:={m1 with dI:=m1.dI.vF t.changes}) Hs hS Xr;exact⟨_,⟨⟨t.aw,ov,nv⟩,H3,bw.le_trans iA Hs,rfl,⟨rfl,U8,U7.mono kT⟩,rfl⟩,aW hS⟩
def Bs.all{wp:Nat}{k:iM}{H:bw}{mark aw:Int}{u:Ω}{post:Ψ}(h:Bs wp k H mark aw u post):∃(x:mA) (H':bw) (q:Bool) (k':iM),H.le H'/\u= .tuple #[agg (jP x),.bool q]/\post=[.ob (iN wp k'),.mem H']/\(∀v∈jP x,v.oneCell'=true) /\
  ((q=false/\k.high mark aw=(k',none))\/(q=true/\∃t,k.high mark aw=(k',some t)/\ma H' x t)):=by
 unfold Bs at h;have e:k.high mark aw=(if k.Ac mark aw then (k,none) else (rY k.n,some ⟨aw,oF k aw,[vA k]⟩)):=rfl;by_cases hb:k.Ac mark aw
 ·rw[zzc hb]at e
  rw[e]at h ⊢
  obtain⟨rfl,rfl⟩:=h;exact⟨An,H,false,k,bw.le_refl H,rfl,rfl,by simp[jP,Value.oneCell'],.inl ⟨rfl,rfl⟩⟩
 rw[zzb hb]at e
 rw[e]at h ⊢
 obtain⟨x,H',hh,rfl,hx,rfl⟩:=h;exact⟨x,H',true,_,hh,rfl,rfl,rK hx,.inr ⟨rfl,_,rfl,hx⟩⟩
def dIs{k k':iM}{mark aw:Int}{t:eF}(h:k.high mark aw=(k',some t)):t=⟨aw,oF k aw,[vA k]⟩:=by
 unfold iM.high at h;split at h
 ·cases h
 cases h;rfl
def Qz(mp wp:Nat)(H:bw)(m:iK)(hm:m.Ok)(x:s9)(t:fF)(hx:rH H x t)(hid : -9223372036854775808<=m.dI.id/\m.dI.id<=9223372036854775807):
  SP 225 [fw mp,agg (kJ x)] [.ob (ie mp wp H m),.mem H] (Ns mp wp H (m.high t)):=by
 refine Enzz λW F w hS=>?_;apply gWl;delta Pt bW a_ ia aR b_ gi ai bI;have hn:=hm.rows;have FR:=hm.reqs.1;refine zw hS λxb w hS=>?_;unfold kJ at hS;rw[hx.aw,hx.mark]at hS
 obtain⟨rv,hr,hS⟩:=ie.iff.1 (SL.cR hS (t:=.ob (ie mp wp H m)::.pt xb [.int .i64 t.aw,.int .i64 x.kind,x.cv,x.sv,.int .i64 t.mark] 101::.mem H::F) Xi);refine Gm λzb w hS=>?_;refine⟨λus w=>∃(yb:Nat) (y:mA) (H1:bw) (q:Bool) (k':iM),us=[fw yb,.bool q]/\H.le H1/\(∀v∈jP y,v.oneCell'=true)/\((q=false/\m.dI.high t.mark t.aw=(k',none))\/(q=true/\∃z,m.dI.high t.mark t.aw=(k',some z)/\ma H1 y z)) /\
   SL W (.pt yb (jP y) 214::.pt zb [.int .i64 0,.slice none 0 0,.slice none 0 0] 214::.pt xb [.int .i64 t.aw,.int .i64 x.kind,x.cv,x.sv,.int .i64 t.mark] 101::.pt mp (CQ m wp rv) 121::.ob (iN wp k')::.mem H1::F) w,?_,?_⟩
 ·refine Gn λw hS=>?_;refine⟨?_,?_⟩
  ·refine Cc (Yj wp m.dI H t.mark t.aw (by omega)) ?_;clear hS;rintro _ post hq w hS;obtain⟨y,H1,q,k',iA,rfl,rfl,Al,hc⟩:=hq.all;try simp only[app]at hS
   refine Gm λyb w hS=>?_;refine zr hS Xu rfl rfl Al λw hS=>?_;exact⟨yb,y,H1,q,k',rfl,iA,Al,hc,aW hS⟩
  refine Gb λyb w hS=>?_;refine Cc (Yj wp m.dI H t.mark t.aw (by omega)) ?_;clear hS;rintro _ post hq w hS;obtain⟨y,H1,q,k',iA,rfl,rfl,Al,hc⟩:=hq.all;(try simp only[app]at hS);refine Gp ?_
  refine zr hS Xu rfl rfl Al λw hS=>?_;exact⟨yb,y,H1,q,k',rfl,iA,Al,hc,aW hS⟩
 clear hS;rintro v5 v6 w ⟨yb,y,H1,q,k',gW,iA,Al,hc,hS⟩;cases gW;rcases hc with ⟨rfl,hh⟩|⟨rfl,z,hh,hz⟩
 ·refine zZ (zq ?_);refine Gn λw hS=>?_;have e:m.high t=(m,⟨t.aw,[],[]⟩):=by unfold iK.high;rw[hh]
  have hk:k'=m.dI:=by
   unfold iM.high at hh;split at hh
   ·cases hh;rfl
   cases hh
  subst hk;rw[e];have hS:=ie.put m rv (hr.mono iA) hS Xp;exact⟨_,⟨⟨t.aw,.slice none 0 0,.slice none 0 0⟩,H1,iA,rfl,⟨rfl,iD.nil _ _,iD.nil _ _⟩,rfl⟩,aW hS⟩
 refine zZ (zp ?_);have Wu:=dIs hh;subst Wu;have Il:=hz.aw;have DO:=hz.mO;have V0:=hz.ops;have hS:SL W (.pt yb [.int .i64 y.aw,y.ov,y.nv] 214::_) w:=hS;refine Gp ?_;refine zE (j:=0) hS Xh BT DO (x:=vA m.dI) rfl (by simp) ?_;refine Gb λnb w hS=>?_;refine Cc (ZH H1 rv m.reqs m.dI.id m.dI.iH m.dI.last (hr.mono iA) (by omega) hid) ?_;clear hS;rintro u post ⟨H2,iW,rfl,hq⟩ w hS;try simp only[app]at hS
 have kG:=bw.le_trans iA iW;cases ri:p' m.reqs m.dI.id m.dI.iH m.dI.last with
 | none=>
  rw[ri]at hq
  subst hq;have e:m.high t=({m with dI:=k'},⟨t.aw,oF m.dI t.aw,[]⟩):=by unfold iK.high;rw[hh];simp only;rw[ri]
  rw[e];refine Gp ?_;refine zq ?_;refine Gn λw hS=>?_;have oo:y.ov.oneCell'=true:=V0.one;refine zr (vs:=[.int .i64 y.aw,y.ov,.slice none 0 0]) hS Xu rfl rfl (Mk oo rfl) λw hS=>?_;refine Gp ?_;have hS:=ie.put (mp:=mp) {m with dI:=k'} rv (hr.mono kG) hS Xp;exact⟨_,⟨⟨y.aw,y.ov,.slice none 0 0⟩,H2,kG,rfl,⟨Il,V0.mono iW,iD.nil _ _⟩,rfl⟩,aW hS⟩
 | some L=>
  rw[ri]at hq
  obtain⟨rx,rfl,V'⟩:=hq;have e:m.high t=({m with dI:=k',reqs:=L},⟨t.aw,oF m.dI t.aw,[vA m.dI]⟩):=by unfold iK.high;rw[hh];simp only;rw[ri]
  rw[e];have ox:rx.oneCell'=true:=V'.one;refine Gp ?_;refine zp ?_;refine Gn λw hS=>?_;refine zr (vs:=[.int .i64 y.aw,y.ov,y.nv]) hS Xu rfl rfl Al λw hS=>?_;refine Gp ?_;have hS:=ie.put (mp:=mp) {m with dI:=k',reqs:=L} rx V' hS Xp;exact⟨_,⟨y,H2,kG,rfl,hz.mono iW,rfl⟩,aW hS⟩
def Ny(mp wp:Nat)(H:bw)(y:iK × (eF × Int))(u:Ω)(post:Ψ):Prop:=∃(x:mA) (H':bw),H.le H'/\u= .tuple #[agg (jP x),.int .i64 y.2.2]/\ma H' x y.2.1/\post=[.ob (ie mp wp H' y.1),.mem H']
def Z2(mp wp:Nat)(H:bw)(m:iK)(hm:m.Ok)(x:s9)(t:fF)(hx:rH H x t)(hid : -9223372036854775808<=m.dI.id/\m.dI.id<=9223372036854775807):
  SP 167 [fw mp,agg (kJ x)] [.ob (ie mp wp H m),.mem H] (Ny mp wp H (m.take t)):=by
 refine Enzz λW F w hS=>?_;apply gI2;delta OA aI bW a_ ia b_ gi ai bI;have mh:=hm.rI;refine zw hS λxb w hS=>?_;refine Gm λzb w hS=>?_;refine Cg (yl H x t hx) λw hS=>?_;unfold iK.take;refine zu (λh=>?_) (λh=>?_)
 ·rw[zzc h];refine Gn λw hS=>?_;exact⟨_,⟨An,H,bw.le_refl H,rfl,⟨rfl,iD.nil _ _,iD.nil _ _⟩,rfl⟩,aW hS⟩
 rw[zzb (by simp[h])];obtain⟨m1,m2,m3,m4,m5,m6,m7⟩:=sA h;have hl:=hx.aw;have hk:=hx.kind;have H_:=hx.mark;obtain⟨rv,hr,hS⟩:=ie.iff.1 (SL.cR hS (t:=.ob (ie mp wp H m)::.pt zb [.int .i64 0,.slice none 0 0,.slice none 0 0] 214::.pt xb (kJ x) 101::.mem H::F) Xi);refine Gn λw hS=>?_;rw[hl];have Ic:∀{w:Α},(t.aw≠m.at_+1\/m.dI.waits t.kind t.mark=true)->SL W (.pt mp (CQ m wp rv) 121::.ob (iN wp m.dI)::.mem H::F) w->∃post,Ny mp wp H (if t.aw≠m.at_+1\/m.dI.waits t.kind t.mark=true then (m,(⟨0,[],[]⟩,10))
   else if t.kind=1 then let r:=({m with at_:=t.aw}:iK).De t;(r.1,(r.2,0))
   else if t.kind=3 then let r:=({m with at_:=t.aw}:iK).high t;(r.1,(r.2,0))
   else ({m with at_:=t.aw,dI:=m.dI.low t.mark},(⟨t.aw,[],[]⟩,0))) (.tuple #[agg (jP An),.int .i64 10]) post/\SL W (app post F) w:=λh hS=>by
  rw[zzc h];have hS:=ie.put m rv hr hS Xp;exact⟨_,⟨An,H,bw.le_refl H,rfl,⟨rfl,iD.nil _ _,iD.nil _ _⟩,rfl⟩,aW hS⟩
 refine za (λh1=>?_) (λh1=>?_)
 ·refine Gn λw hS=>?_;exact Ic (.inl h1) (aW hS)
 refine Gp ?_;refine yD (vs:=[fw wp]) hS Xh rfl (λj v e=>by
  match j,e with
  | 0,e=>exact e) ?_
 refine Gp ?_;refine Cg (ZG wp m.dI x) λw hS=>?_;rw[hk,H_];refine yF (λh2=>?_) (λh2=>?_)
 ·refine Gn λw hS=>?_;exact Ic (.inr h2) (aW hS)
 clear Ic;rw[zzb (show ¬(t.aw≠m.at_+1\/m.dI.waits t.kind t.mark=true) by rw[h2];simp;omega)];refine Gn λw hS=>?_;rw[hl]at hS
 have hS:SL W (.pt mp (CQ {m with at_:=t.aw} wp rv) 121::.ob (iN wp m.dI)::.pt zb [.int .i64 0,.slice none 0 0,.slice none 0 0] 214::.pt xb (kJ x) 101::.mem H::F) w:=aW hS;have eW:({m with at_:=t.aw}:iK).Ok:=⟨hm.reqs,hm.t1,hm.rows,by show 0<=t.aw/\t.aw<=1099511627776;omega⟩;rw[hk];refine za (λh3=>?_) (λh3=>?_)
 ·rw[zzc h3];have hS:=ie.put (mp:=mp) {m with at_:=t.aw} rv hr hS Xp;refine Gp ?_;refine Cc (YU mp wp H {m with at_:=t.aw} eW x t hx m5 m7 m4) ?_;clear hS;rintro _ post ⟨y,H1,iA,rfl,hy,rfl⟩ w hS;try simp only[app]at hS
  refine zr hS Xu rfl rfl (rK hy) λw hS=>?_;refine Gp ?_;exact⟨_,⟨y,H1,iA,rfl,hy,rfl⟩,aW hS⟩
 rw[zzb h3];refine cF (λh4=>?_) (λh4=>?_)
 ·rw[zzc h4];have hS:=ie.put (mp:=mp) {m with at_:=t.aw} rv hr hS Xp;refine Gp ?_;refine Cc (Qz mp wp H {m with at_:=t.aw} eW x t hx hid) ?_;clear hS;rintro _ post ⟨y,H1,iA,rfl,hy,rfl⟩ w hS;try simp only[app]at hS
  refine zr hS Xu rfl rfl (rK hy) λw hS=>?_;refine Gp ?_;exact⟨_,⟨y,H1,iA,rfl,hy,rfl⟩,aW hS⟩
 rw[zzb h4];refine Gn λw hS=>?_;rw[H_];refine Cc (icg wp m.dI t.mark) ?_;clear hS;rintro _ post ⟨⟨q,rfl⟩,rfl⟩ w hS;refine Gn λw hS=>?_;rw[hl];have hS:=ie.put (mp:=mp) (wp:=wp) {m with at_:=t.aw,dI:=m.dI.low t.mark} rv hr hS Xp;exact⟨_,⟨⟨t.aw,.slice none 0 0,.slice none 0 0⟩,H,bw.le_refl H,rfl,⟨rfl,iD.nil _ _,iD.nil _ _⟩,rfl⟩,aW hS⟩
def tQ(m:Int × Int):Γ:=[.int .i64 m.2,.int .i64 m.1]
def Dl(m:Int × Int):(tQ m).length=2:=rfl
def Uv(m:Int × Int):∀v∈tQ m,v.oneCell'=true:=by simp[tQ,Value.oneCell']
structure Ju(d:iI)(a:Nat)(sE:Bool)(lf:Int):Prop where
 t:sE=true->d.at_=a/\d.left=lf/\a<d.l.length
 f:sE=false->d.at_=(a:Int)-1/\d.left=0/\a<=d.l.length
structure GN where
 v:Ω
 a:Nat
 sE:Bool
 lf:Int
abbrev Ap(x:GN):Γ:=[x.v,.int .i64 x.a,.bool x.sE,.int .i64 x.lf]
abbrev wL(v:Ω)(l:List (Int × Int)):Η:=.ob (bR v 418 2 l.length (l.map tQ).flatten)
def kC(p:Nat)(d:iI):zB:=nT λx:GN=>zG (Ju d x.a x.sE x.lf) [.pt p (Ap x) 402,wL x.v d.l]
def kC.iff{W w:Α}{l:Ψ}{p:Nat}{d:iI}:SL W (.ob (kC p d)::l) w↔∃x:GN,Ju d x.a x.sE x.lf/\SL W (.pt p (Ap x) 402::wL x.v d.l::l) w:=by
 unfold kC;simp only[SL.ex,SL.fact,zzu,zzp]
def kC.Ed{W w:Α}{l F:Ψ}{p:Nat}{d:iI}(v:Ω)(a:Nat)(sE:Bool)(lf:Int)(h:Ju d a sE lf)(hS:SL W l w)(k:lJ [.pt p [v,.int .i64 a,.bool sE,.int .i64 lf] 402,wL v d.l] l F):SL W (.ob (kC p d)::F) w:=kC.iff.2 ⟨⟨v,a,sE,lf⟩,h,hS.pick k⟩
def bRw:SP 207 [] [] (λv post=>∃p:Nat,v= .pointer (some ⟨p,0,none⟩)/\post=[.ob (kC p BO)]):=by
 refine Enzz λW F w hS=>?_;apply gR3;delta O_ ai bI;refine yT rfl ?_;refine⟨_,rfl,zD hS λp w hS=>?_⟩;have hS:SL W (wL (.slice none 0 0) []::.pt p (Ap ⟨.slice none 0 0,0,false,0⟩) 402::F) w:=bR.nil hS;exact⟨_,⟨p,rfl,rfl⟩,SL.cR (kC.Ed (d:=BO) (.slice none 0 0) 0 false 0 ⟨(λh=>by cases h),λ_=>⟨rfl,rfl,zzi _⟩⟩ hS Xp) Xi⟩
def YR(b:Nat)(id:Int)(m:Int × Int):SP 374 [agg (tQ m),.pointer (some ⟨b,0,none⟩)] [.pt b [.int .i64 id] 3] (e_ (.bool (decide (m.1=id))) [.pt b [.int .i64 id] 3]):=by
 refine Enzz λW F w hS=>?_;apply iao;delta Sd a_;refine zw hS λxb w hS=>?_;unfold tQ at hS;refine Gp ?_;(exact dW hS)
def ZD(p:Nat)(x:GN)(l:List (Int × Int))(id:Int)(hn:l.length<=1000):
  SP 341 [.pointer (some ⟨p,0,none⟩),.int .i64 id] [.pt p (Ap x) 402,wL x.v l] (e_ (.int .i64 (pC (l.findIdx? λm=>decide (m.1=id)))) [.pt p (Ap x) 402,wL x.v l]):=by
 refine Enzz λW F w hS=>?_;apply h_7;delta R0 bW;refine⟨rfl,zD hS λb w hS=>?_⟩;unfold Ap at hS;refine Gp ?_;have hC:=LJ (t:=418) Dl rfl (λv0 v1 w R h=>ian v0 v1 w R h) (λm=>YR b id m) x.v l (by omega);simp only[zzu,zzp]at hC;refine Cg (hC) λw hS=>?_;(exact dW hS)
def bI7(p:Nat)(d:iI)(id weight:Int)(hn:d.l.length<=1000):SP 297 [.pointer (some ⟨p,0,none⟩),.int .i64 id,.int .i64 weight] [.ob (kC p d)] (λv post=>(∃e:Int,v= .int .i64 e)/\post=[.ob (kC p (d.add id weight))]):=by
 refine Enzz λW F w hS=>?_;apply g_7;delta Rp aI bW ia ai;have kz:∀{e:Int} {w:Α},(id<1\/64<id\/weight<1\/8<weight)->SL W (.ob (kC p d)::F) w->∃post,((∃e':Int,Value.int .i64 e= .int .i64 e')/\post=[.ob (kC p (d.add id weight))])/\SL W (app post F) w:=λh hS=>by
  rw[show d.add id weight=d by unfold iI.add;rw[zzc h]];exact⟨_,⟨⟨_,rfl⟩,rfl⟩,hS⟩
 refine Gp ?_;refine za (λh=>kz (by omega) hS) (λh1=>?_);refine Gp ?_;refine za (λh=>kz (by omega) hS) (λh2=>?_);refine Gp ?_;refine za (λh=>kz (by omega) hS) (λh3=>?_);refine Gp ?_;refine za (λh=>kz (by omega) hS) (λh4=>?_);clear kz;obtain⟨x,hr,hS⟩:=kC.iff.1 hS;refine Cg (ZD p x d.l id hn) λw hS=>?_;have ha:d.add id weight=match D1 d id with|some _=>d|none=>{d with l:=d.l++[(id,weight)]}:=by
  unfold iI.add;rw[zzb (by omega)];rfl
 rw[ha];unfold D1;cases hf:d.l.findIdx? (λm=>decide (m.1=id)) with
 | some i=>
  refine za (λ_=>?_) (λh=>by simp only[pC]at h;omega);exact⟨_,⟨⟨_,rfl⟩,rfl⟩,kC.iff.2 ⟨x,hr,aW hS⟩⟩
 | none=>
  refine za (λh=>by simp only[pC]at h;omega) (λ_=>?_);unfold Ap at hS;refine Gm λb w hS=>?_;refine yu (n:=d.l.length) (xs:=d.l) (y:=(id,weight)) (enc:=tQ) hS Xr Xh Dl Uv rfl (by omega) (by omega) λv2 w hS=>?_;have hS:=hS.u7 (x:=(id,weight));have o1:v2.oneCell'=true:=bR.one hS;refine Gn λw hS=>?_;refine⟨_,⟨⟨_,rfl⟩,rfl⟩,SL.cR (kC.Ed (d:={d with l:=d.l++[(id,weight)]}) v2 x.a x.sE x.lf ⟨λh=>?_,λh=>?_⟩ hS Xp) Xi⟩
  ·have:=hr.t h;exact⟨this.1,this.2.1,by show x.a<(d.l++[_]).length;rw[zza];omega⟩
  have:=hr.f h;exact⟨this.1,this.2.1,by show x.a<=(d.l++[_]).length;rw[zza];omega⟩
def bI9(p:Nat)(d:iI)(id:Int)(hn:d.l.length<=1000):SP 296 [.pointer (some ⟨p,0,none⟩),.int .i64 id] [.ob (kC p d)] (λv post=>(∃e:Int,v= .int .i64 e)/\post=[.ob (kC p (d.del id))]):=by
 refine Enzz λW F w hS=>?_;apply g_6;delta Ro aI bW ia ai;obtain⟨x,hr,hS⟩:=kC.iff.1 hS;refine Cg (ZD p x d.l id hn) λw hS=>?_;unfold iI.del D1;cases hf:d.l.findIdx? (λm=>decide (m.1=id)) with
 | none=>
  refine za (λ_=>?_) (λh=>by simp only[pC]at h;omega);exact⟨_,⟨⟨_,rfl⟩,rfl⟩,kC.iff.2 ⟨x,hr,aW hS⟩⟩
 | some i=>
  have hi:i<d.l.length:=(yyk.1 hf).1;have hxa:x.a<=d.l.length:=by
   cases ht:x.sE with
   | true=>have:=hr.t ht;omega
   | false=>exact (hr.f ht).2.2
  simp only[pC];refine za (λh=>by omega) (λ_=>?_);unfold Ap at hS;refine Gp ?_;refine Cc (Ka (sz:=2) (l5:=16) (z:=[.int .i64 0,.int .i64 0]) (zv:=.agg #[.int .i64 0,.int .i64 0]) (λv0 v1 v2 w R h=>h_8 v0 v1 v2 w R h) Tryz.underlying400 (λw=>by kernel_rfl) rfl rfl (by simp[Value.oneCell']) x.v d.l.length i (d.l.map tQ).flatten hi (xC Uv _) (by omega) (by omega)) ?_;clear hS;rintro v post rfl w hS;try simp only[app]at hS
  have ef:List.take (i*2) (d.l.map tQ).flatten++List.drop ((i+1)*2) (d.l.map tQ).flatten=((d.l.eraseIdx i).map tQ).flatten:=by
   rw[xV Dl,AS Dl,List.eraseIdx_eq_take_drop_succ];simp
  have el:d.l.length-1=(d.l.eraseIdx i).length:=by rw[uut,zzc hi]
  rw[ef,el]at hS
  have o1:v.oneCell'=true:=bR.one hS;refine Gn λw hS=>?_;refine za (λh1=>?_) (λh1=>?_)
  ·refine Gn λw hS=>?_;have hx:((x.a:Int)-1)=((x.a-1:Nat):Int):=by omega
   rw[hx]at hS
   refine⟨_,⟨⟨_,rfl⟩,rfl⟩,SL.cR (kC.Ed (d:=⟨d.l.eraseIdx i,if (i:Int)<=d.at_ then d.at_-1 else d.at_,if (i:Int)=d.at_ then 0 else d.left⟩) v (x.a-1) x.sE x.lf ⟨λh=>?_,λh=>?_⟩ hS Xp) Xi⟩
   ·obtain⟨h2,h3,h4⟩:=hr.t h;refine⟨?_,?_,by show x.a-1<(d.l.eraseIdx i).length;omega⟩
    ·show (if (i:Int)<=d.at_ then d.at_-1 else d.at_)=_;rw[zzc (by omega)];omega
    show (if (i:Int)=d.at_ then 0 else d.left)=_;rw[zzb (by omega)];exact h3
   obtain⟨h2,h3,h4⟩:=hr.f h;refine⟨?_,?_,by show x.a-1<=(d.l.eraseIdx i).length;omega⟩
   ·show (if (i:Int)<=d.at_ then d.at_-1 else d.at_)=_;rw[zzc (by omega)];omega
   show (if (i:Int)=d.at_ then 0 else d.left)=_;rw[h3];simp
  refine cF (λh2=>?_) (λh2=>?_)
  ·refine Gn λw hS=>?_;refine⟨_,⟨⟨_,rfl⟩,rfl⟩,SL.cR (kC.Ed (d:=⟨d.l.eraseIdx i,if (i:Int)<=d.at_ then d.at_-1 else d.at_,if (i:Int)=d.at_ then 0 else d.left⟩) v x.a false x.lf ⟨(λh=>by cases h),λ_=>?_⟩ hS Xp) Xi⟩;cases ht:x.sE with
   | true=>
    obtain⟨h3,h4,h5⟩:=hr.t ht;refine⟨?_,?_,by show x.a<=(d.l.eraseIdx i).length;omega⟩
    ·show (if (i:Int)<=d.at_ then d.at_-1 else d.at_)=_;rw[zzc (by omega)];omega
    show (if (i:Int)=d.at_ then 0 else d.left)=_;rw[zzc (by omega)]
   | false=>
    obtain⟨h3,h4,h5⟩:=hr.f ht;refine⟨?_,?_,by show x.a<=(d.l.eraseIdx i).length;omega⟩
    ·show (if (i:Int)<=d.at_ then d.at_-1 else d.at_)=_;rw[zzb (by omega)];omega
    show (if (i:Int)=d.at_ then 0 else d.left)=_;rw[h4];simp
  refine⟨_,⟨⟨_,rfl⟩,rfl⟩,SL.cR (kC.Ed (d:=⟨d.l.eraseIdx i,if (i:Int)<=d.at_ then d.at_-1 else d.at_,if (i:Int)=d.at_ then 0 else d.left⟩) v x.a x.sE x.lf ⟨λh=>?_,λh=>?_⟩ hS Xp) Xi⟩
  ·obtain⟨h3,h4,h5⟩:=hr.t h;refine⟨?_,?_,by show x.a<(d.l.eraseIdx i).length;omega⟩
   ·show (if (i:Int)<=d.at_ then d.at_-1 else d.at_)=_;rw[zzb (by omega)];exact h3
   show (if (i:Int)=d.at_ then 0 else d.left)=_;rw[zzb (by omega)];exact h4
  obtain⟨h3,h4,h5⟩:=hr.f h;refine⟨?_,?_,by show x.a<=(d.l.eraseIdx i).length;omega⟩
  ·show (if (i:Int)<=d.at_ then d.at_-1 else d.at_)=_;rw[zzb (by omega)];exact h3
  show (if (i:Int)=d.at_ then 0 else d.left)=_;rw[h4];simp
def Ql(p:Nat)(d:iI)(hd:d.Ok)(hn:d.l.length<=1000):SP 230 [.pointer (some ⟨p,0,none⟩)] [.ob (kC p d)] (λv post=>v= .tuple #[.int .i64 d.next.2,.bool (decide (d.l≠[]))]/\post=[.ob (kC p d.next.1)]):=by
 refine Enzz λW F w hS=>?_;apply gWq;delta Py aI bW a_ ia gi ai;have mh:=hd.uz;have hl8:=hd.Iv;have vo:=hd.Iu;obtain⟨x,hr,hS⟩:=kC.iff.1 hS;unfold Ap at hS;refine Gp ?_;refine zt hS (v:=x.v) (t:=418) (sz:=2) (n:=d.l.length) (cells:=(d.l.map tQ).flatten) Xh ?_;refine cF (λh=>?_) (λh=>?_)
 ·have he:d.l=[]:=zzo (by omega);have e:d.next=(d,0):=by unfold iI.next;rw[zzc he]
  rw[e,zzz (by simp[he])];exact⟨_,⟨rfl,rfl⟩,kC.iff.2 ⟨x,hr,aW hS⟩⟩
 have iX:d.l≠[]:=λe=>h (by rw[e];rfl);have jz:0<=d.place/\d.place<d.l.length:=by
  unfold iI.place;have:=hd.neg;have:=hd.rI;split
  ·split<;>omega
  omega
 obtain⟨j,hj⟩:∃j:Nat,d.place=j:=⟨d.place.toNat,by omega⟩;have lV:j<d.l.length:=by omega
 have Cn:d.l[j]?=some d.rz:=by
  unfold iI.rz;rw[hj,zzv,zzd lV];rfl
 have hw:=hd.w _ (xxe Cn);refine⟨λus w=>∃(a:Nat) (t:Bool) (lf:Int),us=[]/\((t=true/\lf=d.left/\d.left≠0/\(a:Int)=d.at_)\/(t=false/\(a:Int)=d.at_+1/\d.left=0))/\SL W (.pt p [x.v,.int .i64 a,.bool t,.int .i64 lf] 402::wL x.v d.l::F) w,?_,?_⟩
 ·refine Gp ?_;refine yF (λht=>?_) (λht=>?_)
  ·obtain⟨h3,h4,h5⟩:=hr.t ht;refine cF (λh0=>?_) (λh0=>?_)
   ·refine Gn λw hS=>?_;exact⟨x.a+1,false,x.lf,rfl,.inr ⟨rfl,by omega,by omega⟩,aW hS⟩
   exact⟨x.a,true,x.lf,rfl,.inl ⟨rfl,h4.symm,by omega,h3.symm⟩,by rw[<- ht];exact aW hS⟩
  obtain⟨h3,h4,h5⟩:=hr.f ht;exact⟨x.a,false,x.lf,rfl,.inr ⟨rfl,by omega,h4⟩,by rw[<- ht];exact aW hS⟩
 clear hS;rintro w ⟨a,t,lf,-,hc,hS⟩;refine⟨λus w=>us=[]/\SL W (.pt p [x.v,.int .i64 j,.bool true,.int .i64 (if d.left=0 then d.rz.2 else d.left)] 402::wL x.v d.l::F) w,?_,?_⟩
 ·refine Gp ?_;rcases hc with ⟨rfl,rfl,lP,oz⟩|⟨rfl,lP,oz⟩
  ·refine zp ?_;have e:d.place=d.at_:=by unfold iI.place;rw[zzb lP]
   have:a=j:=by omega
   subst this;rw[zzb lP];exact⟨rfl,aW hS⟩
  refine zq ?_;refine⟨λus w=>us=[]/\SL W (.pt p [x.v,.int .i64 j,.bool false,.int .i64 lf] 402::wL x.v d.l::F) w,?_,?_⟩
  ·refine Gn λw hS=>?_;refine zt hS (v:=x.v) (t:=418) (sz:=2) (n:=d.l.length) (cells:=(d.l.map tQ).flatten) Xh ?_;refine Gp ?_;have e:d.place=if (d.l.length:Int)<=d.at_+1 then 0 else d.at_+1:=by unfold iI.place;rw[zzc oz]
   refine za (λh0=>?_) (λh0=>?_)
   ·rw[zzc (by omega)]at e
    have:j=0:=by omega
    subst this;refine Gn λw hS=>?_;have hS:SL W (.pt p [x.v,.int .i64 ((0:Nat):Int),.bool false,.int .i64 lf] 402::wL x.v d.l::F) w:=hS;exact aW hS
   rw[zzb (by omega)]at e
   have:a=j:=by omega
   subst this;exact⟨rfl,aW hS⟩
  clear hS;rintro w ⟨-,hS⟩;refine Gn λw hS=>?_;obtain⟨fa,fc,Wp,_,hfx⟩:=bR.at hS (v:=x.v) (t:=418) (sz:=2) (n:=d.l.length) (cells:=(d.l.map tQ).flatten) Xh;obtain⟨fb,rfl,hfc⟩:=hfx j lV;rw[Wp];refine zF lV (yI (yI ?_));have sj:=hfc _ _ (uJ Dl d.l j 0 d.rz (.int .i64 d.rz.2) Cn rfl);refine⟨_,_,rfl,by rw[yyd];exact sj,?_⟩;refine Gn λw hS=>?_;rw[zzc oz,<- Wp];exact aW hS
 clear hS hc;rintro w ⟨-,hS⟩;refine Gn λw hS=>?_;refine yq (i:=1) hS (v:=x.v) (t:=418) Xh Dl Cn lV (u:=.int .i64 d.rz.1) rfl ?_;have e:d.next=(⟨d.l,d.place,(if d.left=0 then d.rz.2 else d.left)-1⟩,d.rz.1):=by unfold iI.next;rw[zzb iX]
 rw[e,zzm iX];exact⟨_,⟨rfl,rfl⟩,SL.cR (kC.Ed (d:=⟨d.l,d.place,(if d.left=0 then d.rz.2 else d.left)-1⟩) x.v j true ((if d.left=0 then d.rz.2 else d.left)-1) ⟨λ_=>⟨hj,rfl,lV⟩,(λh=>by cases h)⟩ hS Xp) Xi⟩
def eWu(kind mark:Int):mq [.int .i64 0,.int .i64 0,.slice none 0 0,.slice none 0 0,.int .i64 0] [(0,1,.int .i64 1),(1,1,.int .i64 kind),(4,1,.int .i64 mark)]=some (kJ ⟨1,kind,.slice none 0 0,.slice none 0 0,mark⟩):=by simp[mq,Value.cells,kJ]
def Yg(sp tp dp lp:Nat)(k:g_)(H:bw)(kind mark:Int){N:Nat}(hk:nF k N)(hN:N<=1000000000)(iY:k.d.ops<=90000):
  SP 231 [fw sp,.int .i64 kind,.int .i64 mark] [.ob (iz sp tp dp lp k),.ob (cw dp k.d),.mem H] (C1 sp tp dp lp H (k.sy kind mark)):=by
 refine Enzz λW F w hS=>?_;apply gWr;delta Pz aI gi ai bI;have hx:rH H ⟨1,kind,.slice none 0 0,.slice none 0 0,mark⟩ ⟨1,kind,[],[],mark⟩:=⟨rfl,rfl,rfl,iD.nil _ _,iD.nil _ _⟩;have kz:∀{w:Α},¬((kind=2\/kind=3)/\jC ⟨1,kind,[],[],mark⟩=true)->SL W (.ob (iz sp tp dp lp k)::.ob (cw dp k.d)::.mem H::F) w->∃post,C1 sp tp dp lp H (k.sy kind mark) (.tuple #[.int .i64 0,.int .i64 1]) post/\SL W (app post F) w:=λh hS=>by
  rw[show k.sy kind mark=(k,(0,1)) from zzb h];exact⟨_,⟨rfl,rfl⟩,hS⟩
 refine yT (eWu kind mark) ?_;refine Gb λxb w hS=>?_;have HT:∀{w:Α},(kind=2\/kind=3)->SL W (.pt xb (kJ ⟨1,kind,.slice none 0 0,.slice none 0 0,mark⟩) 101::.ob (iz sp tp dp lp k)::.ob (cw dp k.d)::.mem H::F) w->ze 5 (fw xb) w λM7=>aF 108 [M7] w λv20 Az=>Zf v20 λv21=>iy v21 (∃post,C1 sp tp dp lp H (k.sy kind mark) (.tuple #[.int .i64 0,.int .i64 1]) post/\SL W (app post F) Az)
   (ze 5 (fw xb) Az λv24=>aF 111 [fw sp,v24] Az λv25 w_4=>zf 0 v25 λv26=>zf 1 v25 λv27=>∃post,C1 sp tp dp lp H (k.sy kind mark) (.tuple #[v26,v27]) post/\SL W (app post F) w_4):=λh2 hS=>by
  refine zC hS Xh rfl ?_;refine Cg (yl H ⟨1,kind,.slice none 0 0,.slice none 0 0,mark⟩ ⟨1,kind,[],[],mark⟩ hx) λw hS=>?_;refine zu (λh=>kz (λx=>by rw[x.2]at h;cases h) (aW hS)) (λh=>?_);rw[show k.sy kind mark=k.lK ⟨1,kind,[],[],mark⟩ from zzc ⟨h2,h⟩];refine zC hS Xh rfl ?_;refine Cg (YK sp tp dp lp k H ⟨1,kind,.slice none 0 0,.slice none 0 0,mark⟩ ⟨1,kind,[],[],mark⟩ hx h hk hN iY) λw hS=>?_;exact dW hS
 refine za (λh=>?_) (λh=>HT (.inl (by omega)) (aW hS));refine Gp ?_;exact za (λh2=>kz (λx=>by omega) (aW hS)) (λh2=>HT (.inr (by omega)) (aW hS))
abbrev vd(v:Ω)(l:List Rq):Η:=.ob (bR v 98 7 l.length (l.map mL).flatten)
def fw8{L:List Rq}{i:Nat}(h:i<L.length):oa (L.take (i+1))=oa (L.take i)++(if L[i].done=false then [L[i]] else []):=by
 unfold oa;rw[zze h,yy0,vvz];cases L[i].done<;>simp
def Mo(L:List Rq)(i:Nat):(oa (L.take i)).length<=L.length:=by
 have:=yyp (λr:Rq=>!r.done) (L.take i);rw[zzf]at this
 unfold oa;omega
def ZK(v:Ω)(L:List Rq)(hn:L.length<=1000):SP 74 [v] [vd v L] (λu post=>post=[vd u (oa L),vd v L]):=by
 refine Enzz λW F w hS=>?_;apply ibq;delta SU aI a_ gi ai bI;refine zt hS (v:=v) (t:=98) (sz:=7) (n:=L.length) (cells:=(L.map mL).flatten) Xh ?_;have hS:SL W (vd (.slice none 0 0) []::_) w:=bR.nil hS;refine⟨λus w=>∃(i:Nat) (u:Ω),us=[u,.int .i64 i]/\i<=L.length/\SL W (vd u (oa (L.take i))::vd v L::F) w,λus _=>match us with|[_,.int _ i]=>(L.length-i).toNat|_=>0,⟨0,.slice none 0 0,rfl,by omega,hS⟩,?_⟩;clear hS;rintro v3 v8 w ⟨i,u,gW,hi,hS⟩;cases gW;refine cF (λh=>?_) (λh=>?_)
 ·have d_:i<L.length:=by omega
  have hx:L[i]?=some L[i]:=zzd d_;have j6:=fw8 d_;have hle:=Mo L i;refine zU hS (v:=v) (t:=98) Xh tm hx d_ ?_;generalize L[i]=r at *
  refine Gb λxb w hS=>?_;refine zu (λhd=>?_) (λhd=>?_)
  ·rw[zzc hd]at j6
   refine zC hS Xh rfl ?_;refine Gm λyb w hS=>?_;refine yu (n:=(oa (L.take i)).length) (xs:=oa (L.take i)) (y:=r) (enc:=mL) hS Xr Xh tm Hi rfl (by omega) (by omega) λv2 w hS=>?_;have hS:=hS.u7 (x:=r);rw[<- j6]at hS
   refine Gp ?_;exact⟨⟨i+1,v2,rfl,by omega,aW hS⟩,by dsimp only;omega⟩
  rw[zzb (by simp[hd]),zzw]at j6
  rw[<- j6]at hS
  refine Gp ?_;exact⟨⟨i+1,v3,rfl,by omega,aW hS⟩,by dsimp only;omega⟩
 rw[zz2 (by omega)]at hS
 exact⟨_,rfl,aW hS⟩
abbrev nR(sp mp wp gp:Nat)(n:Int):Γ:=[fw sp,fw mp,fw wp,fw gp,.int .i64 n]
def QU(sp mp wp:Nat)(H:bw)(m:iK)(n:Int):SP 150 [fw sp,fw mp,.int .i64 n] [.ob (ie mp wp H m)] (λv post=>(¬(1<=n/\n<=64)/\v= .tuple #[.pointer none,.int .i64 1]/\post=[.ob (ie mp wp H m)]) \/
  ((1<=n/\n<=64)/\∃pp gp:Nat,v= .tuple #[fw pp,.int .i64 0]/\post=[.pt pp (nR sp mp wp gp n) 208,.ob (kC gp BO),.ob (ie mp wp H m)])):=by
 refine Enzz λW F w hS=>?_;apply gIl;delta Of aI b_ ai h_;refine Gp ?_;refine za (λh=>⟨_,.inl ⟨by omega,rfl,rfl⟩,hS⟩) (λh1=>?_);refine Gp ?_;refine za (λh=>⟨_,.inl ⟨by omega,rfl,rfl⟩,hS⟩) (λh2=>?_);obtain⟨rv,hr,hS⟩:=ie.iff.1 hS;refine Gp ?_;refine yD (vs:=[fw wp]) hS Xh rfl (λj v e=>by
  match j,e with
  | 0,e=>exact e) ?_
 refine Cg (YD wp) λw hS=>?_;refine Cc (bRw) ?_;clear hS;rintro _ post ⟨gp,rfl,rfl⟩ w hS;(try simp only[app]at hS);refine Gp ?_
 refine⟨_,rfl,zD hS λpp w hS=>?_⟩;have hS:=ie.put m rv hr hS Xp;exact⟨_,.inr ⟨by omega,pp,gp,rfl,rfl⟩,aW hS⟩
def Zn(sp mp wp pp gp:Nat)(n:Int)(H:bw)(m:iK)(hn:m.reqs.length<=1000):SP 64 [fw pp] [.pt pp (nR sp mp wp gp n) 208,.ob (ie mp wp H m),.mem H] (e_ (.bool (Gs m)) [.pt pp (nR sp mp wp gp n) 208,.ob (ie mp wp H m),.mem H]):=by
 refine Enzz λW F w hS=>?_;apply ibi;delta SJ aI bW cW ai;unfold Gs;refine Gp ?_;obtain⟨rv,hr,hS⟩:=ie.iff.1 (SL.cR hS (t:=.ob (ie mp wp H m)::.pt pp (nR sp mp wp gp n) 208::.mem H::F) Xi);refine Cg (yW wp m.dI) λw hS=>?_;have hS:=ie.put m rv hr hS Xp;refine za (λh=>?_) (λh1=>?_)
 ·rw[zzm (.inl h)];exact dW hS
 refine cF (λh=>?_) (λh2=>?_)
 ·rw[zzm (.inr (.inl h))];exact dW hS
 refine cF (λh3=>?_) (λh3=>?_)
 ·refine Gp ?_;refine Cc (yM mp wp H m hn) ?_;clear hS;rintro u post rfl w hS;try simp only[app]at hS
  refine Cc (ZK u m.reqs hn) ?_;clear hS;rintro u2 post rfl w hS;try simp only[app]at hS
  refine zt hS (v:=u2) (t:=98) (sz:=7) (n:=(oa m.reqs).length) (cells:=((oa m.reqs).map mL).flatten) Xh ?_;refine Gp ?_;have e:decide (m.dI.state=1\/m.dI.state=2\/m.dI.state=0/\oa m.reqs≠[])=decide ((0:Int)<((oa m.reqs).length:Int)):=by
   rw[yyg];constructor
   ·rintro (h|h|h)
    ·exact absurd h h1
    ·exact absurd h h2
    have:=xx0.2 h.2;omega
   intro h;exact .inr (.inr ⟨h3,λe=>by rw[e]at h;simp at h⟩)
  rw[e];exact dW hS
 rw[zzz (λh=>h.elim h1 (λh=>h.elim h2 (λh=>h3 h.1)))];exact dW hS
def bI8(d:iI)(id:Int):(d.del id).l.length<=d.l.length:=by
 unfold iI.del;split
 ·exact zzi _
 exact List.length_eraseIdx_le ..
def bI6(d:iI)(id w:Int):(d.add id w).l.length<=d.l.length+1:=by
 unfold iI.add;split
 ·omega
 split
 ·omega
 simp
def He:∀(L:List Rq) (d:iI),(L.foldl (λd r=>d.del r.id) d).l.length<=d.l.length
 | [],d=>zzi _
 | r::L,d=>yyw (He L (d.del r.id)) (bI8 d r.id)
def JP:∀(L:List Rq) (d:iI),(L.foldl (λd r=>d.add r.id r.weight) d).l.length<=d.l.length+L.length
 | [],d=>zzi _
 | r::L,d=>by
  have h1:=JP L (d.add r.id r.weight);have h2:=bI6 d r.id r.weight;rw[wwd,zzj];omega
def bR1{L:List Rq}{i:Nat}(h:i<L.length):(L.take (i+1)).filter (·.done)=(L.take i).filter (·.done)++(if L[i].done=true then [L[i]] else []):=by
 rw[zze h,yy0,vvz];cases L[i].done<;>simp
def QV(sp mp wp pp gp:Nat)(n:Int)(H:bw)(m:iK)(d:iI)(hn:m.reqs.length<=64)(hd:d.l.length<=500):SP 229 [fw pp] [.pt pp (nR sp mp wp gp n) 208,.ob (kC gp d),.ob (ie mp wp H m),.mem H] (λv post=>post=[.pt pp (nR sp mp wp gp n) 208,.ob (kC gp (rB d m.reqs)),.ob (ie mp wp H m),.mem H]):=by
 refine Enzz λW F w hS=>?_;apply gWp;delta Px aI bW a_ ai;refine Gp ?_;refine Cc (yM mp wp H m (by omega)) ?_;clear hS;rintro u post rfl w hS;try simp only[app]at hS
 refine zt hS (v:=u) (t:=98) (sz:=7) (n:=m.reqs.length) (cells:=(m.reqs.map mL).flatten) Xh ?_;refine⟨λus w=>∃i:Nat,us=[.int .i64 i]/\i<=m.reqs.length/\SL W (.ob (kC gp (((m.reqs.take i).filter (·.done)).foldl (λd r=>d.del r.id) d))::vd u m.reqs::.ob (ie mp wp H m)::.mem H::.pt pp (nR sp mp wp gp n) 208::F) w,λus _=>match us with|[.int _ i]=>(m.reqs.length-i).toNat|_=>0,⟨0,rfl,by omega,SL.cR hS (t:=.ob (kC gp d)::vd u m.reqs::.ob (ie mp wp H m)::.mem H::.pt pp (nR sp mp wp gp n) 208::F) Xi⟩,?_⟩;clear hS;rintro v12 w ⟨i,gW,hi,hS⟩;cases gW;refine cF (λh=>?_) (λh=>?_)
 ·have d_:i<m.reqs.length:=by omega
  have hx:m.reqs[i]?=some m.reqs[i]:=zzd d_;have j6:=bR1 d_;have hle:=He ((m.reqs.take i).filter (·.done)) d;refine zU hS (v:=u) (t:=98) Xh tm hx d_ ?_;generalize m.reqs[i]=r at *
  refine Gb λxb w hS=>?_;refine yF (λhq=>?_) (λhq=>?_)
  ·rw[zzc hq]at j6
   refine Gn λw hS=>?_;refine Cc (bI9 gp (((m.reqs.take i).filter (·.done)).foldl (λd r=>d.del r.id) d) r.id (by omega)) ?_;clear hS;rintro _ post ⟨⟨e,rfl⟩,rfl⟩ w hS;(try simp only[app]at hS);refine Gp ?_
   refine⟨⟨i+1,rfl,by omega,?_⟩,by dsimp only;omega⟩;rw[j6,ww8];exact SL.cR hS (t:=.ob (kC gp ((((m.reqs.take i).filter (·.done)).foldl (λd r=>d.del r.id) d).del r.id))::vd u m.reqs::.ob (ie mp wp H m)::.mem H::.pt pp (nR sp mp wp gp n) 208::F) Xi
  rw[zzb (by simp[hq]),zzw]at j6
  rw[<- j6]at hS
  refine Gp ?_;exact⟨⟨i+1,rfl,by omega,aW hS⟩,by dsimp only;omega⟩
 rw[zz2 (by omega)]at hS
 have vr:rB d m.reqs=(oa m.reqs).foldl (λd r=>d.add r.id r.weight) ((m.reqs.filter (·.done)).foldl (λd r=>d.del r.id) d):=rfl;have tZ:=He (m.reqs.filter (·.done)) d;rw[vr];generalize (m.reqs.filter (·.done)).foldl (λd r=>d.del r.id) d=d1 at *
 refine Gp ?_;refine Cc (yM mp wp H m (by omega)) ?_;clear hS;rintro u1 post rfl w hS;try simp only[app]at hS
 refine Cc (ZK u1 m.reqs (by omega)) ?_;clear hS;rintro u2 post rfl w hS;try simp only[app]at hS
 have Cs:(oa m.reqs).length<=64:=by
  have:=Mo m.reqs m.reqs.length;rw[zz1]at this;omega
 generalize oa m.reqs=L at *
 refine zt hS (v:=u2) (t:=98) (sz:=7) (n:=L.length) (cells:=(L.map mL).flatten) Xh ?_;refine⟨λus w=>∃i:Nat,us=[.int .i64 i]/\i<=L.length/\SL W (.ob (kC gp ((L.take i).foldl (λd r=>d.add r.id r.weight) d1))::vd u2 L::.ob (ie mp wp H m)::.mem H::.pt pp (nR sp mp wp gp n) 208::F) w,λus _=>match us with|[.int _ i]=>(L.length-i).toNat|_=>0,⟨0,rfl,by omega,SL.cR hS (t:=.ob (kC gp d1)::vd u2 L::.ob (ie mp wp H m)::.mem H::.pt pp (nR sp mp wp gp n) 208::F) Xi⟩,?_⟩;clear hS;rintro v33 w ⟨i,gW,hi,hS⟩;cases gW;refine cF (λh=>?_) (λh=>?_)
 ·have d_:i<L.length:=by omega
  have hx:L[i]?=some L[i]:=zzd d_;have k_:L.take (i+1)=L.take i++[L[i]]:=zze d_;have hle:=JP (L.take i) d1;rw[zzf]at hle
  refine zU hS (v:=u2) (t:=98) Xh tm hx d_ ?_;generalize L[i]=r at *
  refine Gb λxb w hS=>?_;refine Cc (bI7 gp ((L.take i).foldl (λd r=>d.add r.id r.weight) d1) r.id r.weight (by omega)) ?_;clear hS;rintro _ post ⟨⟨e,rfl⟩,rfl⟩ w hS;(try simp only[app]at hS);refine Gp ?_
  refine⟨⟨i+1,rfl,by omega,?_⟩,by dsimp only;omega⟩;rw[k_,ww8];exact SL.cR hS (t:=.ob (kC gp (((L.take i).foldl (λd r=>d.add r.id r.weight) d1).add r.id r.weight))::vd u2 L::.ob (ie mp wp H m)::.mem H::.pt pp (nR sp mp wp gp n) 208::F) Xi
 rw[zz2 (by omega)]at hS
 exact⟨_,rfl,aW hS⟩
structure ky.Ok(p:ky):Prop where
 m:p.m.Ok
 d:p.d.Ok
 dl:p.d.l.length<=64
 src:∃N,nF p.k N/\N<=900000000
 n:1<=p.n/\p.n<=64
 row:(rB p.d p.m.reqs).Ok
 id : -9223372036854775808<=p.m.dI.id/\p.m.dI.id<=9223372036854775807
abbrev GX(sp tp dp lp mp wp pp gp:Nat)(H:bw)(p:ky):Ψ:=[.pt pp (nR sp mp wp gp p.n) 208,.ob (kC gp p.d),.ob (ie mp wp H p.m),.ob (iz sp tp dp lp p.k),.ob (cw dp p.k.d),.mem H]
def GY(sp tp dp lp mp wp pp gp:Nat)(H:bw)(y:ky × (Int × Int))(v:Ω)(post:Ψ):Prop:=∃H',H.le H'/\v= .tuple #[.int .i64 y.2.1,.int .i64 y.2.2]/\post=GX sp tp dp lp mp wp pp gp H' y.1
def QT(sp tp dp lp mp wp pp gp:Nat)(H:bw)(p:ky)(hp:p.Ok)(iY:p.k.d.ops<=90000):SP 170 [fw pp] (GX sp tp dp lp mp wp pp gp H p) (GY sp tp dp lp mp wp pp gp H p.F'):=by
 refine Enzz λW F w hS=>?_;apply gI5;delta OD aI bW a_ gi ai;obtain⟨N,hk,hN⟩:=hp.src;have FR:=hp.m.reqs.1;have tZ:=hp.dl;have vr:=hp.row;have KW:=y' hk.g.ok.bF;have HU:=hk.g.hd;refine Cc (QV sp mp wp pp gp p.n H p.m p.d FR (by omega)) ?_;clear hS;rintro _ post rfl w hS;(try simp only[app]at hS);refine Gp ?_
 have A':(rB p.d p.m.reqs).l.length<=1000:=by
  have h1:=JP (oa p.m.reqs) ((p.m.reqs.filter (·.done)).foldl (λd r=>d.del r.id) p.d);have h2:=He (p.m.reqs.filter (·.done)) p.d;have h3:=Mo p.m.reqs p.m.reqs.length;rw[zz1]at h3
  unfold rB;omega
 unfold ky.F';generalize hx:rB p.d p.m.reqs=d1 at *
 refine Cg (Ql gp d1 vr A') λw hS=>?_;refine Cc (yM mp wp H p.m (by omega)) ?_;clear hS;rintro u post rfl w hS;try simp only[app]at hS
 have ko:∀{w:Α},As p.m.reqs d1.next.2=none->SL W (.pt pp (nR sp mp wp gp p.n) 208::.ob (kC gp d1.next.1)::.ob (ie mp wp H p.m)::.ob (iz sp tp dp lp p.k)::.ob (cw dp p.k.d)::.mem H::F) w->∃post,GY sp tp dp lp mp wp pp gp H (p.Bc d1.next) (.tuple #[.int .i64 0,.int .i64 0]) post/\SL W (app post F) w:=λe hS=>by
  rw[show p.Bc d1.next=({p with d:=d1.next.1},(0,0)) by unfold ky.Bc;rw[e]];exact⟨_,⟨H,bw.le_refl H,rfl,rfl⟩,hS⟩
 refine Gp ?_;refine zu (λhq=>?_) (λhq=>?_)
 ·refine ko ?_ (aW hS);have he:d1.l=[]:=Decidable.of_not_not (yyz hq);unfold iI.next As;rw[zzc he];rfl
 have iX:d1.l≠[]:=zzl hq;refine zt hS (v:=u) (t:=98) (sz:=7) (n:=p.m.reqs.length) (cells:=(p.m.reqs.map mL).flatten) Xh ?_;refine Gp ?_;have hid:1<=d1.next.2:=by
  unfold iI.next;rw[zzb iX];have jz:0<=d1.place/\d1.place<d1.l.length:=by
   have:=vr.neg;have:=vr.rI;have:=vr.uz;have:0<d1.l.length:=xx0.2 iX;unfold iI.place;split
   ·split<;>omega
   omega
  have hm:d1.rz∈d1.l:=by
   unfold iI.rz;rw[zzd (show d1.place.toNat<d1.l.length by omega)];exact zzg _
  exact (vr.w _ hm).1
 refine za (λh=>ko (by unfold As;rw[zzb (by omega),yyr (by omega)]) (aW hS)) (λh=>?_);clear ko;obtain⟨j,hj⟩:∃j:Nat,d1.next.2=(j:Int)+1:=⟨(d1.next.2-1).toNat,by omega⟩;have lV:j<p.m.reqs.length:=by omega
 have rn:As p.m.reqs d1.next.2=some p.m.reqs[j]:=by
  unfold As;rw[zzb (by omega),hj,show ((j:Int)+1-1).toNat=j by omega,zzd lV]
 rw[show p.Bc d1.next=({p with d:=d1.next.1}:ky).F_ p.m.reqs[j] by unfold ky.Bc;rw[rn]];unfold ky.F_;clear rn;rw[hj];generalize d1.next.1=d2 at hS ⊢;refine Gp ?_;refine Cg (zM sp tp dp lp p.k hk.g (by omega)) λw hS=>?_;refine Cg (Yg sp tp dp lp p.k H 2 (f_ p.k.g.bF+1) hk (by omega) iY) λw hS=>?_;generalize p.k.sy 2 (f_ p.k.g.bF+1)=y at hS ⊢;obtain⟨k',a,e⟩:=y;simp only at hS ⊢;refine za (λhe=>?_) (λhe=>?_)
 ·rw[zzc he];exact⟨_,⟨H,bw.le_refl H,rfl,rfl⟩,aW hS⟩
 rw[zzb he];refine Gp ?_;rw[show ((j:Int)+1-1)=(j:Int) by omega];refine zU hS (v:=u) (t:=98) Xh tm (zzd lV) lV ?_;generalize p.m.reqs[j]=r;refine Gb λxb w hS=>?_;obtain⟨rv,hr,hS⟩:=ie.iff.1 (SL.cR hS (t:=.ob (ie mp wp H p.m)::.pt pp (nR sp mp wp gp p.n) 208::.ob (kC gp d2)::.ob (iz sp tp dp lp k')::.ob (cw dp k'.d)::.mem H::F) Xi);refine Cc (ick wp p.m.dI (f_ p.k.g.bF+1) r.id r.table r.iH) ?_;clear hS;rintro _ post ⟨⟨q,rfl⟩,rfl⟩ w hS;try simp only[app]at hS
 have hS:=ie.put (mp:=mp) {p.m with dI:=p.m.dI.xB (f_ p.k.g.bF+1) r.id r.table r.iH} rv hr hS Xp;exact⟨_,⟨H,bw.le_refl H,rfl,rfl⟩,aW hS⟩
def qM(sp tp dp lp mp wp pp gp:Nat)(H:bw)(p:ky)(hp:p.Ok)(iY:p.k.d.ops<=90000):SP 175 [fw pp] (GX sp tp dp lp mp wp pp gp H p) (GY sp tp dp lp mp wp pp gp H p.FB):=by
 refine Enzz λW F w hS=>?_;apply gRa;delta OI aI bW aR b_ ai;obtain⟨N,hk,hN⟩:=hp.src;refine Gn λw hS=>?_;obtain⟨rv,hr,hS⟩:=ie.iff.1 (SL.cR hS (t:=.ob (ie mp wp H p.m)::.pt pp (nR sp mp wp gp p.n) 208::.ob (kC gp p.d)::.ob (iz sp tp dp lp p.k)::.ob (cw dp p.k.d)::.mem H::F) Xi);refine Cg (ich wp p.m.dI) λw hS=>?_;unfold ky.FB;refine Cg (Yg sp tp dp lp p.k H 3 p.m.dI.mark hk (by omega) iY) λw hS=>?_;generalize p.k.sy 3 p.m.dI.mark=y at hS ⊢;obtain⟨k',a,e⟩:=y;simp only at hS ⊢;refine za (λhe=>?_) (λhe=>?_)
 ·rw[zzc he];have hS:=ie.put (mp:=mp) p.m rv hr hS Xp;exact⟨_,⟨H,bw.le_refl H,rfl,rfl⟩,aW hS⟩
 rw[zzb he];refine Gp ?_;refine Cc (ico wp p.m.dI) ?_;clear hS;rintro _ post ⟨⟨q,rfl⟩,rfl⟩ w hS;try simp only[app]at hS
 have hS:=ie.put (mp:=mp) {p.m with dI:=p.m.dI.shut} rv hr hS Xp;exact⟨_,⟨H,bw.le_refl H,rfl,rfl⟩,aW hS⟩
def qN(sp tp dp lp mp wp pp gp:Nat)(H:bw)(p:ky)(hp:p.Ok)(iY:p.k.d.ops<=90000):SP 114 [fw pp] (GX sp tp dp lp mp wp pp gp H p) (GY sp tp dp lp mp wp pp gp H p.step):=by
 refine Enzz λW F w hS=>?_;apply gFt;delta NP aI bW aR b_ gi ai;obtain⟨N,hk,hN⟩:=hp.src;have FR:=hp.m.reqs.1;have igg:=hp.n;unfold ky.step;refine Cg (Zn sp mp wp pp gp p.n H p.m (by omega)) λw hS=>?_;refine zu (λhq=>?_) (λhq=>?_)
 ·rw[zzc hq];exact⟨_,⟨H,bw.le_refl H,rfl,rfl⟩,aW hS⟩
 rw[zzb (by simp[hq])];obtain⟨rv,hr,hS⟩:=ie.iff.1 (SL.cR hS (t:=.ob (ie mp wp H p.m)::.pt pp (nR sp mp wp gp p.n) 208::.ob (kC gp p.d)::.ob (iz sp tp dp lp p.k)::.ob (cw dp p.k.d)::.mem H::F) Xi);refine Gp ?_;refine Cg (yW wp p.m.dI) λw hS=>?_;refine za (λh0=>?_) (λh0=>?_)
 ·rw[zzc h0];have hS:=ie.put (mp:=mp) p.m rv hr hS Xp;refine Cc (QT sp tp dp lp mp wp pp gp H p hp iY) ?_;clear hS;rintro _ post ⟨H1,iA,rfl,rfl⟩ w hS;(try simp only[app]at hS);refine Gp ?_
  exact⟨_,⟨H1,iA,rfl,rfl⟩,aW hS⟩
 rw[zzb h0];refine cF (λh1=>?_) (λh1=>?_)
 ·rw[zzc h1];refine Gn λw hS=>?_;refine Cg (qU wp p.m.dI) λw hS=>?_;refine Cg (qS wp p.m.dI) λw hS=>?_;refine Cc (qL sp tp dp lp p.k p.m.dI.table p.m.dI.after p.n (λC hC=>by have:=hk.len C hC;omega) (λC hC=>(hk.rows C hC).sorted) (by omega) (by omega)) ?_;clear hS;rintro u post rfl w hS;try simp only[app]at hS
  obtain⟨H1,iA,hR,hS⟩:=zz (H:=H) (v:=u) hS Xp;have sj:(p.k.BL p.m.dI.table p.m.dI.after p.n).length<=64:=by
   unfold g_.BL s_;rw[zzf];omega
  generalize p.k.BL p.m.dI.table p.m.dI.after p.n=C at hR sj ⊢;refine Gp ?_;refine Cc (Q7 wp p.m.dI H1 u C hR (by omega)) ?_;clear hS;rintro _ post ⟨⟨q,rfl⟩,rfl⟩ w hS;try simp only[app]at hS
  have hS:=ie.put (mp:=mp) {p.m with dI:=p.m.dI.fill C} rv (hr.mono iA) hS Xp;exact⟨_,⟨H1,iA,rfl,rfl⟩,aW hS⟩
 rw[zzb h1];have hS:=ie.put (mp:=mp) p.m rv hr hS Xp;refine Cc (qM sp tp dp lp mp wp pp gp H p hp iY) ?_;clear hS;rintro _ post ⟨H1,iA,rfl,rfl⟩ w hS;(try simp only[app]at hS);refine Gp ?_
 exact⟨_,⟨H1,iA,rfl,rfl⟩,aW hS⟩
def aIu(dp:Nat)(d:DS)(H:bw)(n:Nat)(f:Int)(r:Ω)(post:Ψ):Prop:=∃H',H.le H'/\post=[.ob (cw dp d),.mem H']/\match mE d.R n f with
 | none=>∃a b,r= .tuple #[a,b,.bool false]
 | some y=>∃v,AF H' v y.2/\r= .tuple #[.int .i64 y.1,v,.bool true]
def cWy(dp:Nat)(d:DS)(H:bw)(n:Nat)(f:Int){N:Nat}(eW:d.Ok N)(hN:N<=140737488355328):
  SP 198 [fw dp,.int .i64 f,.int .i64 (n:Nat)] [.ob (cw dp d),.mem H] (aIu dp d H n f):=by
 refine Enzz λW F w hS=>?_;apply gRu;delta O2 aI gi ai bI;refine Cc (Z8 dp d N eW hN f) ?_;clear hS;rintro r post hq w hS;unfold EM at hq;cases hg:iQ PF.id d.R f with
 | none=>
  rw[hg]at hq
  obtain⟨rfl,rfl⟩:=hq;have hi:mE d.R n f=none:=by unfold mE;rw[hg]
  (try simp only[app]at hS);refine Gp ?_
  refine zq ?_;refine⟨[.ob (cw dp d),.mem H],⟨H,bw.le_refl H,rfl,?_⟩,aW hS⟩;rw[hi];exact⟨_,_,rfl⟩
 | some x=>
  rw[hg]at hq
  obtain⟨u,rfl,rfl⟩:=hq;have oC:=eW.len x (xW hg).1;(try simp only[app]at hS);refine Gp ?_
  refine zp ?_;refine Cc (qy (.ob (bR u 5 1 x.b.length (x.b.map ic))) H u x.b iV.own (by omega)) ?_;clear hS;rintro r post hq w hS;unfold Ey at hq;cases hd:oP x.b with
  | none=>
   rw[hd]at hq
   obtain⟨rfl,H',hh,rfl⟩:=hq;have hi:mE d.R n f=none:=by unfold mE;rw[hg];simp only;rw[hd]
   (try simp only[app]at hS);refine Gp ?_
   refine za (λh=>absurd h (by decide)) (λ_=>?_);refine⟨[.ob (cw dp d),.mem H'],⟨H',hh,rfl,?_⟩,aW hS⟩;rw[hi];exact⟨_,_,rfl⟩
  | some y=>
   rw[hd]at hq
   obtain⟨v,H',hh,hT,rfl,rfl⟩:=hq;have hi:mE d.R n f=if y.2.length=n then some y else none:=by unfold mE;rw[hg];simp only;rw[hd]
   (try simp only[app]at hS);refine Gp ?_
   refine za (λ_=>?_) (λh=>absurd rfl h);refine yP hT ?_;refine Gp ?_;refine⟨[.ob (cw dp d),.mem H'],⟨H',hh,rfl,?_⟩,aW hS⟩;rw[hi];by_cases hl:y.2.length=n
   ·rw[zzc hl,zzm (by omega)];exact⟨v,hT,rfl⟩
   rw[zzb hl,zzz (by omega)];exact⟨_,_,rfl⟩
def loadAt(R:List PF)(n:Nat)(x:vL):Nat->vL
 | 0=>x
 | 1=>lC R n 0 x
 | _=>lC R n 1 (lC R n 0 x)
def Ip{R:List PF}{n:Nat}{f:Int}{y:Int × mI}(h:mE R n f=some y):nf y.1 y.2=true/\y.2.length=n:=by
 unfold mE at h;split at h
 ·cases h
 split at h
 ·cases h
 rename_i hd;split at h
 ·rename_i hl;cases h;exact⟨bRg hd,hl⟩
 cases h
def f_n{α:Type}{l m:List α}{i:Nat}(hi:i<l.length)(h:m.length=l.length):(l.take i++m.drop i).set i l[i]=l.take (i+1)++m.drop (i+1):=by
 rw[vvq _ _ (by rw[zzf];omega),zzf,show i-min i l.length=0 by omega,yyq (by omega:i<m.length),List.set_cons_zero,zze hi,zzk];rfl
def eWg{R:List PF}{n:Nat}{x:vL}{j:Nat}(h:j<=1):loadAt R n x (j+1)=lC R n j (loadAt R n x j):=by
 match j,h with
 | 0,_=>rfl
 | 1,_=>rfl
def W5{R:List PF}{n:Nat}{f:Int}{x:vL}(h:x.2.2.length=n):(lC R n f x).2.2.length=n:=by
 unfold lC;cases hi:mE R n f with
 | none=>exact h
 | some y=>
  simp only;split
  ·exact h
  exact (Ip hi).2
def eWf{R:List PF}{n:Nat}{f:Int}{x:vL}(h:0<=x.2.1/\x.2.1<=1099511627776):0<=(lC R n f x).2.1/\(lC R n f x).2.1<=1099511627776:=by
 unfold lC;cases hi:mE R n f with
 | none=>exact h
 | some y=>
  simp only;split
  ·exact h
  have:=(wC.1 (Ip hi).1).1;exact⟨this.1,this.2.1⟩
def eWn(sp tp dp lp:Nat)(d:DS)(H:bw)(x0:vL)(n:Nat)(Wl:x0.2.2.length=n)(h8:n<=8){N:Nat}(eW:d.Ok N)(hN:N<=140737488355328):
  SP 139 [fw sp] [.pt sp (rD tp dp lp x0.1 x0.2.1) 156,.ob (i_ tp x0.2.2),.ob (cw dp d),.mem H] (λ_ post=>∃H',H.le H'/\post=[.pt sp (rD tp dp lp (lC d.R n 1 (lC d.R n 0 x0)).1 (lC d.R n 1 (lC d.R n 0 x0)).2.1) 156,.ob (i_ tp (lC d.R n 1 (lC d.R n 0 x0)).2.2),.ob (cw dp d),.mem H']):=by
 refine Enzz λW F w hS=>?_;apply gF9;delta N5 aI bW ia aR b_ gi ai;refine⟨λus w=>∃(j:Nat) (H':bw),us=[.int .i64 j]/\j<=2/\H.le H'/\(loadAt d.R n x0 j).2.2.length=n/\SL W (.pt sp (rD tp dp lp (loadAt d.R n x0 j).1 (loadAt d.R n x0 j).2.1) 156::.ob (i_ tp (loadAt d.R n x0 j).2.2)::.ob (cw dp d)::.mem H'::F) w,
  λus _=>match us with|[.int _ i]=>(2-i).toNat|_=>0,⟨0,H,rfl,by omega,bw.le_refl H,Wl,hS⟩,?_⟩
 clear hS;rintro v2 w ⟨j,H',gW,hj,hh,oC,hS⟩;cases gW;refine cF (λh=>?_) (λh=>?_)
 ·have FD:j<=1:=by omega
  have pB:=eWg (R:=d.R) (n:=n) (x:=x0) FD;have l8:∀{w:Α} {H2:bw} (y:vL),lC d.R n j (loadAt d.R n x0 j)=y->H.le H2->SL W (.pt sp (rD tp dp lp y.1 y.2.1) 156::.ob (i_ tp y.2.2)::.ob (cw dp d)::.mem H2::F) w ->
    ∃(j':Nat) (H':bw),[Value.int .i64 ((j+1:Nat):Int)]=[.int .i64 j']/\j'<=2/\H.le H'/\(loadAt d.R n x0 j').2.2.length=n/\SL W (.pt sp (rD tp dp lp (loadAt d.R n x0 j').1 (loadAt d.R n x0 j').2.1) 156::.ob (i_ tp (loadAt d.R n x0 j').2.2)::.ob (cw dp d)::.mem H'::F) w:=λy hy kG hS=>by
   refine⟨j+1,_,rfl,by omega,kG,?_,?_⟩
   ·rw[pB];exact W5 oC
   rw[pB,hy];exact hS
  generalize hx:loadAt d.R n x0 j=x at *
  refine Gn λw hS=>?_;refine Cg (yr tp x.2.2) λw hS=>?_;refine Cc (cWy dp d H' x.2.2.length j eW hN) ?_;clear hS;rintro r post ⟨H2,iW,rfl,hq⟩ w hS;try simp only[app]at hS
  rw[oC]at hq
  have kG:=bw.le_trans hh iW;cases hi:mE d.R n j with
  | none=>
   rw[hi]at hq
   obtain⟨a,b,rfl⟩:=hq;refine Gp ?_;refine⟨λus w=>False,?_,λw h=>h.elim⟩;refine zZ (zq ?_);refine Gp ?_;exact⟨l8 x (by unfold lC;rw[hi]) kG (aW hS),by dsimp only;omega⟩
  | some y=>
   rw[hi]at hq
   obtain⟨v,hT,rfl⟩:=hq;obtain⟨oA,Il⟩:=Ip hi;have xc:=(wC.1 oA).2;refine Gp ?_;refine⟨λus w=>us=[]/\¬(0<=x.1/\y.1<=x.2.1)/\SL W (.pt sp (rD tp dp lp x.1 x.2.1) 156::.ob (i_ tp x.2.2)::.ob (cw dp d)::.mem H2::F) w,?_,?_⟩
   ·refine zZ (zp ?_);refine cF (λh0=>?_) (λh0=>?_)
    ·refine cF (λh1=>?_) (λh1=>?_)
     ·refine Gp ?_;exact⟨l8 x (by unfold lC;rw[hi];simp only;rw[zzc ⟨h0,h1⟩]) kG (aW hS),by dsimp only;omega⟩
     exact⟨rfl,λh=>h1 h.2,aW hS⟩
    exact⟨rfl,λh=>h0 h.1,aW hS⟩
   clear hS;rintro w ⟨-,hc,hS⟩;refine Gn λw hS=>?_;refine yP hT ?_;have hS:SL W (_::.ob (i_ tp (y.2.take 0++x.2.2.drop 0))::_) _:=hS;refine⟨λus w=>∃i:Nat,us=[.int .i64 i]/\i<=y.2.length/\SL W (.ob (i_ tp (y.2.take i++x.2.2.drop i))::.pt sp (rD tp dp lp j y.1) 156::.ob (cw dp d)::.mem H2::F) w,
    λus _=>match us with|[.int _ i]=>(y.2.length-i).toNat|_=>0,⟨0,rfl,by omega,aW hS⟩,?_⟩
   clear hS;rintro v54 w ⟨i,gW,d_,hS⟩;cases gW;refine cF (λh=>?_) (λh=>?_)
   ·have d_:i<y.2.length:=by omega
    have ud:=f_n (m:=x.2.2) d_ (by omega);have rr:i<(y.2.take i++x.2.2.drop i).length:=by rw[zza,zzf,zzq];omega
    have U':=xc _ (zzg d_);refine YX hS Xh hT d_ λu hu=>?_;generalize y.2[i]=C at *
    generalize y.2.take i++x.2.2.drop i=T at *
    refine Gp ?_;refine Cg (Q3 tp T H2 u i C rr hu U'.sorted (by have:=U'.len;omega)) λw hS=>?_;refine⟨⟨i+1,rfl,by omega,?_⟩,by dsimp only;omega⟩;rw[<- ud];exact aW hS
   obtain rfl:i=y.2.length:=by omega
   rw[zz1,yy3 (by omega),zzw]at hS
   refine Gp ?_;exact⟨l8 (j,y.1,y.2) (by unfold lC;rw[hi];simp only;rw[zzb hc]) kG (aW hS),by dsimp only;omega⟩
 obtain rfl:j=2:=by omega
 exact⟨_,⟨H',hh,rfl⟩,hS⟩
def g_.pZ(k:g_):Option mI:=match tG k.ts.length k.image (gR k.g.bF) (j7 k.g.bF) k.ts with
 | none=>none
 | some ts=>if k.image<=f_ k.g.bF/\j7 k.g.bF<=k.image+1 then some ts else none
def b_5{L:List il}(h:mQ L):f_ L-j7 L+1=((gR L).length:Int):=by
 by_cases hL:L=[]
 ·subst hL;rfl
 rw[h.head hL];omega
def eWp{L:List il}{N:Nat}(h:∀s∈L,po s N):1<=j7 L/\j7 L<=1099511627776:=by
 cases L with
 | nil=>exact⟨yyc _,by show (1:Int)<=_;decide⟩
 | cons s r=>exact⟨(h s (.head _)).n0,(h s (.head _)).n1⟩
def fRq{n:Nat}{image:Int}{b:Δ}{r:List (Δ)}{aw:Int}{ts:mI}:tG n image (b::r) aw ts=match pN b with
  | .error _=>none
  | .ok t=>if t.aw=aw/\(∀c∈t.changes,c.table<(n:Int)) then tG n image r (aw+1) (if image<aw then kZ ts t.changes else ts) else none:=rfl
def fRs(sp tp dp lp:Nat)(H:bw)(k:g_){N:Nat}(hg:mH k.g N)(hN:N<=1000000000)(hs:∀C∈k.ts,lj C){L0:Nat}(hn:∀C∈k.ts,C.length<=L0)(hL:L0+16*(gR k.g.bF).length<=900000)(pP:0<=k.image/\k.image<=1099511627776):
  SP 140 [fw sp] [.ob (iz sp tp dp lp k),.mem H] (λv post=>∃H',H.le H'/\match k.pZ with
   | none=>v= .bool false/\post=[.mem H']
   | some ts=>v= .bool true/\post=[.ob (iz sp tp dp lp {k with ts:=ts}),.mem H']):=by
 refine Enzz λW F w hS=>?_;apply gIb;delta N7 aI bW a_ aR b_ gi cW ai bI;have hF:∀{w:Α} {H':bw},k.pZ=none->H.le H'->SL W (.mem H'::F) w->∃post,(∃H',H.le H'/\match k.pZ with
   | none=>(.bool false:Ω)= .bool false/\post=[.mem H']
   | some ts=>(.bool false:Ω)= .bool true/\post=[.ob (iz sp tp dp lp {k with ts:=ts}),.mem H'])/\SL W (app post F) w:=λhr hh hS=>by
  rw[hr];exact⟨[.mem _],⟨_,hh,rfl,rfl⟩,hS⟩
 have wj:=b_5 hg.seq;have vp:=eWp hg.ok.bF;have Ab:=hg.hd;refine Cg (ZA sp tp dp lp k hg hN) λw hS=>?_;refine⟨λus w=>∃(i:Nat) (T:mI) (H2:bw),us=[.int .i64 (j7 k.g.bF+i)]/\i<=(gR k.g.bF).length/\tG k.ts.length k.image (gR k.g.bF) (j7 k.g.bF) k.ts=tG k.ts.length k.image ((gR k.g.bF).drop i) (j7 k.g.bF+i) T/\T.length=k.ts.length/\(∀C∈T,lj C)/\(∀C∈T,C.length<=L0+16*i)/\H.le H2/\SL W (.ob (iz sp tp dp lp {k with ts:=T})::.mem H2::F) w,
  λus _=>match us with|[.int _ i]=>(f_ k.g.bF+1-i).toNat|_=>0,⟨0,k.ts,H,by simp,by omega,by simp,rfl,hs,by simpa using hn,bw.le_refl H,aW hS⟩,?_⟩
 clear hS;rintro v3 w ⟨i,T,H2,gW,hi,iP,AX,xc,B8,hh,hS⟩;cases gW;refine Cg (zM sp tp dp lp {k with ts:=T} hg hN) λw hS=>?_;refine za (λh=>?_) (λh=>?_)
 ·have h:j7 k.g.bF+i<=f_ k.g.bF:=h;have d_:i<(gR k.g.bF).length:=by omega
  have FT:=hg.seq.read i;rw[zzd d_]at FT
  rw[yyq d_,fRq]at iP
  generalize (gR k.g.bF)[i]=bs at *
  have oT:1<=j7 k.g.bF+i/\j7 k.g.bF+i<=1099511627776:=by omega
  generalize hlq:j7 k.g.bF+i=aw at *
  have Ah:(match pN bs with
   | .error _=>none
   | .ok t=>if t.aw=aw/\(∀c∈t.changes,c.table<(k.ts.length:Int)) then tG k.ts.length k.image ((gR k.g.bF).drop (i+1)) (aw+1) (if k.image<aw then kZ T t.changes else T) else none)=none->k.pZ=none:=λh=>by unfold g_.pZ;rw[iP,h]
  refine Cc (Zd sp tp dp lp {k with ts:=T} hg hN H2 aw (by omega)) ?_;clear hS;rintro r post hq w hS;unfold Bx g_.mF at hq;simp only at hq;rw[FT]at hq
  simp only at hq;cases hd:pN bs with
  | error e=>
   rw[hd]at hq Ah
   obtain⟨iX,H3,kT,rfl,rfl⟩:=hq;refine Gm λb w hS=>?_;refine za (λ_=>?_) (λh=>absurd iX h);exact hF (Ah rfl) (bw.le_trans hh kT) (aW hS)
  | ok t=>
   rw[hd]at hq Ah iP
   obtain⟨x,H3,kT,rfl,hx,rfl⟩:=hq;have tT:=bw.le_trans hh kT;obtain⟨ht1,Ii,ht3,ht4,ht5,We,ht7⟩:=sA (bRm hd);try simp only[app]at hS
   refine Gp ?_;refine zD hS λxb w hS=>?_;refine zr (vs:=kJ x) hS Xu rfl rfl (Dn (aw:=x.aw) (kind:=x.kind) (mark:=x.mark) hx.cv.one hx.sv.one) λw hS=>?_;unfold kJ at hS;rw[hx.aw,hx.kind,hx.mark]at hS
   refine Gn λw hS=>?_;refine za (λh=>absurd rfl h) (λ_=>?_);refine cF (λhl=>?_) (λhl=>?_)
   ·exact hF (Ah (by simp only;rw[zzb λh=>hl h.1])) tT (aW hS)
   have hS:=iz.iff.1 (SL.cR hS (t:=.ob (iz sp tp dp lp {k with ts:=T})::.pt xb [.int .i64 t.aw,.int .i64 t.kind,x.cv,x.sv,.int .i64 t.mark] 101::.mem H3::F) Xi);refine Gp ?_;refine Cg (yr tp T) λw hS=>?_;refine Cg (ZT H3 x.cv t.changes T.length hx.cv (by omega)) λw hS=>?_;rw[AX];refine zu (λhb=>?_) (λhb=>?_)
   ·have hb:=yyz hb;exact hF (Ah (by simp only;rw[zzb λh=>hb h.2])) tT (aW hS)
   have hb:=zzl hb;have jJ:t.changes.all (mf T.length)=true:=zz5.2 λc hc=>zzm ⟨(CO.1 (We c hc)).1,by rw[AX];exact hb c hc⟩;simp only at iP;rw[zzc (show t.aw=aw/\∀c∈t.changes,c.table<(k.ts.length:Int) from ⟨by omega,hb⟩)]at iP
   have Lb:aw+1=j7 k.g.bF+((i+1:Nat):Int):=by omega
   rw[Lb]at iP
   refine cF (λrl=>?_) (λrl=>?_)
   ·rw[zzc (show k.image<aw by omega)]at iP
    refine Gn λw hS=>?_;refine Cg (ZM tp T H3 x.cv t.changes hx.cv (by omega) xc (L0+16*i) B8 (by omega)) λw hS=>?_;rw[zzc jJ]at hS
    rw[Lb];refine⟨⟨i+1,kZ T t.changes,H3,rfl,by omega,iP,by rw[xM];exact AX,G3 xc λc hc=>zz5.1 jJ c hc,λC hC=>?_,tT,SL.cR (iz.put {k with ts:=kZ T t.changes} hS Xp) Xi⟩,by dsimp only;omega⟩;have:=G2 (L0+16*i) (l:=t.changes) B8 (λc hc=>zz5.1 jJ c hc) C hC;omega
   rw[zzb (show ¬k.image<aw by omega)]at iP
   refine Gp ?_;rw[Lb];exact⟨⟨i+1,T,H3,rfl,by omega,iP,AX,xc,λC hC=>by have:=B8 C hC;omega,tT,SL.cR (iz.put {k with ts:=T} hS Xp) Xi⟩,by dsimp only;omega⟩
 have h:¬j7 k.g.bF+i<=f_ k.g.bF:=h;obtain rfl:i=(gR k.g.bF).length:=by omega
 rw[vv0]at iP
 have iP:tG k.ts.length k.image (gR k.g.bF) (j7 k.g.bF) k.ts=some T:=iP;have hR:k.pZ=if k.image<=f_ k.g.bF/\j7 k.g.bF<=k.image+1 then some T else none:=by unfold g_.pZ;rw[iP]
 have hS:SL W (.pt sp (rD tp dp lp k.iZ k.image) 156::.ob (i_ tp T)::.ob (ir lp dp k.g)::_) _:=iz.iff.1 hS;refine Gn λw hS=>?_;have hS:=iz.put {k with ts:=T} hS Xp;refine Cg (zM sp tp dp lp {k with ts:=T} hg hN) λw hS=>?_;have hS:SL W (.pt sp (rD tp dp lp k.iZ k.image) 156::.ob (i_ tp T)::.ob (ir lp dp k.g)::_) _:=iz.iff.1 hS;refine cF (λh1=>?_) (λh1=>?_)
 ·have h1:k.image<=f_ k.g.bF:=h1;refine Gp ?_;have hS:=iz.put {k with ts:=T} hS Xp;refine Cg (ZA sp tp dp lp {k with ts:=T} hg hN) λw hS=>?_;have hS:SL W (.pt sp (rD tp dp lp k.iZ k.image) 156::.ob (i_ tp T)::.ob (ir lp dp k.g)::_) _:=iz.iff.1 hS;refine Gp ?_;have hS:=iz.put {k with ts:=T} hS Xp;by_cases h2:j7 k.g.bF<=k.image+1
  ·rw[zzm (show j7 ({k with ts:=T}:g_).g.bF<=k.image+1 from h2)];refine⟨[.ob (iz sp tp dp lp {k with ts:=T}),.mem H2],⟨H2,hh,?_⟩,aW hS⟩;rw[hR,zzc ⟨h1,h2⟩];exact⟨rfl,rfl⟩
  rw[zzz (show ¬j7 ({k with ts:=T}:g_).g.bF<=k.image+1 from h2)];exact hF (by rw[hR,zzb λh=>h2 h.2]) hh (aW hS)
 exact hF (by rw[hR,zzb λh=>h1 h.1]) hh (aW hS)
def Jr(dp:Nat)(H:bw)(y:DS × Except Int g_)(r:Ω)(post:Ψ):Prop:=match y.2 with
 | .error e=>e≠0/\∃H',H.le H'/\r= .tuple #[.pointer none,.int .i64 e]/\post=[.ob (cw dp y.1),.mem H']
 | .ok k=>∃sp tp lp H',H.le H'/\r= .tuple #[fw sp,.int .i64 0]/\post=[.ob (iz sp tp dp lp k),.ob (cw dp y.1),.mem H']
def W7{R:List PF}{n:Nat}{x:vL}(hx:x.2.2.length=n/\(0<=x.2.1/\x.2.1<=1099511627776)/\∀C∈x.2.2,EO C)(f:Int):(lC R n f x).2.2.length=n/\(0<=(lC R n f x).2.1/\(lC R n f x).2.1<=1099511627776)/\∀C∈(lC R n f x).2.2,EO C:=by
 refine⟨W5 hx.1,eWf hx.2.1,?_⟩;unfold lC;cases hi:mE R n f with
 | none=>exact hx.2.2
 | some y=>
  simp only;split
  ·exact hx.2.2
  exact (wC.1 (Ip hi).1).2
def eWk(R:List PF)(n:Nat):(pE R n).2.2.length=n/\(0<=(pE R n).2.1/\(pE R n).2.1<=1099511627776)/\∀C∈(pE R n).2.2,EO C:=
 W7 (W7 (x:=(-1,0,List.replicate n [])) ⟨xxf,⟨show (0:Int)<=0 by decide,show (0:Int)<=1099511627776 by decide⟩,λC hC=>by rw[(uue.1 hC).2];exact⟨List.Pairwise.nil,by simp,by decide⟩⟩ 0) 1
def f_1(H:bw)(dp:Nat)(d:DS)(gw size:Int){N B:Nat}(eW:d.Ok B)(hB:B<=140737488355328)(hw:ve d.R 16 N)(hN:N<=900000000)(iY:d.ops<=90000)(hn:∀d' g,jX d 16 size=(d',.ok g)->(gR g.bF).length<=50000):
  SP 96 [fw dp,.int .i64 gw,.int .i64 size] [.ob (cw dp d),.mem H] (Jr dp H (pG d gw size)):=by
 refine Enzz λW F w hS=>?_;apply ib2;delta S5 aI gi ai h_;have hR:=eW.Gt;refine Cc (QX gw) ?_;clear hS;rintro r post hq w hS;unfold EK at hq;by_cases ht:gw<1\/8<gw
 ·rw[zzc ht]at hq
  obtain⟨rfl,rfl⟩:=hq;have e:pG d gw size=(d,.error 1):=by unfold pG;rw[zzc ht]
  rw[e];(try simp only[app]at hS);refine Gp ?_
  refine za (λ_=>?_) (λh=>absurd (by decide) h);exact⟨_,⟨by decide,H,bw.le_refl H,rfl,rfl⟩,aW hS⟩
 rw[zzb ht]at hq
 obtain⟨tp,rfl,rfl⟩:=hq;obtain⟨n,rfl⟩:∃n:Nat,gw=n:=⟨gw.toNat,by omega⟩;rw[zzv]at hS
 (try simp only[app]at hS);refine Gp ?_
 refine za (λh=>absurd rfl h) (λ_=>?_);refine Cc (X2 dp d 16 size eW hB hw (by omega) (by omega) (by omega)) ?_;clear hS;rintro r post hq w hS;unfold pG;rw[zzb ht];unfold EL at hq;have Fx:=IH (base:=16) (size:=size) eW;cases xp:jX d 16 size with
 | mk d' o=>
  rw[xp]at hq Fx
  cases o with
  | error e=>
   obtain⟨he,rfl,rfl⟩:=hq;(try simp only[app]at hS);refine Gp ?_
   refine za (λ_=>?_) (λh=>absurd he h);exact⟨_,⟨he,H,bw.le_refl H,rfl,rfl⟩,aW hS⟩
  | ok g=>
   obtain⟨lp,rfl,rfl⟩:=hq;have hG:=X1 hw (by omega) xp;have iew:=hn d' g xp;obtain⟨x1,x2,x3⟩:=eWk d'.R n;(try simp only[app]at hS);refine Gp ?_
   refine za (λh=>absurd rfl h) (λ_=>?_);refine Gp ?_;refine zw hS λsp w hS=>?_;refine Cc (eWn sp tp dp lp d' H (-1,0,List.replicate n []) n xxf (by omega) Fx hB) ?_;clear hS;rintro _ post ⟨H2,kG,rfl⟩ w hS;try simp only[app]at hS
   have hli:lC d'.R n 1 (lC d'.R n 0 (-1,0,List.replicate n []))=pE d'.R n:=rfl;rw[hli]at hS
   simp only[zzv];generalize pE d'.R n=x at *
   obtain⟨nw,im,ts⟩:=x;simp only at x1 x2 x3 hS ⊢;have hS:=iz.jT (d:=d') hS Xp;refine Cc (fRs sp tp dp lp H2 ⟨g,d',ts,nw,im⟩ hG (by omega) (λC hC=>(x3 C hC).sorted) (L0:=1000) (λC hC=>(x3 C hC).len) (by show 1000+16*(gR g.bF).length<=900000;omega) x2) ?_;clear hS;rintro r post ⟨H3,kT,hq⟩ w hS;have tT:=bw.le_trans kG kT;have hK:g_.pZ ⟨g,d',ts,nw,im⟩=match tG n im (gR g.bF) (j7 g.bF) ts with
    | none=>none
    | some ts=>if im<=f_ g.bF/\j7 g.bF<=im+1 then some ts else none:=by rw[<- x1];rfl
   rw[hK]at hq
   clear hK;cases hr:tG n im (gR g.bF) (j7 g.bF) ts with
   | none=>
    rw[hr]at hq
    obtain⟨rfl,rfl⟩:=hq;try simp only[app]at hS
    refine zZ (zq ?_);exact⟨_,⟨by decide,H3,tT,rfl,rfl⟩,aW hS⟩
   | some ts2=>
    rw[hr]at hq
    simp only at hq;by_cases hc:im<=f_ g.bF/\j7 g.bF<=im+1
    ·rw[zzc hc]at hq
     obtain⟨rfl,rfl⟩:=hq;try simp only[app]at hS
     refine zZ (zp ?_);simp only;rw[zzc hc];exact⟨_,⟨sp,tp,lp,H3,tT,rfl,rfl⟩,aW hS⟩
    rw[zzb hc]at hq
    obtain⟨rfl,rfl⟩:=hq;try simp only[app]at hS
    refine zZ (zq ?_);simp only;rw[zzb hc];exact⟨_,⟨by decide,H3,tT,rfl,rfl⟩,aW hS⟩
def QS(H:bw)(dp:Nat)(d:DS)(gw size:Int){N:Nat}(eW:d.Ok N)(hN:N<=900000000)(iY:d.ops<=90000)(hn:∀d' g,jX d 16 size=(d',.ok g)->(gR g.bF).length<=50000):
  SP 96 [fw dp,.int .i64 gw,.int .i64 size] [.ob (cw dp d),.mem H] (Jr dp H (pG d gw size)):=
 f_1 H dp d gw size eW (by omega) (ve.all eW.len 16) hN iY hn
structure Tm where
 id:Int
 when:Int
deriving DecidableEq
instance:Inhabited Tm:=⟨⟨0,0⟩⟩
def lx(t:Tm):Γ:=[.int .i64 t.id,.int .i64 t.when]
def wX(t:Tm):(lx t).length=2:=rfl
def E_(t:Tm):∀v∈lx t,v.oneCell'=true:=by simp[lx,Value.oneCell']
def vT(x:Int):Int:=min (max x 0) 1125899906842624
def uj(a b:Tm):Prop:=a.when<b.when\/(a.when=b.when/\a.id<b.id)
def uX(L:List Tm)(id:Int):List Tm:=L.filter λt=>decide (t.id≠id)
def erase_filter:∀(l:List Tm) (i:Nat) (id:Int),(l.map (·.id)).Nodup->(∃h:i<l.length,l[i].id=id)->uX l id=l.eraseIdx i
 | [],i,id,_,⟨h,_⟩=>by simp at h
 | x::l,0,id,hn,⟨_,he⟩=>by
  simp only[vvf]at he;rw[zzn,wws]at hn
  unfold uX;rw[vvd (by simpa using he),List.eraseIdx_cons_zero,yy2];intro y hy;have:y.id≠x.id:=λe=>hn.1 (e▸zzy.2 ⟨y,hy,rfl⟩);simpa [he] using this
 | x::l,i+1,id,hn,⟨h,he⟩=>by
  rw[zzn,wws]at hn
  have hl:i<l.length:=by simpa using h
  have rj:l[i].id=id:=by simpa using he
  have hx:x.id≠id:=λe=>hn.1 (by rw[e,<- rj];exact zzy.2 ⟨_,zzg hl,rfl⟩);have ih:=erase_filter l i id hn.2 ⟨hl,rj⟩;unfold uX at ih ⊢;rw[vvc (by simpa using hx),uuf,ih]
def eIq{l:List Tm}{id:Int}(h:∀t∈l,t.id≠id):uX l id=l:=by
 unfold uX;rw[yy2];intro t ht;simpa using h t ht
def eIr{l l':List Tm}(h:l.Perm l')(id:Int):(uX l id).Perm (uX l' id):=h.filter _
def eIp{l:List Tm}(h:(l.map (·.id)).Nodup)(id:Int):((uX l id).map (·.id)).Nodup:=h.sublist (List.filter_sublist.map _)
def Hn{α β:Type}(f:α->List β):∀(xs:List α) (s:Nat) (h:s<xs.length) (y:α),∃R,(xs.flatMap f).Perm (f xs[s]++R)/\((xs.set s y).flatMap f).Perm (f y++R)
 | [],s,h,y=>by simp at h
 | x::xs,0,h,y=>⟨xs.flatMap f,by simp,by simp⟩
 | x::xs,s+1,h,y=>by
  obtain⟨R,h1,h2⟩:=Hn f xs s (by simpa using h) y;refine⟨f x++R,?_,?_⟩
  ·simp only[List.flatMap_cons,vvi];refine (h1.append_left _).trans ?_;rw[<- zzk,<- zzk];exact vvp.append_right _
  simp only[List.set_cons_succ,List.flatMap_cons];refine (h2.append_left _).trans ?_;rw[<- zzk,<- zzk];exact vvp.append_right _
structure vQ(xs:List (Ω × List Tm))(L:List Tm):Prop where
 len:xs.length=16
 at_:∀s (h:s<xs.length),∀t∈xs[s].2,md t.id 16=s
 perm:(xs.flatMap (·.2)).Perm L
 nodup:(L.map (·.id)).Nodup
def vQ.sub{xs:List (Ω × List Tm)}{L:List Tm}(h:vQ xs L)(s:Nat)(hs:s<xs.length):(xs[s].2.map (·.id)).Nodup/\∀t∈xs[s].2,t∈L:=by
 obtain⟨R,h1,_⟩:=Hn (·.2) xs s hs xs[s];have hp:=h1.symm.trans h.perm;have hn:=(hp.map (·.id)).nodup_iff.2 h.nodup;rw[zzt]at hn
 exact⟨(ttb.1 hn).1,λt ht=>hp.subset (zz0.2 (.inl ht))⟩
def vQ.mem{xs:List (Ω × List Tm)}{L:List Tm}(h:vQ xs L){t:Tm}(ht:t∈L):∃hs:md t.id 16<xs.length,t∈xs[md t.id 16].2:=by
 have:=h.perm.symm.subset ht;obtain⟨x,hx,Wh⟩:=List.mem_flatMap.1 this;obtain⟨s,hs,rfl⟩:=yy5.1 hx;have e:=h.at_ s hs t Wh;subst e;exact⟨hs,Wh⟩
def vQ.del{xs:List (Ω × List Tm)}{L:List Tm}(h:vQ xs L){id:Int}{i:Nat}(hs:md id 16<xs.length)(hi:i<(xs[md id 16].2).length)(he:(xs[md id 16].2)[i].id=id)(v:Ω):
  vQ (xs.set (md id 16) (v,(xs[md id 16].2).eraseIdx i)) (uX L id):=by
 obtain⟨hn,vt⟩:=h.sub _ hs;have e:=erase_filter _ i id hn ⟨hi,he⟩;refine⟨by simpa using h.len,λs pR t ht=>?_,?_,eIp h.nodup id⟩
 ·rw[xxi]at ht
  split at ht
  ·rename_i es;subst es;exact h.at_ _ hs t (vva ht)
  exact h.at_ s (by simpa using pR) t ht
 obtain⟨R,h1,h2⟩:=Hn (·.2) xs (md id 16) hs (v,(xs[md id 16].2).eraseIdx i);refine h2.trans ?_;simp only;rw[<- e];have h3:=eIr (h1.symm.trans h.perm) id;unfold uX at h3 ⊢;rw[yy0]at h3
 have hR:R.filter (λt=>decide (t.id≠id))=R:=by
  rw[yy2];intro t ht;have Cq:=((h1.symm.trans h.perm).map (·.id)).nodup_iff.2 h.nodup;rw[zzt,ttb]at Cq
  have:=Cq.2.2 id (zzy.2 ⟨_,zzg hi,he⟩) t.id (zzy.2 ⟨t,ht,rfl⟩);simpa using λe=>this e.symm
 rw[hR]at h3
 exact h3
def vQ.gone{xs:List (Ω × List Tm)}{L:List Tm}(h:vQ xs L){id:Int}(hs:md id 16<xs.length)(hn:∀t∈xs[md id 16].2,t.id≠id):∀t∈L,t.id≠id:=λt ht e=>by
 obtain⟨_,hm⟩:=h.mem ht;subst e;exact hn t hm rfl
def cIf{l:List Tm}{id:Int}{i:Nat}(h:l.findIdx? (λt=>decide (t.id=id))=some i):∃hi:i<l.length,l[i].id=id:=by
 obtain⟨hi,h1,_⟩:=yyk.1 h;exact⟨hi,by simpa using h1⟩
def cIg{l:List Tm}{id:Int}(h:l.findIdx? (λt=>decide (t.id=id))=none):∀t∈l,t.id≠id:=λt ht=>by
 have:=xxl.1 h t ht;simpa using this
set_option maxRecDepth 100000
open Go.RowKit
abbrev rE(p:Ω × List Tm):zB:=bR p.1 361 2 p.2.length (p.2.map lx).flatten
def nS(xs:List (Ω × List Tm))(now:Int):Γ:=xs.map (·.1)++[.int .i64 now]
abbrev ER(wp:Nat)(xs:List (Ω × List Tm))(now:Int):Ψ:=[.pt wp (nS xs now) 173,.ob (zg rE xs)]
def mJ(wp:Nat)(L:List Tm)(now:Int):zB:=nT λxs:List (Ω × List Tm)=>zG (vQ xs L) (ER wp xs now)
def mJ.iff{W w:Α}{wp:Nat}{L:List Tm}{now:Int}{l:Ψ}:SL W (.ob (mJ wp L now)::l) w↔∃xs,vQ xs L/\SL W (.pt wp (nS xs now) 173::.ob (zg rE xs)::l) w:=by
 unfold mJ ER;simp only[SL.ex,SL.fact,zzu,zzp]
def Nf{xs:List (Ω × List Tm)}{now:Int}{s o:Nat}{p:Ω × List Tm}(h:xs[s]?=some p)(ho:o=s):(nS xs now)[o]?=some p.1:=by
 subst ho;have hl:=(zzh.1 h).1;unfold nS;rw[zzr (by simpa using hl),wwq,h];rfl
def GJ{xs:List (Ω × List Tm)}{now:Int}(h:xs.length=16):(nS xs now)[0+16]?=some (.int .i64 now):=by
 unfold nS;rw[yya (by simp[h])];simp[h]
def icd{xs:List (Ω × List Tm)}{now:Int}{s o:Nat}(hs:s<xs.length)(ho:o=s)(v:Ω)(l:List Tm):(nS xs now).set o v=nS (xs.set s (v,l)) now:=by
 subst ho;unfold nS;rw[wwm _ _ (by simpa using hs),vvg]
def ice{xs:List (Ω × List Tm)}{now n2:Int}(h:xs.length=16):(nS xs now).set (0+16) (.int .i64 n2)=nS xs n2:=by
 unfold nS;rw[vvq _ _ (by simp[h])];simp[h]
def Yw(x:Int):SP 95 [.int .i64 x] [] (e_ (.int .i64 (vT x)) []):=by
 refine Enzz λW F w hS=>?_;apply ib1;delta S4 ai;refine Gp ?_;(exact dW hS)
def Yh(v:Int):SP 307 [.int .i64 v] [] (e_ (.int .i64 (md v 16:Int)) []):=by
 refine Enzz λW F w hS=>?_;apply h_g;unfold Rz;have hv:0<=IntKind.u64.wrap v:=by rw[wwx];omega
 refine zW ?_;refine ZL (by omega) ?_;have e:(IntKind.u64.wrap v).tmod 16=(md v 16:Int):=by
  rw[xxt hv];unfold md;have:=ww5 (IntKind.u64.wrap v) (show (16:Int)≠0 by omega);omega
 rw[e];have:=mj v 16 (by decide);refine yv (by omega) ?_;(exact dW hS)
def e_z(x:Int):SP 41 [.int .i64 x] [] (λv post=>∃wp:Nat,v= .pointer (some ⟨wp,0,none⟩)/\post=[.ob (mJ wp [] (vT x))]):=by
 refine Enzz λW F w hS=>?_;apply iaw;delta Sl ai bI;refine Cg (Yw x) λw hS=>?_;refine⟨_,rfl,zD hS ?_⟩;clear hS;intro wp w hS;have hS:SL W (.pt wp (nS (List.replicate 16 (.slice none 0 0,[])) (vT x)) 173::F) w:=hS;refine⟨_,⟨wp,rfl,rfl⟩,?_⟩;refine mJ.iff.2 ⟨List.replicate 16 (.slice none 0 0,[]),⟨by simp,λs h t ht=>(by rw[List.getElem_replicate]at ht;cases ht),by simp[List.replicate],by simp⟩,?_⟩;have hn:∀k,SL W (.ob (zg rE (List.replicate k (.slice none 0 0,[])))::.pt wp (nS (List.replicate 16 (.slice none 0 0,[])) (vT x)) 173::F) w:=by
  intro k;induction k with
  | zero=>exact zg.nil hS
  | succ k ih=>
   refine zg.iff.2 ?_;have:=zg.iff.1 ih;exact bR.nil this
 exact (hn 16).perm (.swap _ _ _)
def z8(wp:Nat)(L:List Tm)(now:Int):SP 50 [.pointer (some ⟨wp,0,none⟩)] [.ob (mJ wp L now)] (e_ (.int .i64 now) [.ob (mJ wp L now)]):=by
 refine Enzz λW F w hS=>?_;apply ia5;delta Sw bW;obtain⟨xs,hx,hS⟩:=mJ.iff.1 hS;refine Gp ?_;refine zV hS Xh (GJ hx.len) ?_;exact⟨_,⟨rfl,rfl⟩,mJ.iff.2 ⟨xs,hx,hS⟩⟩
def qA(b:Nat)(id:Int)(t:Tm):SP 355 ([agg (lx t)]++(#[.pointer (some ⟨b,0,none⟩)]:Array Ω).toList) [.pt b [.int .i64 id] 3] (e_ (.bool (decide (t.id=id))) [.pt b [.int .i64 id] 3]):=by
 refine Enzz λW F w hS=>?_;apply iac;delta R5 a_;refine⟨_,rfl,zD hS ?_⟩;clear hS;intro b2 w hS;refine Gp ?_;exact dW hS
def qT(wp:Nat)(xs:List (Ω × List Tm))(now id:Int)(p:Ω × List Tm)(hp:xs[md id 16]?=some p)(B4:xs.length=16)(hn:p.2.length<=1000000):
  SP 306 [.pointer (some ⟨wp,0,none⟩),.int .i64 id] (ER wp xs now) (e_ (.int .i64 (pC (p.2.findIdx? λt=>decide (t.id=id)))) (ER wp xs now)):=by
 refine Enzz λW F w hS=>?_;apply h_f;delta Ry b_;refine⟨rfl,zD hS ?_⟩;clear hS;intro b w hS;refine Gn λw hS=>?_;refine Cg (Yh id) λw hS=>?_;have hm:=mj id 16 (by decide);refine yx hm ?_;refine zV hS Xh (Nf hp (by omega)) ?_;have hS:=zg.take (SL.cR hS (t:=.ob (zg rE xs)::.pt b [.int .i64 id] 3::.pt wp (nS xs now) 173::F) Xi) hp;have hC:=LJ (t:=361) wX rfl (λv0 v1 w R h=>iab v0 v1 w R h) (λt=>qA b id t) p.1 p.2 (by omega);simp only[zzu,zzp]at hC;refine Cc (hC) ?_;clear hS;rintro v post ⟨rfl,rfl⟩ w hS;try simp only[app]at hS
 have hS:=zg.put (y:=p) (SL.cR hS (t:=.ob (rE p)::.ob (zg rE (xs.eraseIdx (md id 16)))::.pt wp (nS xs now) 173::F) Xi) (by omega);have e:xs.set (md id 16) p=xs:=by
  obtain⟨h1,h2⟩:=zzh.1 hp;rw[<- h2];simp
 rw[e]at hS
 (exact dW hS)
def bRr(wp:Nat)(L:List Tm)(now id:Int)(hn:L.length<=1000000):SP 248 [.pointer (some ⟨wp,0,none⟩),.int .i64 id] [.ob (mJ wp L now)]
  (e_ (.bool (decide (∃t∈L,t.id=id))) [.ob (mJ wp (uX L id) now)]):=by
 refine Enzz λW F w hS=>?_;apply gW6;delta PQ aI b_ cW ai;obtain⟨xs,hx,hS⟩:=mJ.iff.1 hS;have hm:=mj id 16 (by decide);have hs:md id 16<xs.length:=by rw[hx.len];exact hm
 have hp:xs[md id 16]?=some xs[md id 16]:=by simp[hs]
 obtain⟨hnd,vt⟩:=hx.sub _ hs;have jz:(xs[md id 16].2).length<=1000000:=by
  obtain⟨R,h1,_⟩:=Hn (·.2) xs _ hs xs[md id 16];have:=(h1.symm.trans hx.perm).length_eq;rw[zza]at this;omega
 have hxd:=λi (hi:i<(xs[md id 16].2).length) he v=>hx.del hs (i:=i) hi he v;have dIo:=hx.gone hs;generalize xs[md id 16]=p at *
 refine Cc (qT wp xs now id p hp hx.len jz) ?_;clear hS;rintro v post ⟨rfl,rfl⟩ w hS;try simp only[app]at hS
 cases hf:p.2.findIdx? (λt=>decide (t.id=id)) with
 | none=>
  have ko:=dIo (cIg hf);simp only[pC];refine Gp ?_;refine za (λ_=>?_) (λh=>by omega);have e:decide (∃t∈L,t.id=id)=false:=by
   rw[yy7];rintro ⟨t,ht,he⟩;exact ko t ht he
  rw[e,eIq ko];exact⟨_,⟨rfl,rfl⟩,mJ.iff.2 ⟨xs,hx,aW hS⟩⟩
 | some i=>
  obtain⟨hi,he⟩:=cIf hf;simp only[pC];refine Gp ?_;refine za (λh=>by omega) (λ_=>?_);refine Cg (Yh id) λw hS=>?_;refine yx hm ?_;refine zV hS Xh (Nf hp (by omega)) ?_;refine Gp ?_;have hS:=zg.take (SL.cR hS (t:=.ob (zg rE xs)::.pt wp (nS xs now) 173::F) Xi) hp;refine Cc (Ka (sz:=2) (l5:=16) (z:=[.int .i64 0,.int .i64 0]) (zv:=.agg #[.int .i64 0,.int .i64 0]) (λv0 v1 v2 w R h=>h_h v0 v1 v2 w R h) Tryz.underlying170 (λw=>by kernel_rfl) rfl rfl (by simp[Value.oneCell']) p.1 p.2.length i (p.2.map lx).flatten hi (xC E_ _) (by omega) (by omega)) ?_;clear hS;rintro v post rfl w hS;try simp only[app]at hS
  refine yx hm ?_;have o1:v.oneCell'=true:=bR.one hS;refine Zz hS Xu (Nf hp (by omega)) o1 ?_;clear hS;intro w hS;have ef:List.take (i*2) (p.2.map lx).flatten++List.drop ((i+1)*2) (p.2.map lx).flatten=((p.2.eraseIdx i).map lx).flatten:=by
   rw[xV wX,AS wX,List.eraseIdx_eq_take_drop_succ];simp
  have el:p.2.length-1=(p.2.eraseIdx i).length:=by rw[uut,zzc hi]
  rw[ef,el,icd hs (by omega) v (p.2.eraseIdx i)]at hS
  have hS:=zg.put (y:=(v,p.2.eraseIdx i)) (SL.cR hS (t:=.ob (rE (v,p.2.eraseIdx i))::.ob (zg rE (xs.eraseIdx (md id 16)))::.pt wp (nS (xs.set (md id 16) (v,p.2.eraseIdx i)) now) 173::F) Xi) hs;have e:decide (∃t∈L,t.id=id)=true:=by
   rw[uud];exact⟨_,vt _ (zzg hi),he⟩
  rw[e];exact⟨_,⟨rfl,rfl⟩,mJ.iff.2 ⟨_,hxd i hi he v,aW hS⟩⟩
def bwf{K:Ω->Prop}{w:Α}{xs:List (Ω × List Tm)}{k:Nat}{p:Ω × List Tm}(hp:xs[k]?=some p)(B4:k<16)(h:K p.1):jY Tryz.prog (Instr.index 171 (.agg (xs.map (·.1)).toArray) (.int .i64 (k:Int))) w K:=
 awa Tryz.underlying171 (λw=>by kernel_rfl) (λw=>by kernel_rfl) B4 (by rw[wwq,hp];rfl) h
def icc{xs:List (Ω × List Tm)}{now:Int}(h:xs.length=16):∀j v,(xs.map (·.1))[j]?=some v->(nS xs now)[0+0+j]?=some v:=λj v e=>by
 unfold nS;rw[zzr (by have:=(zzh.1 e).1;omega),show 0+0+j=j by omega];exact e
def oQ(now:Int)(L:List Tm):List Tm:=L.filter λt=>decide (t.when<=now)
def bWc(wp:Nat)(xs:List (Ω × List Tm))(now:Int)(B4:xs.length=16)(hn:(xs.flatMap (·.2)).length<=1000000):SP 242 [.pointer (some ⟨wp,0,none⟩)] (ER wp xs now)
  (λv post=>post=[.pt wp (nS xs now) 173,.ob (zg rE xs),.ob (bR v 361 2 (oQ now (xs.flatMap (·.2))).length ((oQ now (xs.flatMap (·.2))).map lx).flatten)]):=by
 refine Enzz λW F w hS=>?_;apply gW2;delta PL aI bW a_ b_ ai bI;refine Gp ?_;refine yD (vs:=xs.map (·.1)) hS Xh (by simp[B4]) (icc B4) ?_;have hf:∀k (h:k<xs.length),(xs.take (k+1)).flatMap (·.2)=(xs.take k).flatMap (·.2)++xs[k].2:=λk h=>by
  rw[zze h,vv5];simp
 have jJ:∀k,((xs.take k).flatMap (·.2)).length<=1000000:=λk=>by
  have:xs=xs.take k++xs.drop k:=by simp
  rw[this,vv5,zza]at hn;omega
 refine⟨λus w=>∃(k:Nat) (v:Ω),us=[v,.int .i64 k]/\k<=16/\SL W (.ob (bR v 361 2 (oQ now ((xs.take k).flatMap (·.2))).length ((oQ now ((xs.take k).flatMap (·.2))).map lx).flatten)::.pt wp (nS xs now) 173::.ob (zg rE xs)::F) w,
  λus _=>match us with|[_,.int _ k]=>(16-k).toNat|_=>0,⟨0,_,rfl,by omega,bR.nil hS⟩,?_⟩
 clear hS;rintro v3 v10 w ⟨k,v,hv,hk,hS⟩;cases hv;refine cF (λh=>?_) (λh=>?_)
 ·have H0:k<xs.length:=by omega
  have hp:xs[k]?=some xs[k]:=by simp[H0]
  have h1:=hf k H0;have h2:=jJ (k+1);refine bwf hp (by omega) ?_;rw[h1,zza]at h2
  have sh:∀(v:Ω) (w:Α),SL W (.ob (bR v 361 2 (oQ now ((xs.take (k+1)).flatMap (·.2))).length ((oQ now ((xs.take (k+1)).flatMap (·.2))).map lx).flatten)::.pt wp (nS xs now) 173::.ob (zg rE xs)::F) w ->
    (∃(k':Nat) (v':Ω),([v,.int .i64 (k+1:Nat)]:Γ)=[v',.int .i64 k']/\k'<=16/\SL W (.ob (bR v' 361 2 (oQ now ((xs.take k').flatMap (·.2))).length ((oQ now ((xs.take k').flatMap (·.2))).map lx).flatten)::.pt wp (nS xs now) 173::.ob (zg rE xs)::F) w) /\
    ((16:Int)-((k+1:Nat):Int)).toNat<((16:Int)-(k:Int)).toNat:=λv w hS=>⟨⟨k+1,v,rfl,by omega,hS⟩,by omega⟩
  rw[h1]at sh
  have hT:=λ{A:Ψ} {w:Α} (hS:SL W (.ob (zg rE xs)::A) w)=>zg.take hS hp;generalize xs[k]=p at *
  generalize (xs.take k).flatMap (·.2)=A at *
  have x9:=hT (SL.cR hS (t:=.ob (zg rE xs)::F) Xi);refine zt x9 .hd ?_;clear x9;refine⟨λus w=>∃(j:Nat) (v:Ω),us=[v,.int .i64 j]/\j<=p.2.length/\SL W (.ob (bR v 361 2 (oQ now (A++p.2.take j)).length ((oQ now (A++p.2.take j)).map lx).flatten)::.pt wp (nS xs now) 173::.ob (zg rE xs)::F) w,
   λus _=>match us with|[_,.int _ j]=>(p.2.length-j).toNat|_=>0,⟨0,_,rfl,by omega,by simpa using hS⟩,?_⟩
  clear hS;rintro v4 v17 w ⟨j,v,hv,hj,hS⟩;cases hv;refine cF (λh=>?_) (λh=>?_)
  ·have lV:j<p.2.length:=by omega
   have x9:=hT (SL.cR hS (t:=.ob (zg rE xs)::F) Xi);refine zU x9 .hd wX (x:=p.2[j]) (by simp[lV]) lV ?_;clear x9;have pB:oQ now (A++p.2.take (j+1))=if p.2[j].when<=now then oQ now (A++p.2.take j)++[p.2[j]] else oQ now (A++p.2.take j):=by
    unfold oQ;rw[zze lV,<- zzk,yy0 (l₁:=A++p.2.take j)];by_cases hw:p.2[j].when<=now<;>simp[hw]
   have tZ:(oQ now (A++p.2.take j)).length<=1000000:=by
    refine yyw (yyp _ _) ?_;rw[zza,zzf];omega
   generalize p.2[j]=t at pB;refine zD hS ?_;clear hS;intro b w hS;refine zr (vs:=lx t) hS .hd rfl rfl (E_ _) ?_;clear hS;intro w hS;refine Gn λw hS=>?_;refine zV hS Xh (GJ B4) ?_;refine cF (λhw=>?_) (λhw=>?_)
   ·refine zC hS .hd rfl ?_;refine zL (cells:=lx t) hS (by simp[mq,fR,Value.cells,lx]) ?_;clear hS;intro b2 w hS;rw[zzc hw]at pB
    refine zI (m:=1) hS Xr (oG (cs:=lx t) hS .hd rfl) rfl rfl (E_ _) (by omega) (by omega) ?_;clear hS;intro v' w hS;refine Gp ?_;refine⟨⟨j+1,v',by simp,by omega,?_⟩,by dsimp only;omega⟩;rw[pB,AT,zza,zz6];exact aW hS
   rw[zzb hw]at pB
   refine Gp ?_;refine⟨⟨j+1,v4,by simp,by omega,?_⟩,by dsimp only;omega⟩;rw[pB];exact aW hS
  have hjj:j=p.2.length:=by omega
  subst hjj;rw[zz1]at hS
  refine Gp ?_;exact sh v4 w hS
 have H0:k=16:=by omega
 subst H0;have e:xs.take 16=xs:=by rw[<- B4,zz1]
 rw[e]at hS
 exact⟨_,rfl,aW hS⟩
