/-
  Texts of the proof, joined: Own, OpT, CellsN, TxT, TxL, PlaySig, TxnsS, BytesT, Law12K, Law28, SameI, Law28D, Law28E, Law28K, Law28P, Law28A, Law28N, Law28T.
-/
import Derived.Test.YtfenmffiidchcaaGreatJ12
import Derived.Test.YtfenmffiidchcaaGreatRows
namespace Go.Proofs.YtfenmffiidchcaaGreat
set_option linter.unusedVariables false
theorem Tryz.own:ownKnob Tryz.prog.godebug=none:=by kernel_rfl
theorem Tryz.laidOut:laidOutB Tryz.prog=true:=by kernel_rfl
set_option maxRecDepth 100000
open Go.ChangeShapes Go.WideShapes Go.ChangeAt Go.RowKit
theorem ph.WV{α:Type}{T:lI α}{w:World}{xs:List α}{v:Value}(h:ph T w nU xs v)(hT:0<T.n):
  ∃wo:List (List Value),wo.length=xs.length/\fW (bw.of w) T.n v xs.length wo.flatten/\∀i (h:i<xs.length) (h':i<wo.length),T.rd w nU xs[i] wo[i]:=by
 obtain⟨a,cap,rfl,hc,hx⟩:=h.out
 have hex:∀i,∃cs:List Value,cs.length=T.n/\∀h:i<xs.length,T.rd w nU xs[i] cs/\∃b off,a=some ⟨b,off,none⟩/\At w nU b (off+i*T.n) cs:=λi=>by
  by_cases hi:i<xs.length
  ·obtain⟨b,off,cs,ha,hr,kM⟩:=hx i hi
   exact⟨cs,T.len hr,λ_=>⟨hr,b,off,ha,kM⟩⟩
  ·exact⟨List.replicate T.n undef,by simp,λh=>absurd h hi⟩
 obtain⟨f,hf⟩:=Classical.axiomOfChoice hex
 have hlen:∀x∈(List.range xs.length).map f,x.length=T.n:=λx hx=>by
  obtain⟨i,_,rfl⟩:=List.mem_map.1 hx;exact (hf i).1
 have pP:((List.range xs.length).map f).flatten.length=xs.length*T.n:=by rw[GV (n:=T.n) _ hlen];simp
 refine⟨(List.range xs.length).map f,by simp,⟨pP,a,cap,rfl,hc,?_⟩,λi hi Ez=>?_⟩
 ·rcases Nat.eq_zero_or_pos xs.length with h0|h0
  ·exact .inl h0
  ·right
   obtain⟨_,b,off,rfl,_⟩:=(hf 0).2 h0
   refine⟨b,off,rfl,λj u hu=>?_⟩
   have hj:=(List.getElem?_eq_some_iff.1 hu).1
   rw[pP]at hj
   have hi:j / T.n<xs.length:=(Nat.div_lt_iff_lt_mul hT).2 hj
   obtain⟨_,b',bR2,vv,kM⟩:=(hf (j / T.n)).2 hi
   simp at vv
   obtain⟨rfl,rfl⟩:=vv
   have xQ:j % T.n<(f (j / T.n)).length:=by rw[(hf _).1];exact Nat.mod_lt _ hT
   have hg:=D' (n:=T.n) ((List.range xs.length).map f) hlen (j / T.n) (j % T.n) (by simpa using hi) ((f (j / T.n))[j % T.n]'xQ) (by simp[List.getElem?_eq_getElem xQ])
   have Hg:j / T.n*T.n+j % T.n=j:=by rw[Nat.mul_comm];exact Nat.div_add_mod j T.n
   rw[Hg,hu]at hg
   have A6:u=(f (j / T.n))[j % T.n]:=Option.some.inj hg
   have:=kM.2 (j % T.n) u (by rw[A6];exact List.getElem?_eq_getElem xQ)
   rw[show off+j / T.n*T.n+j % T.n=off+j by omega]at this
   unfold World.cell? at this
   unfold bw.cell bw.of
   simp only at this ⊢
   split at this
   ·rename_i c t f q';rw[q'];simpa using this
   ·cases this
 ·simpa using ((hf i).2 hi).1
def FD:lI iy:=(oe (rA .i64) (oe (rA .i64) (oe U9 (oe Dn Dp)))).via λo=>(o.table,o.key,o.gone,o.val,())
theorem cFn{w:World}{M:MS}{o:iy}{cs:List Value}(h:FD.rd w M o cs):cs=jE o:=by
 obtain⟨c1,c2,rfl,h1,c3,c4,rfl,h3,c5,c6,rfl,h5,c7,c8,rfl,h7,h8⟩:=h
 have B5:c1=[.int .i64 o.table]:=h1
 have B7:c3=[.int .i64 o.key]:=h3
 have B9:c5=[.bool o.gone]:=h5
 have B':c7=[.string o.val]:=h7
 have G4:c8=[]:=h8
 subst B5 B7 B9 B' G4
 rfl
def bR5(c:iy):Prop:=EZ .i64 c.key
theorem W2:pI Tryz.prog 82 FD bR5:=
 Z9 (ZD (λo:iy=>(o.table,o.key,o.gone,o.val,())) (λx=>⟨x.1,x.2.1,x.2.2.1,x.2.2.2.1⟩) (λ_=>rfl)
  (yW Tryz.underlying82 (by kernel_rfl) (oR (zN Tryz.underlying3 (by kernel_rfl)) rfl (oR (zN Tryz.underlying2 (by kernel_rfl)) rfl (oR (QE Tryz.underlying4 (by kernel_rfl)) rfl (oR (YK Tryz.underlying9 (by kernel_rfl)) rfl (GM _ _))))))) (λo h=>h.2.1)
set_option maxRecDepth 100000
open Go.RowKit
theorem cws(s:ByteArray)(k:Nat)(h1:0<k)(h2:k<=8):SP 108 [.string s,.int .i64 k] [] (λv post=>∃r,v= .string r/\r.size<=40/\post=[]):=by
 intro W F w hS;apply cIy;delta J9 aF ai;(try simp only[app]at hS)
 refine Gp ?_
 refine za (λh=>⟨_,⟨_,rfl,by decide,rfl⟩,hS⟩) (λh=>?_)
 have nM:0<s.size:=by
  rcases Nat.eq_zero_or_pos s.size with h0|h0
  ·refine absurd ?_ h
   obtain⟨⟨l⟩⟩:=s
   have:l=[]:=List.eq_nil_of_length_eq_zero h0
   subst this;rfl
  ·exact h0
 refine UO (j:=0) Tryz.underlying9 nM ?_
 generalize s[0]=b
 have hb:b.toNat<256:=b.toNat_lt
 generalize b.toNat=n at hb
 refine yl (by omega) ?_
 refine YP (by decide) ?_
 refine b9 (λh3=>?_) (λh3=>?_)
 ·refine Cg (qu s 40) λw hS=>?_
  exact⟨_,⟨_,rfl,by unfold DV;rw[ByteArray.size_extract];omega,rfl⟩,hS⟩
 ·refine UI (by decide) (by rw[Int.tdiv_eq_ediv_of_nonneg (by omega)];omega) ?_
  rw[show (n:Int).tdiv 4=((n / 4:Nat):Int) by rw[Int.tdiv_eq_ediv_of_nonneg (by omega)];omega]
  refine UJ h1 ?_
  have hk:n / 4 % k<8:=Nat.lt_of_lt_of_le (Nat.mod_lt _ h1) h2
  refine Gp ?_
  refine zO ?_
  generalize hx:IntKind.u8.wrap (48+((n / 4 % k:Nat):Int))=x
  refine zD hS (cells:=[.int .u8 x]) (by simp[lr,cW,Value.cells]) ?_
  clear hS;intro b1 w hS
  refine YO hS .hd Tryz.underlying62 Tryz.underlying9 Tryz.underlying5 ?_
  generalize hA:(⟨#[UInt8.ofNat x.toNat]⟩:ByteArray)=A
  have AO:A.size=1:=by rw[<- hA];rfl
  refine Q6 (by rw[AO];decide) ?_
  generalize hB:(⟨#[115,110,97,112,115,104,111,116,32]⟩:ByteArray)++A=B
  have Rv:B.size<=10:=by rw[<- hB,ByteArray.size_append,AO];decide
  refine YP (by decide) ?_
  refine Gp ?_
  refine za (λh4=>?_) (λh4=>⟨_,⟨_,rfl,by omega,rfl⟩,aR hS⟩)
  refine Q6 (Nat.le_trans (Nat.add_le_add_right Rv _) (by decide)) ?_
  generalize hC:B++(⟨#[32]⟩:ByteArray)=C
  have hCs:C.size<=11:=by rw[<- hC,ByteArray.size_append];exact Nat.add_le_add_right Rv _
  refine UI (by decide) (by rw[Int.tdiv_eq_ediv_of_nonneg (by omega)];omega) ?_
  rw[show (n:Int).tdiv 16=((n / 16:Nat):Int) by rw[Int.tdiv_eq_ediv_of_nonneg (by omega)];omega]
  refine YP (by decide) ?_
  rw[show ((n / 16:Nat):Int).tmod 8=((n / 16 % 8:Nat):Int) by rw[Int.tmod_eq_emod_of_nonneg (by omega)];omega]
  refine Gp ?_
  refine zO ?_
  generalize IntKind.u8.wrap (49+((n / 16 % 8:Nat):Int))=y
  refine zD hS (cells:=[.int .u8 y]) (by simp[lr,cW,Value.cells]) ?_
  clear hS;intro b2 w hS
  refine YO hS .hd Tryz.underlying62 Tryz.underlying9 Tryz.underlying5 ?_
  refine Q6 (Nat.le_trans (Nat.add_le_add_right hCs _) (by show 11+1<=1000000;decide)) ?_
  exact⟨_,⟨_,rfl,by rw[ByteArray.size_append];show C.size+1<=40;omega,rfl⟩,aR hS⟩
theorem cwt(H:bw)(v:Value)(l:List ByteArray)(k l4:Nat)(hv:fW H 1 v l.length (l.map Value.string))(h1:0<k)(h2:k<=8)(hm:l4<=1000)(hn:l.length<=140737488351232):
  SP 38 [v,.int .i64 k,.int .i64 l4] [.mem H] (λu post=>∃(H':bw) (rs:List ByteArray),H.le H'/\rs.length<=l4/\(∀s∈rs,s.size<=40)/\fW H' 1 u rs.length (rs.map Value.string)/\post=[.mem H']):=by
 intro W F w hS;apply dRb;delta NL aF ai dw bR;(try simp only[app]at hS)
 refine⟨λus w=>∃(m:Nat) (u:Value) (rs:List ByteArray),us=[u,.int .i64 m]/\m<=l.length/\rs.length=m/\m<=l4/\(∀s∈rs,s.size<=40)/\SL W (.ob (bI u 9 1 m (rs.map Value.string))::.mem H::F) w,
  λus _=>match us with|[_,.int _ m]=>(l.length-m).toNat|_=>0,⟨0,_,[],rfl,by omega,rfl,by omega,by simp,bI.nil hS⟩,?_⟩
 clear hS
 rintro v7 v8 w ⟨m,u,rs,dR,tU,Sv,HB,B8,hS⟩
 cases dR
 have kX:∀w,SL W (.ob (bI v7 9 1 m (rs.map Value.string))::.mem H::F) w ->
   ∃post,(∃(H':bw) (rs:List ByteArray),H.le H'/\rs.length<=l4/\(∀s∈rs,s.size<=40)/\fW H' 1 v7 rs.length (rs.map Value.string)/\post=[.mem H'])/\SL W (app post F) w:=λw hS=>by
  obtain⟨H2,f',hR,hS⟩:=zu (H:=H) (v:=v7) hS Xp
  rw[<- Sv]at hR
  exact⟨_,⟨H2,rs,f',by omega,B8,hR,rfl⟩,hS⟩
 refine zn hv ?_
 refine Gp ?_
 refine za (λh=>?_) (λh=>kX w hS)
 refine Gp ?_
 refine za (λh3=>?_) (λh3=>kX w hS)
 clear kX
 have b8:m<l.length:=by omega
 refine yn hS Xh hv b8 (u:=.string l[m]) (by simp[b8]) ?_
 refine Cc (cws l[m] k h1 h2) ?_;clear hS
 rintro v26 post ⟨r,rfl,a_i,rfl⟩ w hS
 refine Gm λb w hS=>?_
 refine zy (n:=m) (m:=1) hS Xr (lX (cs:=[.string r]) hS .hd rfl) rfl rfl (by simp[Value.oneCell']) (by omega) (by omega) ?_
 clear hS;intro u' w hS
 refine Gp ?_
 refine⟨⟨m+1,u',rs++[r],rfl,(by omega),(by simp[Sv]),(by omega),(λs hs=>by
  rcases List.mem_append.1 hs with hs|hs
  ·exact B8 s hs
  ·rw[List.mem_singleton.1 hs];exact a_i),(by rw[List.map_append,List.map_cons,List.map_nil];exact aR hS)⟩,(by dsimp only;omega)⟩
open Go.ChangeShapes Go.WideShapes Go.ChangeAt Go.RowKit
set_option maxRecDepth 100000
open Go.RowKit
theorem ig.Good.x_{p:ig}{N:Nat}(h:p.Good N)(hN:N<=900000000):p.Ok:=
 ⟨⟨h.reqs,h.t1,by have:=h.rows;omega,h.mO⟩,h.d,h.d.len,⟨N,h.src,hN⟩,h.n,h.row.1,by have:=h.wid;omega⟩
theorem eI.bRo{W w:World}{l:List Chunk}{H:bw}{xp:Nat}(hS:SL W (.pt xp [.slice none 0 0,.int .i64 0,.bool false,.int .i64 0] 66::l) w):SL W (.ob (eI H xp mF)::l) w:=by
 have hS:SL W (.ob (bI (.slice none 0 0) 186 3 0 [])::.pt xp [.slice none 0 0,.int .i64 0,.bool false,.int .i64 0] 66::l) w:=bI.nil hS
 exact (eI.iff (H:=H) (s:=mF)).2 ⟨Value.slice none 0 0,[],⟨rfl,λy hy=>by cases hy⟩,SL.b_ hS (t:=.pt xp [.slice none 0 0,.int .i64 0,.bool false,.int .i64 0] 66::.ob (bI (.slice none 0 0) 186 3 0 [])::l) Xi⟩
structure vf where
 xb:Nat
 sp:Nat
 tp:Nat
 dp:Nat
 lp:Nat
 mp:Nat
 wp:Nat
 pp:Nat
 gp:Nat
 kp:Nat
 xp:Nat
 oH:Nat
 rp:Nat
 ym:Nat
 yw:Nat
 zp:Nat
 zg:Nat
abbrev Xm(x:vf):List Value:=[eF x.dp,eF x.sp,eF x.mp,eF x.pp,eF x.xp,eF x.kp,eF x.ym,eF x.zp]
abbrev rD(x:vf):Chunk:=.pt x.xb (Xm x) 95
abbrev w5(x:vf)(H1 H2 H3:bw)(p q:ig):List Chunk:=[rD x,.pt x.pp (lF x.sp x.mp x.wp x.gp p.n) 201,.ob (jU x.gp p.d),.ob (gF x.mp x.wp H1 p.m),.ob (iC x.sp x.tp x.dp x.lp p.k),.ob (dI x.dp p.k.d),.pt x.zp (lW x.kp x.ym x.zg q.n) 286,.ob (jy x.zg H2 q.d),.ob (iL x.ym x.yw H2 q.m),.ob (ij x.kp x.xp x.oH x.rp H2 q.k),.ob (eI H2 x.xp q.k.d),.mem H3]
abbrev rE(x:vf)(H:bw)(p:ig):List Chunk:=w5 x H H H p p
theorem Fj{W w:World}{F:List Chunk}{x:vf}{H1 H2 H3:bw}{p q:ig}(h1:H1.le H3)(h2:H2.le H3)(hS:SL W (app (w5 x H1 H2 H3 p q) F) w):SL W (app (w5 x H3 H3 H3 p q) F) w:=by
 try simp only[app]at hS
 have hS:=gF.iK (mp:=x.mp) (wp:=x.wp) (m:=p.m) h1 hS Xr
 have hS:=jy.iK (p:=x.zg) (d:=q.d) h2 hS Xr
 have hS:=iL.iK (mp:=x.ym) (wp:=x.yw) (m:=q.m) h2 hS Xr
 have hS:=ij.iK (k:=q.k) h2 hS Xr
 have hS:=eI.iK (xp:=x.xp) h2 hS Xr
 exact aR hS
def vS(n:Nat)(c:pg):ig:=⟨rm n c.size,⟨n,c.late,0,[],m9 c.chunk⟩,nW,c.chunk⟩
structure Ag(n:Nat)(c:pg):Prop where
 tables:c.tables=n
 n1:1<=n
 n8:n<=8
 s0:64<=c.size
 s1:c.size<=65536
 eF4:0<=c.late
 eF5:c.late<2 ^ n
 c1:1<=c.chunk
 Pf:c.chunk<=64
theorem Tv:kW []:=⟨by decide,λi h=>by simp at h⟩
theorem Ag.mux{n:Nat}{c:pg}(h:Ag n c):¬tq n c.late c.chunk 0 []:=by
 obtain⟨h1,h2,h3,h4,h5,h6,h7,h8,h9⟩:=h
 unfold tq
 rw[show ((n:Nat):Int).toNat=n from Int.toNat_natCast n]
 rintro (h|h|h|h|h|h|h|h|h|⟨r,hr,_⟩)
 ·omega
 ·omega
 ·omega
 ·omega
 ·omega
 ·omega
 ·omega
 ·omega
 ·exact h Tv
 ·cases hr
theorem Uh{n:Nat}{c:pg}(h:Ag n c):(vS n c).Good 0:=
 ⟨Tv,⟨by have:=h.n1;show (1:Int)<=(n:Int);omega,by have:=h.n8;show (n:Int)<=8;omega⟩,by show (0:Int)<=0/\(0:Int)<=1099511627776;decide,h.Pf,by show 0<=64;decide,by show (0:Int)<=0/\(0:Int)<=64;decide,XM,(λm hm=>by cases hm),⟨h.c1,h.Pf⟩,cwx h.n1 h.n8 h.s0 h.s1⟩
theorem Zp(H:bw)(c:pg)(n:Nat)(hc:Ag n c):
  SP 40 [agg (tJ c)] [.mem H] (λv post=>∃(x:vf) (H':bw),H.le H'/\v=eF x.xb/\post=rE x H' (vS n c)):=by
 obtain⟨e1,_⟩:=UX hc.n1 hc.n8 hc.s0 hc.s1
 have EI:=hc.mux
 have HE:∀d' g,kV mF 16 c.size=(d',.ok g)->(iY g.bW).length<=50000:=λd' g h=>by rw[TX (by decide) (by decide) hc.s0 hc.s1]at h;cases h;exact Nat.zero_le _
 obtain⟨ct,cl,cs,cq,cc,sr,uA,cm,cj,ce⟩:=c
 obtain⟨c1,c2,c3,c4,c5,c6,c7,c8,c9⟩:=hc
 simp only at c1 c4 c5 c6 c7 c8 c9 e1 HE EI
 subst c1
 intro W F w hS;apply dRc;delta NM bF a_ fR d_ ai gw bR;(try simp only[app]at hS)
 refine zC hS λcb w hS=>?_
 unfold tJ at hS
 refine Cc (bRp) ?_;clear hS
 rintro _ post ⟨dp,rfl,rfl⟩ w hS
 (try simp only[app]at hS);refine Gp ?_
 refine zC hS λxp w hS=>?_
 have hS:=eI.bRo (H:=H) hS
 refine Gp ?_
 refine zC hS λxb w hS=>?_
 have hS:SL W (.pt xb [eF dp,.pointer none,.pointer none,.pointer none,eF xp,.pointer none,.pointer none,.pointer none] 95::_) w:=hS
 refine Gp ?_
 refine zt ?_
 refine Gn λw hS=>?_
 refine Cc (cwy H dp mF n cs (I3 0) (by decide) (by decide) HE) ?_;clear hS
 rintro r post hq w hS
 rw[e1]at hq
 obtain⟨sp,tp,lp,H1,fF,rfl,rfl⟩:=hq
 refine Gn λw hS=>?_
 refine Cc (bRe H1 n cl cc 0 (.slice none 0 0) [] (fW.nil _ _) (by decide)) ?_;clear hS
 rintro r post hq w hS
 rcases hq with ⟨hq,_⟩|⟨_,mp,wp,H2,f',rfl,rfl⟩
 ·exact absurd hq EI
 refine Gn λw hS=>?_
 refine zt ?_
 refine Gp ?_
 refine zt ?_
 refine Gn λw hS=>?_
 refine Cc (cw5 sp mp wp H2 ⟨n,cl,0,[],m9 cc⟩ cc) ?_;clear hS
 rintro r post hq w hS
 rcases hq with ⟨hq,_⟩|⟨_,pp,gp,rfl,rfl⟩
 ·exact absurd ⟨c8,c9⟩ hq
 refine Gn λw hS=>?_
 refine zt ?_
 obtain⟨rv,hr,hS⟩:=gF.iff.1 (SL.b_ hS (t:=.ob (gF mp wp H2 ⟨n,cl,0,[],m9 cc⟩)::.pt pp (lF sp mp wp gp cc) 201::.ob (jU gp nW)::.ob (iC sp tp dp lp (rm n cs))::.ob (dI dp mF)::.ob (eI H xp mF)::.pt xb [eF dp,eF sp,eF mp,eF pp,eF xp,.pointer none,.pointer none,.pointer none] 95::.pt cb [.int .i64 n,.int .i64 cl,.int .i64 cs,.int .i64 cq,.int .i64 cc,.int .i64 sr,.int .i64 uA,.int .i64 cm,.int .i64 cj,.int .i64 ce] 87::.mem H2::F) Xi)
 refine Gp ?_
 refine Yk (vs:=[eF wp]) hS Xh rfl (λj v e=>by
  match j,e with
  | 0,e=>exact e) ?_
 refine Cg (ZA wp) λw hS=>?_
 refine zt ?_
 have hS:=gF.put _ rv hr hS Xp
 have hS:=eI.iK (xp:=xp) (bw.le_trans fF f') hS Xr
 refine Gn λw hS=>?_
 refine Cc (qZ H2 xp mF n cs (N:=0) (I3 0) (by decide) (λx hx=>by cases hx) (by decide) (by decide) HE) ?_;clear hS
 rintro r post hq w hS
 rw[e1]at hq
 obtain⟨kp,oH,rp,H3,jA,rfl,rfl⟩:=hq
 refine Gn λw hS=>?_
 refine Cc (QV H3 n cl cc 0 (.slice none 0 0) [] (fW.nil _ _) (by decide)) ?_;clear hS
 rintro r post hq w hS
 rcases hq with ⟨hq,_⟩|⟨_,ym,yw,H4,ld,rfl,rfl⟩
 ·exact absurd hq EI
 refine Gn λw hS=>?_
 refine Cc (q6 kp ym H4 cc) ?_;clear hS
 rintro r post hq w hS
 rcases hq with ⟨hq,_⟩|⟨_,zp,zg,rfl,rfl⟩
 ·exact absurd ⟨c8,c9⟩ hq
 refine Gn λw hS=>?_
 have hS:=gF.iK (mp:=mp) (wp:=wp) (m:=⟨n,cl,0,[],m9 cc⟩) (bw.le_trans jA ld) hS Xr
 have hS:=ij.iK (k:=rm n cs) ld hS Xr
 have hS:=eI.iK (xp:=xp) ld hS Xr
 refine⟨_,⟨⟨xb,sp,tp,dp,lp,mp,wp,pp,gp,kp,xp,oH,rp,ym,yw,zp,zg⟩,H4,bw.le_trans fF (bw.le_trans f' (bw.le_trans jA ld)),rfl,rfl⟩,?_⟩
 exact SL.b_ hS (t:=.pt xb [eF dp,eF sp,eF mp,eF pp,eF xp,eF kp,eF ym,eF zp] 95::.pt pp (lF sp mp wp gp cc) 201::.ob (jU gp nW)::.ob (gF mp wp H4 ⟨n,cl,0,[],m9 cc⟩)::.ob (iC sp tp dp lp (rm n cs))::.ob (dI dp mF)::.pt zp (lW kp ym zg cc) 286::.ob (jy zg H4 nW)::.ob (iL ym yw H4 ⟨n,cl,0,[],m9 cc⟩)::.ob (ij kp xp oH rp H4 (rm n cs))::.ob (eI H4 xp mF)::.mem H4::F) Xi
theorem X1(a b:pU)(w:World):(Op.equal 123 (agg (oO a)) (agg (oO b))).run Tryz.prog w= .ok (decide (a=b)) w:=by
 refine Bn Tryz.underlying123 (by kernel_rfl) ?_
 obtain⟨a1,a2,a3,a4,a5⟩:=a
 obtain⟨b1,b2,b3,b4,b5⟩:=b
 simp[oO,Op.eqFields,part,run_equalIn_int (h:=Tryz.underlying2),run_equalIn_int (h:=Tryz.underlying3),run_equalIn_bool' (h:=Tryz.underlying4),run_equalIn_string (h:=Tryz.underlying9),Result.andThen,toList_inj]
 by_cases h0:a1=b1<;>by_cases h1:a2=b2<;>by_cases h2:a3=b3<;>by_cases h3:a4=b4<;>by_cases h4:a5=b5<;>simp[*]
theorem bWa(a b:pU):SP 320 [agg (oO a),agg (oO b)] [] (eW (.bool (decide (a=b))) []):=by
 intro W F w hS;apply dIn;unfold Np;(try simp only[app]at hS)
 refine zC hS λb1 w hS=>?_
 refine zC hS λb2 w hS=>?_
 refine zL hS Xh rfl (zL hS Xh rfl (Qi (X1 a b w) ?_))
 (exact fw hS)
theorem bW4(H:bw)(u v:Value)(A B:List pU)(hu:FY H u A)(hv:FY H v B)(hn:A.length<=9223372036854775806):
  SP 276 [u,v] [.mem H] (eW (.bool (decide (A=B))) [.mem H]):=by
 intro W F w hS;apply dFg;unfold MK;(try simp only[app]at hS)
 refine Cc (Dh BV rfl (λv0 v1 v2 w R h=>dIl v0 v1 v2 w R h) bWa H u v A B hu hv hn) ?_;clear hS
 rintro v post ⟨rfl,rfl⟩ w hS
 try simp only[app]at hS
 (exact fw hS)
theorem X0(a b:rF)(w:World):(Op.equal 295 (agg (sx a)) (agg (sx b))).run Tryz.prog w= .ok (decide (a=b)) w:=by
 refine Bn Tryz.underlying295 (by kernel_rfl) ?_
 obtain⟨a1,a2,a3,a4,a5,a6,a7⟩:=a
 obtain⟨b1,b2,b3,b4,b5,b6,b7⟩:=b
 simp[sx,Op.eqFields,part,run_equalIn_int (h:=Tryz.underlying2),run_equalIn_int (h:=Tryz.underlying3),run_equalIn_bool' (h:=Tryz.underlying4),Result.andThen]
 by_cases h0:a1=b1<;>by_cases h1:a2=b2<;>by_cases h2:a3=b3<;>by_cases h3:a4=b4<;>by_cases h4:a5=b5<;>by_cases h5:a6=b6<;>by_cases h6:a7=b7<;>simp[*]
theorem bR9(a b:rF):SP 322 [agg (sx a),agg (sx b)] [] (eW (.bool (decide (a=b))) []):=by
 intro W F w hS;apply dIp;unfold Nq;(try simp only[app]at hS)
 refine zC hS λb1 w hS=>?_
 refine zC hS λb2 w hS=>?_
 refine zL hS Xh rfl (zL hS Xh rfl (Qi (X0 a b w) ?_))
 (exact fw hS)
theorem bW3(H:bw)(u v:Value)(A B:List rF)(hu:FX H u A)(hv:FX H v B)(hn:A.length<=9223372036854775806):
  SP 277 [u,v] [.mem H] (eW (.bool (decide (A=B))) [.mem H]):=by
 intro W F w hS;apply dFh;unfold ML;(try simp only[app]at hS)
 refine Cc (Dh BU rfl (λv0 v1 v2 w R h=>dIo v0 v1 v2 w R h) bR9 H u v A B hu hv hn) ?_;clear hS
 rintro v post ⟨rfl,rfl⟩ w hS
 try simp only[app]at hS
 (exact fw hS)
theorem bFe(H:bw)(x y:pd)(t:si)(hx:pc H x t)(hy:pc H y t)(h1:t.ops.length<=9223372036854775806)(h2:t.notes.length<=9223372036854775806):
  SP 213 [agg (kT x),agg (kT y)] [.mem H] (eW (.bool true) [.mem H]):=by
 intro W F w hS;apply c_r;delta LI aF a_ cw;(try simp only[app]at hS)
 refine zC hS λxb w hS=>?_
 refine zC hS λyb w hS=>?_
 have e1:kT x=[.int .i64 t.aI,x.ov,x.nv]:=by unfold kT;rw[hx.aI]
 have e2:kT y=[.int .i64 t.aI,y.ov,y.nv]:=by unfold kT;rw[hy.aI]
 rw[e1,e2]at hS
 refine Gp ?_
 refine za (λ_=>?_) (λh=>absurd rfl h)
 refine Gp ?_
 refine Cg (bW4 H x.ov y.ov t.ops t.ops hx.ops hy.ops h1) λw hS=>?_
 rw[decide_eq_true rfl]
 refine zw ?_
 refine Gp ?_
 refine Cg (bW3 H x.nv y.nv t.notes t.notes hx.Bd hy.Bd h2) λw hS=>?_
 rw[decide_eq_true rfl]
 (exact fw hS)
theorem OP(aI:Int):∀(l:List ByteArray) (m:h_),(m.jP aI l).2.length<=l.length
 | [],m=>Nat.le_refl _
 | s::l,m=>by
  have h:=OP aI l {m with reqs:=(m.accept s aI).1}
  have h1:(m.accept s aI).2.length<=1:=by
   unfold h_.accept
   split
   ·exact Nat.zero_le _
   ·split
    ·exact Nat.zero_le _
    ·split
     ·exact Nat.zero_le _
     ·exact Nat.le_refl _
  show ((m.accept s aI).2++(h_.jP {m with reqs:=(m.accept s aI).1} aI l).2).length<=_
  rw[List.length_append,List.length_cons]
  omega
theorem cFx(m:h_)(t:gW)(hr:m.cF.rows.length<=64):(m.take t).2.1.ops.length<=1000/\(m.take t).2.1.notes.length<=1000:=by
 unfold h_.take
 split
 ·exact⟨Nat.zero_le _,Nat.zero_le _⟩
 ·rename_i hm
  obtain⟨m1,m2,m3,m4,m5,m6,m7⟩:=nB (show ji t=true by cases hq:ji t with
   | true=>rfl
   | false=>exact absurd hq hm)
  split
  ·exact⟨Nat.zero_le _,Nat.zero_le _⟩
  ·split
   ·unfold h_.vm
    simp only
    constructor
    ·unfold nk
     rw[List.length_map]
     have:=List.length_filter_le (λc:iy=>(({m with at_:=t.aI}:h_).jP t.aI t.signals).1.captured c.table) t.changes
     omega
    ·have:=OP t.aI t.signals {m with at_:=t.aI}
     omega
   ·split
    ·unfold h_.high ir.high
     simp only
     split
     ·exact⟨Nat.zero_le _,Nat.zero_le _⟩
     ·rename_i hx
      split at hx
      ·cases hx
      ·cases hx
       have e:(kZ m.cF t.aI).length=m.cF.rows.length:=by unfold kZ;rw[List.length_map]
       split
       ·exact⟨by simp only;omega,Nat.zero_le _⟩
       ·exact⟨by simp only;omega,by show 1<=1000;decide⟩
    ·exact⟨Nat.zero_le _,Nat.zero_le _⟩
def ig.uo(p:ig):ig:=if vT (p.k.kf (p.m.at_+1))=0 then {p with m:=(p.m.take (o6 (p.k.kf (p.m.at_+1)))).1} else p
theorem ig.Good.uo{p:ig}{N:Nat}(h:p.Good N):p.uo.Good N:=by
 unfold ig.uo
 split
 ·exact h.take _
 ·exact h
set_option maxHeartbeats 4000000 in
theorem Qr(x:vf)(H:bw)(p:ig){N:Nat}(hp:p.Good N)(hN:N<=900000000):
  SP 128 [eF x.xb] (rE x H p) (λv post=>v= .bool true/\∃H',H.le H'/\post=rE x H' p.uo):=by
 intro W F w hS;apply cRg;delta Ko aF aW d_ dW cw ai bR;(try simp only[app]at hS)
 have cR:=hp.x_ hN
 have kM:=hp.mO
 have hg:=hp.src.g
 have SD:=hp.wid
 have wJ:=b9v p.k (p.m.at_+1)
 have ER:=cFx p.m (o6 (p.k.kf (p.m.at_+1))) hp.rows
 unfold ig.uo
 generalize A2:p.k.kf (p.m.at_+1)=re at *
 refine⟨λus w=>∃(tb:Nat) (H1:bw) (xt:mu),us=[eF tb,.int .i64 (vT re)]/\H.le H1/\kS H1 xt (o6 re)/\SL W (app (rE x H1 p) (.pt tb (iG xt) 39::F)) w,?_,?_⟩
 ·have hI:∀{tb:Nat} {H1:bw} {xt:mu} {w:World},H.le H1->kS H1 xt (o6 re)->SL W (app (w5 x H H H1 p p) (.pt tb (iG xt) 39::F)) w->∃(Vh:Nat) (H1:bw) (xt:mu),[eF tb,.int .i64 (vT re)]=[eF Vh,.int .i64 (vT re)]/\H.le H1/\kS H1 xt (o6 re)/\SL W (app (rE x H1 p) (.pt Vh (iG xt) 39::F)) w:=λh hx hS=>⟨_,_,_,rfl,h,hx,Fj h h hS⟩
  refine Gn λw hS=>?_
  refine⟨?_,?_⟩
  ·refine Cg (qC x.mp x.wp H p.m) λw hS=>?_
   refine⟨?_,?_⟩
   ·refine Cc (yM x.sp x.tp x.dp x.lp p.k hg (by omega) H (p.m.at_+1) (by omega)) ?_;clear hS
    rintro r post hq w hS
    obtain⟨x1,H1,fF,rfl,lT,rfl⟩:=hq.all
    rw[A2]at lT ⊢
    clear hq
    try simp only[app]at hS
    refine Gp ?_
    refine zI hS λb1 w hS=>?_
    refine zB (vs:=iG x1) hS Xu rfl rfl (rM (aI:=x1.aI) (kind:=x1.kind) (mark:=x1.mark) lT.cv.one lT.sv.one) λw hS=>?_
    exact hI fF lT (aR hS)
   ·refine Gb λb1 w hS=>?_
    refine Cc (yM x.sp x.tp x.dp x.lp p.k hg (by omega) H (p.m.at_+1) (by omega)) ?_;clear hS
    rintro r post hq w hS
    obtain⟨x1,H1,fF,rfl,lT,rfl⟩:=hq.all
    rw[A2]at lT ⊢
    clear hq
    try simp only[app]at hS
    refine Gp ?_
    refine zB (vs:=iG x1) hS Xu rfl rfl (rM (aI:=x1.aI) (kind:=x1.kind) (mark:=x1.mark) lT.cv.one lT.sv.one) λw hS=>?_
    exact hI fF lT (aR hS)
  ·refine Gb λb1 w hS=>?_
   refine Cg (qC x.mp x.wp H p.m) λw hS=>?_
   refine Cc (yM x.sp x.tp x.dp x.lp p.k hg (by omega) H (p.m.at_+1) (by omega)) ?_;clear hS
   rintro r post hq w hS
   obtain⟨x1,H1,fF,rfl,lT,rfl⟩:=hq.all
   rw[A2]at lT ⊢
   clear hq
   try simp only[app]at hS
   refine Gp ?_
   refine zB (vs:=iG x1) hS Xu rfl rfl (rM (aI:=x1.aI) (kind:=x1.kind) (mark:=x1.mark) lT.cv.one lT.sv.one) λw hS=>?_
   exact hI fF lT (aR hS)
 clear hS
 rintro v3 v4 w ⟨tb,H1,xt,dR,fF,hx,hS⟩
 cases dR
 try simp only[app]at hS
 refine⟨λus w=>∃(ub:Nat) (H2:bw) (xu:mu),us=[eF ub,.int .i64 (vT re)]/\H1.le H2/\kS H2 xu (o6 re)/\SL W (app (rE x H2 p) (.pt ub (iG xu) 39::.pt tb (iG xt) 39::F)) w,?_,?_⟩
 ·have hI:∀{ub:Nat} {H2:bw} {xu:mu} {w:World},H1.le H2->kS H2 xu (o6 re)->SL W (app (w5 x H1 H2 H2 p p) (.pt ub (iG xu) 39::.pt tb (iG xt) 39::F)) w->∃(Vm:Nat) (H2:bw) (xu:mu),[eF ub,.int .i64 (vT re)]=[eF Vm,.int .i64 (vT re)]/\H1.le H2/\kS H2 xu (o6 re)/\SL W (app (rE x H2 p) (.pt Vm (iG xu) 39::.pt tb (iG xt) 39::F)) w:=λh hx hS=>⟨_,_,_,rfl,h,hx,Fj h (bw.le_refl _) hS⟩
  obtain⟨rv,hr,hS⟩:=iL.iff.1 (SL.b_ hS (t:=.ob (iL x.ym x.yw H1 p.m)::rD x::.pt x.pp (lF x.sp x.mp x.wp x.gp p.n) 201::.ob (jU x.gp p.d)::.ob (gF x.mp x.wp H1 p.m)::.ob (iC x.sp x.tp x.dp x.lp p.k)::.ob (dI x.dp p.k.d)::.pt x.zp (lW x.kp x.ym x.zg p.n) 286::.ob (jy x.zg H1 p.d)::.ob (ij x.kp x.xp x.oH x.rp H1 p.k)::.ob (eI H1 x.xp p.k.d)::.mem H1::.pt tb (iG xt) 39::F) Xi)
  refine Gn λw hS=>?_
  refine⟨?_,?_⟩
  ·refine Cc (y8 x.kp x.xp x.oH x.rp p.k hg (by omega) H1 (p.m.at_+1) (by omega)) ?_;clear hS
   rintro r post hq w hS
   obtain⟨x1,H2,f',rfl,lT,rfl⟩:=hq.all
   rw[A2]at lT ⊢
   clear hq
   try simp only[app]at hS
   have hS:=iL.put p.m rv hr hS Xp
   refine Gp ?_
   refine zI hS λb1 w hS=>?_
   refine zB (vs:=iG x1) hS Xu rfl rfl (rM (aI:=x1.aI) (kind:=x1.kind) (mark:=x1.mark) lT.cv.one lT.sv.one) λw hS=>?_
   have hS:=iL.iK (mp:=x.ym) (wp:=x.yw) (m:=p.m) f' hS Xr
   have hS:=jy.iK (p:=x.zg) (d:=p.d) f' hS Xr
   have hS:=eI.iK (xp:=x.xp) f' hS Xr
   exact hI f' lT (aR hS)
  ·refine Gb λb1 w hS=>?_
   refine Cc (y8 x.kp x.xp x.oH x.rp p.k hg (by omega) H1 (p.m.at_+1) (by omega)) ?_;clear hS
   rintro r post hq w hS
   obtain⟨x1,H2,f',rfl,lT,rfl⟩:=hq.all
   rw[A2]at lT ⊢
   clear hq
   try simp only[app]at hS
   have hS:=iL.put p.m rv hr hS Xp
   refine Gp ?_
   refine zB (vs:=iG x1) hS Xu rfl rfl (rM (aI:=x1.aI) (kind:=x1.kind) (mark:=x1.mark) lT.cv.one lT.sv.one) λw hS=>?_
   have hS:=iL.iK (mp:=x.ym) (wp:=x.yw) (m:=p.m) f' hS Xr
   have hS:=jy.iK (p:=x.zg) (d:=p.d) f' hS Xr
   have hS:=eI.iK (xp:=x.xp) f' hS Xr
   exact hI f' lT (aR hS)
 clear hS
 rintro v5 v6 w ⟨ub,H2,xu,dR,f',hu,hS⟩
 cases dR
 try simp only[app]at hS
 have hx:=hx.mono f'
 refine Gp ?_
 refine za (λh=>absurd rfl h) (λ_=>?_)
 refine zL hS Xh rfl (zL hS Xh rfl ?_)
 refine Cg (cF7 H2 xt xu (o6 re) hx hu (by omega) (by omega)) λw hS=>?_
 refine zt ?_
 refine b9 (λhe=>?_) (λhe=>?_)
 ·rw[if_neg he]
  exact⟨_,⟨rfl,H2,bw.le_trans fF f',rfl⟩,aR hS⟩
 have he:=Decidable.of_not_not he
 rw[if_pos he]
 clear A2 he
 generalize hq:p.m.take (o6 re)=y at *
 refine⟨λus w=>∃(ib:Nat) (H3:bw) (x3:pd),us=[eF ib,.int .i64 y.2.2]/\H2.le H3/\pc H3 x3 y.2.1/\SL W (app (w5 x H3 H3 H3 {p with m:=y.1} p) (.pt ib (kT x3) 100::.pt ub (iG xu) 39::F)) w,?_,?_⟩
 ·refine Gn λw hS=>?_
  refine⟨?_,?_⟩
  ·refine Cc (yV x.mp x.wp H2 p.m cR.m xt (o6 re) hx (by omega)) ?_;clear hS
   rintro r post ⟨x3,H3,jA,rfl,pB,rfl⟩ w hS
   rw[hq]at pB hS ⊢
   try simp only[app]at hS
   refine Gp ?_
   refine zI hS λb1 w hS=>?_
   refine zB (vs:=kT x3) hS Xu rfl rfl (uD pB) λw hS=>?_
   exact⟨_,_,_,rfl,jA,pB,Fj (p:={p with m:=y.1}) (q:=p) (bw.le_refl H3) jA (aR hS)⟩
  ·refine Gb λb1 w hS=>?_
   refine Cc (yV x.mp x.wp H2 p.m cR.m xt (o6 re) hx (by omega)) ?_;clear hS
   rintro r post ⟨x3,H3,jA,rfl,pB,rfl⟩ w hS
   rw[hq]at pB hS ⊢
   try simp only[app]at hS
   refine Gp ?_
   refine zB (vs:=kT x3) hS Xu rfl rfl (uD pB) λw hS=>?_
   exact⟨_,_,_,rfl,jA,pB,Fj (p:={p with m:=y.1}) (q:=p) (bw.le_refl H3) jA (aR hS)⟩
 clear hS
 rintro v7 v8 w ⟨ib,H3,x3,dR,jA,pB,hS⟩
 cases dR
 try simp only[app]at hS
 have hu:=hu.mono jA
 have mM:=bw.le_trans fF (bw.le_trans f' jA)
 have kX:∀{b1:Nat} {H4:bw} {x4:pd} {w:World},H3.le H4->pc H4 x4 y.2.1->SL W (app (w5 x H4 H4 H4 {p with m:=y.1} {p with m:=y.1}) (.pt b1 (kT x4) 100::.pt ib (kT x3) 100::F)) w->aw 213 [agg (kT x3),agg (kT x4)] w λv w'=>∃post,(v= .bool true/\∃H',H.le H'/\post=rE x H' {p with m:=y.1})/\SL W (app post F) w':=λ{b1} {H4} {x4} {w} ld vJ hS=>by
  try simp only[app]at hS
  refine Cg (bFe H4 x3 x4 y.2.1 (pB.mono ld) vJ (by omega) (by omega)) λw hS=>?_
  exact⟨_,⟨rfl,H4,bw.le_trans mM ld,rfl⟩,aR hS⟩
 refine Gn λw hS=>?_
 refine⟨?_,?_⟩
 ·refine Cc (ZO x.ym x.yw H3 p.m cR.m xu (o6 re) hu (by omega)) ?_;clear hS
  rintro r post ⟨x4,H4,ld,rfl,vJ,rfl⟩ w hS
  rw[hq]at vJ hS ⊢
  try simp only[app]at hS
  refine Gp ?_
  refine zI hS λb1 w hS=>?_
  refine zB (vs:=kT x4) hS Xu rfl rfl (uD vJ) λw hS=>?_
  refine Gp ?_
  refine za (λ_=>?_) (λh=>absurd rfl h)
  refine Gp ?_
  have hS:=jy.iK (p:=x.zg) (d:=p.d) ld hS Xr
  have hS:=ij.iK (k:=p.k) ld hS Xr
  have hS:=eI.iK (xp:=x.xp) ld hS Xr
  have hS:=gF.iK (mp:=x.mp) (wp:=x.wp) (m:=y.1) ld hS Xr
  exact kX ld vJ (aR hS)
 ·refine Gb λb1 w hS=>?_
  refine Cc (ZO x.ym x.yw H3 p.m cR.m xu (o6 re) hu (by omega)) ?_;clear hS
  rintro r post ⟨x4,H4,ld,rfl,vJ,rfl⟩ w hS
  rw[hq]at vJ hS ⊢
  try simp only[app]at hS
  refine Gp ?_
  refine zB (vs:=kT x4) hS Xu rfl rfl (uD vJ) λw hS=>?_
  refine Gp ?_
  refine za (λ_=>?_) (λh=>absurd rfl h)
  refine Gp ?_
  have hS:=jy.iK (p:=x.zg) (d:=p.d) ld hS Xr
  have hS:=ij.iK (k:=p.k) ld hS Xr
  have hS:=eI.iK (xp:=x.xp) ld hS Xr
  have hS:=gF.iK (mp:=x.mp) (wp:=x.wp) (m:=y.1) ld hS Xr
  exact kX ld vJ (aR hS)
theorem Wn(s:DS)(f:Int)(b:List UInt8):(s.append f b).1.ops<=s.ops+1:=by
 unfold DS.append;split
 ·exact Nat.le_succ _
 ·exact Nat.le_refl _
theorem cFk(s:DS)(f:Int):(s.sync f).1.ops<=s.ops+1:=by
 unfold DS.sync;split
 ·exact Nat.le_succ _
 ·split<;>exact Nat.le_refl _
theorem Xg(s:DS)(f n:Int):(s.cut f n).1.ops<=s.ops+1:=by
 unfold DS.cut;split
 ·exact Nat.le_succ _
 ·split
  ·exact Nat.le_succ _
  ·split<;>exact Nat.le_refl _
theorem b93(s:DS)(f:Int):(s.remove f).1.ops<=s.ops+1:=by
 unfold DS.remove;split
 ·exact Nat.le_succ _
 ·split<;>exact Nat.le_refl _
theorem bI7(g:iq)(d:DS):(ik g d).1.2.ops<=d.ops+1:=by
 unfold ik
 split
 ·exact Nat.le_succ _
 ·simp only
  split
  ·exact b93 ..
  ·exact Xg ..
theorem Wk(g:iq)(d:DS)(p:List UInt8):(kn g d p).1.2.ops<=d.ops+3:=by
 unfold kn
 split
 ·exact Nat.le_add_right _ _
 ·rename_i x _
  have h1:=bI7 g d
  simp only
  split
  ·simp only;omega
  ·have h2:=Wn (ik g d).1.2 x.file x.b
   split
   ·simp only;omega
   ·have h3:=cFk ((ik g d).1.2.append x.file x.b).1 x.file
    split<;>(simp only;omega)
theorem OQ(k:g_)(t:gW):(k.lP t).1.d.ops<=k.d.ops+3:=by
 unfold g_.lP
 split
 ·exact Nat.le_add_right _ _
 ·split
  ·exact Nat.le_add_right _ _
  ·simp only
   split<;>exact Wk ..
theorem Pr(k:g_)(sg:List ByteArray)(l:List iy):(k.nx sg l).1.d.ops<=k.d.ops+3:=by
 unfold g_.nx
 split
 ·exact OQ ..
 ·exact Nat.le_add_right _ _
theorem Ts(k:g_)(a b:Int):(k.lV a b).1.d.ops<=k.d.ops+3:=by
 unfold g_.lV
 split
 ·exact OQ ..
 ·exact Nat.le_add_right _ _
theorem Jf(p:ig):p.step.1.k.d.ops<=p.k.d.ops+3:=by
 unfold ig.step
 split
 ·exact Nat.le_add_right _ _
 ·split
  ·unfold ig.wM ig.ug
   split
   ·exact Nat.le_add_right _ _
   ·unfold ig.vM
    split<;>exact Ts ..
  ·split
   ·exact Nat.le_add_right _ _
   ·unfold ig.xL
    simp only
    split<;>exact Ts ..
theorem cFw(p:ig):p.uo.k=p.k:=by
 unfold ig.uo
 split<;>rfl
theorem ig.Good.pX{p:ig}{N:Nat}(h:p.Good N){n:Int}(hn:n<=9223372036854775807):({p with k:={p.k with d:=p.k.d.pX n}}:ig).Good N:=
 ⟨h.reqs,h.t1,h.mO,h.wn,h.rows,h.wid,h.d,h.ids,h.n,⟨h.src.g,h.src.d.pX hn,h.src.rows,h.src.len,h.src.n1,h.src.n8⟩⟩
theorem XK(x:vf)(H:bw)(p:ig)(kind n:Int)(sv cv:Value)(sg:List ByteArray)(l:List iy)(k6:Nat)(hs:fW H 1 sv sg.length (sg.map Value.string))(hc:fW H 4 cv l.length (l.map jE).flatten)(mX:sg.length<=140737488351232)(Er:l.length<=140737488351232)(t1:0<k6)(t8:k6<=8){N:Nat}(hp:p.Good N)(hN:N<=900000000)(iP:p.k.d.ops<=90000):
  SP 51 [eF x.xb,agg [.int .i64 kind,.int .i64 n,sv,cv],.int .i64 k6] (rE x H p) (λv post=>v= .bool true/\∃H' p',H.le H'/\p'.Good (N+2000)/\p'.k.d.ops<=p.k.d.ops+3/\post=rE x H' p'):=by
 intro W F w hS;apply dRn;delta NX aF bF a_ aW d_ cw ai;(try simp only[app]at hS)
 refine zC hS λob w hS=>?_
 have Cq:p.Good (N+2000):=⟨hp.reqs,hp.t1,hp.mO,hp.wn,hp.rows,hp.wid,hp.d,hp.ids,hp.n,hp.src.mono (by omega)⟩
 refine Gp ?_
 refine Cg (yI kind 12 (by decide) (by decide)) λw hS=>?_
 refine za (λ_=>?_) (λ_=>?_)
 ·refine Gn λw hS=>?_
  refine Cc (YZ H cv l k6 4 hc t1 t8 (by decide) Er) ?_;clear hS
  rintro u post ⟨H1,fF,p_,rfl⟩ w hS
  (try simp only[app]at hS);refine Gp ?_
  refine Cc (cwt H1 sv sg k6 1 (hs.mono fF) t1 t8 (by decide) mX) ?_;clear hS
  rintro v post ⟨H2,rs,f',wJ,_,Sy,rfl⟩ w hS
  try simp only[app]at hS
  have p_:=p_.mono f'
  have vt:((l.take 4).map (mL · k6)).length<=4:=by rw[List.length_map,List.length_take];omega
  generalize (l.take 4).map (mL · k6)=C at *
  refine Gp ?_
  have iS:=bw.le_trans fF f'
  refine Cg (Zx x.sp x.tp x.dp x.lp p.k H2 v u rs C Sy p_ (by omega) hp.src (by omega) iP) λw hS=>?_
  have hS:=ij.iK (k:=p.k) iS hS Xr
  have hS:=eI.iK (xp:=x.xp) iS hS Xr
  refine Cc (Yz x.kp x.xp x.oH x.rp p.k H2 v u rs C Sy p_ (by omega) hp.src (by omega) iP) ?_;clear hS
  rintro _ post ⟨H3,jA,rfl,rfl⟩ w hS
  (try simp only[app]at hS);refine Gp ?_
  refine za (λ_=>?_) (λh=>absurd rfl h)
  refine Gp ?_
  rw[decide_eq_true rfl]
  have hS:=jy.iK (p:=x.zg) (d:=p.d) (bw.le_trans iS jA) hS Xr
  have hS:=iL.iK (mp:=x.ym) (wp:=x.yw) (m:=p.m) (bw.le_trans iS jA) hS Xr
  have hS:=gF.iK (mp:=x.mp) (wp:=x.wp) (m:=p.m) (bw.le_trans iS jA) hS Xr
  exact⟨_,⟨rfl,H3,{p with k:=(p.k.nx rs C).1},bw.le_trans iS jA,hp.Av rs C,Pr ..,rfl⟩,aR hS⟩
 refine b9 (λ_=>?_) (λ_=>?_)
 ·refine Gp ?_
  refine Cc (yA x.sp x.tp x.dp x.lp x.mp x.wp x.pp x.gp H p (hp.x_ hN) iP) ?_;clear hS
  rintro _ post ⟨H1,fF,rfl,rfl⟩ w hS
  (try simp only[app]at hS);refine Gp ?_
  have hS:=jy.iK (p:=x.zg) (d:=p.d) fF hS Xr
  have hS:=iL.iK (mp:=x.ym) (wp:=x.yw) (m:=p.m) fF hS Xr
  have hS:=ij.iK (k:=p.k) fF hS Xr
  have hS:=eI.iK (xp:=x.xp) fF hS Xr
  refine Cc (qb x.kp x.xp x.oH x.rp x.ym x.yw x.zp x.zg H1 p hp hN iP) ?_;clear hS
  rintro _ post ⟨H2,f',rfl,rfl⟩ w hS
  (try simp only[app]at hS);refine Gp ?_
  refine za (λ_=>?_) (λh=>absurd rfl h)
  refine Gp ?_
  rw[decide_eq_true rfl]
  have hS:=gF.iK (mp:=x.mp) (wp:=x.wp) (m:=p.step.1.m) f' hS Xr
  exact⟨_,⟨rfl,H2,p.step.1,bw.le_trans fF f',hp.step,Jf p,rfl⟩,aR hS⟩
 refine b9 (λ_=>?_) (λ_=>?_)
 ·skip
  refine Cc (Qr x H p hp hN) ?_;clear hS
  rintro _ post ⟨rfl,H1,fF,rfl⟩ w hS
  try simp only[app]at hS
  exact⟨_,⟨rfl,H1,p.uo,fF,Cq.uo,by rw[cFw];omega,rfl⟩,aR hS⟩
 ·refine Gn λw hS=>?_
  refine Cg (yI n 9 (by decide) (by decide)) λw hS=>?_
  refine Cg (Wp x.dp p.k.d (md n 9)) λw hS=>?_
  refine Cg (yI n 9 (by decide) (by decide)) λw hS=>?_
  refine Cg (b9s H x.xp p.k.d (md n 9)) λw hS=>?_
  have:=oa n 9 (by decide)
  exact⟨_,⟨rfl,H,{p with k:={p.k with d:=p.k.d.pX (md n 9)}},bw.le_refl H,Cq.pX (by omega),by show p.k.d.ops<=_;omega,rfl⟩,SL.b_ hS (t:=rD x::.pt x.pp (lF x.sp x.mp x.wp x.gp p.n) 201::.ob (jU x.gp p.d)::.ob (gF x.mp x.wp H p.m)::.ob (iC x.sp x.tp x.dp x.lp p.k)::.ob (dI x.dp (p.k.d.pX (md n 9)))::.pt x.zp (lW x.kp x.ym x.zg p.n) 286::.ob (jy x.zg H p.d)::.ob (iL x.ym x.yw H p.m)::.ob (ij x.kp x.xp x.oH x.rp H p.k)::.ob (eI H x.xp (p.k.d.pX (md n 9)))::.mem H::F) Xi⟩
theorem X3(a b:Rq)(w:World):(Op.equal 125 (agg (ka a)) (agg (ka b))).run Tryz.prog w= .ok (decide (a=b)) w:=by
 refine Bn Tryz.underlying125 (by kernel_rfl) ?_
 obtain⟨a1,a2,a3,a4,a5,a6,a7⟩:=a
 obtain⟨b1,b2,b3,b4,b5,b6,b7⟩:=b
 simp[ka,Op.eqFields,part,run_equalIn_int (h:=Tryz.underlying2),run_equalIn_int (h:=Tryz.underlying3),run_equalIn_bool' (h:=Tryz.underlying4),Result.andThen]
 by_cases h0:a1=b1<;>by_cases h1:a2=b2<;>by_cases h2:a3=b3<;>by_cases h3:a4=b4<;>by_cases h4:a5=b5<;>by_cases h5:a6=b6<;>by_cases h6:a7=b7<;>simp[*]
theorem bWb(a b:Rq):SP 216 [agg (ka a),agg (ka b)] [] (eW (.bool (decide (a=b))) []):=by
 intro W F w hS;apply c_u;unfold LK;(try simp only[app]at hS)
 refine zC hS λb1 w hS=>?_
 refine zC hS λb2 w hS=>?_
 refine zL hS Xh rfl (zL hS Xh rfl (Qi (X3 a b w) ?_))
 exact fw hS
theorem bW5(H:bw)(u v:Value)(A B:List Rq)(hu:mh H u A)(hv:mh H v B)(hn:A.length<=9223372036854775806):
  SP 134 [u,v] [.mem H] (eW (.bool (decide (A=B))) [.mem H]):=by
 intro W F w hS;apply cRm;unfold Ku;(try simp only[app]at hS)
 refine Cc (Dh kU rfl (λv0 v1 v2 w R h=>c_t v0 v1 v2 w R h) bWb H u v A B hu hv hn) ?_;clear hS
 rintro v post ⟨rfl,rfl⟩ w hS
 try simp only[app]at hS
 exact fw hS
theorem YW(x:vf)(H:bw)(p:ig){N:Nat}(hp:p.Good N)(hN:N<=900000000):
  SP 52 [eF x.xb] (rE x H p) (λv post=>v= .bool true/\∃H',H.le H'/\post=rE x H' p):=by
 intro W F w hS;apply dRo;delta NY aF bF aW d_ cw;(try simp only[app]at hS)
 have vF:=hp.reqs.1
 have eFx:=hp.rows
 have hg:=hp.src.g
 obtain⟨rv,hr,hS⟩:=gF.iff.1 (SL.b_ hS (t:=.ob (gF x.mp x.wp H p.m)::rD x::.pt x.pp (lF x.sp x.mp x.wp x.gp p.n) 201::.ob (jU x.gp p.d)::.ob (iC x.sp x.tp x.dp x.lp p.k)::.ob (dI x.dp p.k.d)::.pt x.zp (lW x.kp x.ym x.zg p.n) 286::.ob (jy x.zg H p.d)::.ob (iL x.ym x.yw H p.m)::.ob (ij x.kp x.xp x.oH x.rp H p.k)::.ob (eI H x.xp p.k.d)::.mem H::F) Xi)
 obtain⟨Dg,vE,hS⟩:=iL.iff.1 (SL.b_ hS (t:=.ob (iL x.ym x.yw H p.m)::.pt x.mp (vP p.m x.wp rv) 111::.ob (iE x.wp p.m.cF)::rD x::.pt x.pp (lF x.sp x.mp x.wp x.gp p.n) 201::.ob (jU x.gp p.d)::.ob (iC x.sp x.tp x.dp x.lp p.k)::.ob (dI x.dp p.k.d)::.pt x.zp (lW x.kp x.ym x.zg p.n) 286::.ob (jy x.zg H p.d)::.ob (ij x.kp x.xp x.oH x.rp H p.k)::.ob (eI H x.xp p.k.d)::.mem H::F) Xi)
 refine Gn λw hS=>?_
 refine Yk (vs:=[eF x.wp]) hS Xh rfl (λj v e=>by
  match j,e with
  | 0,e=>exact e) ?_
 refine Gp ?_
 refine Cg (ZA x.wp) λw hS=>?_
 have hS:=gF.put p.m rv hr hS Xp
 have hS:=iL.put p.m Dg vE hS Xp
 refine Cg (yG x.sp x.mp x.wp x.pp x.gp p.n H p.m (by omega)) λw hS=>?_
 refine Cg (Zh x.kp x.ym x.yw x.zp x.zg p.n H p.m (by omega)) λw hS=>?_
 rw[decide_eq_true rfl]
 refine zw ?_
 have hS:=ij.iff.1 (SL.b_ hS (t:=.ob (ij x.kp x.xp x.oH x.rp H p.k)::rD x::.pt x.pp (lF x.sp x.mp x.wp x.gp p.n) 201::.ob (jU x.gp p.d)::.ob (gF x.mp x.wp H p.m)::.ob (iC x.sp x.tp x.dp x.lp p.k)::.ob (dI x.dp p.k.d)::.pt x.zp (lW x.kp x.ym x.zg p.n) 286::.ob (jy x.zg H p.d)::.ob (iL x.ym x.yw H p.m)::.ob (eI H x.xp p.k.d)::.mem H::F) Xi)
 refine Gp ?_
 refine Cg (yi x.sp x.tp x.dp x.lp p.k hg (by omega)) λw hS=>?_
 refine Cg (zT x.oH x.xp p.k.g hg.ok (by omega)) λw hS=>?_
 refine za (λ_=>?_) (λh=>absurd rfl h)
 have hS:=ij.put p.k hS Xp (kp:=x.kp) (rp:=x.rp)
 obtain⟨fv,ys,hys,hS⟩:=eI.iff.1 (SL.b_ hS (t:=.ob (eI H x.xp p.k.d)::rD x::.pt x.pp (lF x.sp x.mp x.wp x.gp p.n) 201::.ob (jU x.gp p.d)::.ob (gF x.mp x.wp H p.m)::.ob (iC x.sp x.tp x.dp x.lp p.k)::.ob (dI x.dp p.k.d)::.pt x.zp (lW x.kp x.ym x.zg p.n) 286::.ob (jy x.zg H p.d)::.ob (iL x.ym x.yw H p.m)::.ob (ij x.kp x.xp x.oH x.rp H p.k)::.mem H::F) Xi)
 refine Gp ?_
 refine Cg (bWn x.dp p.k.d) λw hS=>?_
 refine za (λ_=>?_) (λh=>absurd rfl h)
 refine Gp ?_
 refine Cg (yT x.dp p.k.d) λw hS=>?_
 rw[decide_eq_true rfl]
 refine zw ?_
 have hS:=(eI.iff (H:=H) (xp:=x.xp) (s:=p.k.d)).2 ⟨fv,ys,hys,SL.b_ hS (t:=.pt x.xp (kz fv p.k.d) 66::.ob (j3 fv ys)::rD x::.pt x.pp (lF x.sp x.mp x.wp x.gp p.n) 201::.ob (jU x.gp p.d)::.ob (gF x.mp x.wp H p.m)::.ob (iC x.sp x.tp x.dp x.lp p.k)::.ob (dI x.dp p.k.d)::.pt x.zp (lW x.kp x.ym x.zg p.n) 286::.ob (jy x.zg H p.d)::.ob (iL x.ym x.yw H p.m)::.ob (ij x.kp x.xp x.oH x.rp H p.k)::.mem H::F) Xi⟩
 obtain⟨rv,hr,hS⟩:=gF.iff.1 (SL.b_ hS (t:=.ob (gF x.mp x.wp H p.m)::rD x::.pt x.pp (lF x.sp x.mp x.wp x.gp p.n) 201::.ob (jU x.gp p.d)::.ob (iC x.sp x.tp x.dp x.lp p.k)::.ob (dI x.dp p.k.d)::.pt x.zp (lW x.kp x.ym x.zg p.n) 286::.ob (jy x.zg H p.d)::.ob (iL x.ym x.yw H p.m)::.ob (ij x.kp x.xp x.oH x.rp H p.k)::.ob (eI H x.xp p.k.d)::.mem H::F) Xi)
 obtain⟨Dg,vE,hS⟩:=iL.iff.1 (SL.b_ hS (t:=.ob (iL x.ym x.yw H p.m)::.pt x.mp (vP p.m x.wp rv) 111::.ob (iE x.wp p.m.cF)::rD x::.pt x.pp (lF x.sp x.mp x.wp x.gp p.n) 201::.ob (jU x.gp p.d)::.ob (iC x.sp x.tp x.dp x.lp p.k)::.ob (dI x.dp p.k.d)::.pt x.zp (lW x.kp x.ym x.zg p.n) 286::.ob (jy x.zg H p.d)::.ob (ij x.kp x.xp x.oH x.rp H p.k)::.ob (eI H x.xp p.k.d)::.mem H::F) Xi)
 obtain⟨Uv,A7,hS⟩:=iH.iff.1 (SL.b_ hS (t:=.ob (iH x.yw H p.m.cF)::.pt x.ym (nO p.m x.yw Dg) 212::.pt x.mp (vP p.m x.wp rv) 111::.ob (iE x.wp p.m.cF)::rD x::.pt x.pp (lF x.sp x.mp x.wp x.gp p.n) 201::.ob (jU x.gp p.d)::.ob (iC x.sp x.tp x.dp x.lp p.k)::.ob (dI x.dp p.k.d)::.pt x.zp (lW x.kp x.ym x.zg p.n) 286::.ob (jy x.zg H p.d)::.ob (ij x.kp x.xp x.oH x.rp H p.k)::.ob (eI H x.xp p.k.d)::.mem H::F) Xi)
 refine Gp ?_
 refine Cg (Za x.wp p.m.cF) λw hS=>?_
 refine za (λ_=>?_) (λh=>absurd rfl h)
 refine Gp ?_
 refine Cg (Yq x.wp p.m.cF) λw hS=>?_
 refine za (λ_=>?_) (λh=>absurd rfl h)
 refine Gp ?_
 refine Cg (dW1 x.wp p.m.cF) λw hS=>?_
 refine za (λ_=>?_) (λh=>absurd rfl h)
 refine Gp ?_
 refine Cg (ZV x.wp p.m.cF) λw hS=>?_
 refine za (λ_=>?_) (λh=>absurd rfl h)
 refine Gp ?_
 refine Cg (ZU x.wp p.m.cF) λw hS=>?_
 refine za (λ_=>?_) (λh=>absurd rfl h)
 refine Gp ?_
 refine Cc (dW6 x.wp p.m.cF (by omega)) ?_;clear hS
 rintro u post rfl w hS
 try simp only[app]at hS
 obtain⟨H1,fF,hR,hS⟩:=zu (H:=H) (v:=u) hS Xp
 refine Gp ?_
 refine Cg (bW6 H1 u Uv p.m.cF.rows p.m.cF.rows hR (A7.mono fF) (by omega)) λw hS=>?_
 rw[decide_eq_true rfl]
 refine zw ?_
 refine Gp ?_
 have hS:=gF.put (H:=H1) p.m rv (hr.mono fF) hS Xp
 refine Cc (yJ x.mp x.wp H1 p.m (by omega)) ?_;clear hS
 rintro u post rfl w hS
 try simp only[app]at hS
 obtain⟨H2,f',hR,hS⟩:=zu (H:=H1) (v:=u) hS Xp
 have iS:=bw.le_trans fF f'
 refine Gp ?_
 refine Cg (bW5 H2 u Dg p.m.reqs p.m.reqs hR (vE.mono iS) (by omega)) λw hS=>?_
 rw[decide_eq_true rfl]
 have hS:=iH.put (H:=H2) (wp:=x.yw) p.m.cF Uv (A7.mono iS) hS Xr
 have hS:=iL.put (H:=H2) p.m Dg (vE.mono iS) hS Xp
 have hS:=gF.iK (mp:=x.mp) (wp:=x.wp) (m:=p.m) f' hS Xr
 have hS:=jy.iK (p:=x.zg) (d:=p.d) iS hS Xr
 have hS:=ij.iK (k:=p.k) iS hS Xr
 have hS:=eI.iK (xp:=x.xp) iS hS Xr
 exact⟨_,⟨rfl,H2,iS,rfl⟩,aR hS⟩
abbrev vW(t:gW)(n:Nat):gW:=⟨(n:Int)+1,t.kind,t.changes,t.signals,t.mark⟩
structure KS(n:Nat)(AL:List gW)(k:g_):Prop where
 BZ:nF n AL
 live:∃d0 f m,w_ n k AL 0 [] d0 f 0 m
 off:k.d.off=false
 arm:k.d.arm=0
 full:∀s∈k.g.bW,s.l≠[]
theorem KS.init{n:Nat}(n1:1<=n)(n8:n<=8){size:Int}(s0:64<=size)(s1:size<=65536):KS n [] (rm n size):=by
 obtain⟨_,hL⟩:=UX n1 n8 s0 s1
 exact⟨nF.nil n,⟨mF,16,0,hL⟩,rfl,rfl,by simp[rm]⟩
theorem KS.head{n:Nat}{AL:List gW}{k:g_}(h:KS n AL k):c_ k.g.bW=AL.length:=by
 obtain⟨d0,f,m,hL⟩:=h.live
 exact hL.head h.off
theorem KS.ts{n:Nat}{AL:List gW}{k:g_}(h:KS n AL k):k.ts=lG n AL:=by
 obtain⟨d0,f,m,hL⟩:=h.live
 exact hL.ts
theorem KS.read{n:Nat}{AL:List gW}{k:g_}(h:KS n AL k){j:Nat}(hj:j<AL.length):k.kf ((j:Int)+1)= .ok AL[j]:=by
 obtain⟨d0,f,m,hL⟩:=h.live
 exact hL.read h.BZ.ok.may (Nat.zero_le _) hj
theorem KS.add{n:Nat}{AL:List gW}{k:g_}(h:KS n AL k){t:gW}(hm:ji (vW t AL.length)=true)(hc:∀c∈t.changes,kJ n c=true)(hf:nF n (AL++[vW t AL.length])):
  ∃k',k.lP t=(k',((AL.length:Int)+1,0))/\KS n (AL++[vW t AL.length]) k':=by
 obtain⟨d0,f,m,hL⟩:=h.live
 have ho:=h.off
 have ha:=h.arm
 have hlen:=h.BZ.len
 have ra:=hL.head ho
 have hd:=hL.PM
 have tW:d0.off=false:=by rw[hd]at ho;exact ho
 have RL:d0.arm=0:=by rw[hd]at ha;exact ha
 have hl:=hL.log.inv tW
 have tU:=hL.Ij.le
 have aWe:=hL.file
 have hb:=hL.base
 have nN:=hL.ts
 have vx:=XU hm
 have sF:=hf.fits
 have uO:=Wm hl (p:=mv (vW t AL.length)) (by omega) (by rw[List.length_map,List.length_drop];omega) (by rw[List.length_map,List.length_drop,hb];omega) (by omega)
 obtain⟨ew,hw,_⟩:=Wl (A:=[]) (B:=[]) (d:=d0) (hL.log.aFz hb) hL.cF (mv (vW t AL.length))
 have hcm:k.lP t=(let r:=kn k.g k.d (mv (vW t AL.length));if r.2.2=0 then ({k with g:=r.1.1,d:=r.1.2,ts:=jS k.ts t.changes},((AL.length:Int)+1,0)) else ({k with g:=r.1.1,d:=r.1.2},(0,r.2.2))):=by
  unfold g_.lP
  rw[if_neg (by simp[ho]),if_neg (by rw[nN,sF,ra];simp;omega),ra]
 rw[hcm,hd,ew]
 have q_:(AL.drop 0).map mv++[mv (vW t AL.length)]=((AL++[vW t AL.length]).drop 0).map mv:=by simp
 rcases uO with ⟨g',d',e,hv,iP,ha',G',Hc,eFr,pP,_,_⟩|⟨d',e,hT,HG,iP,G'⟩
 ·rw[e]at hw ⊢
  simp only at hw ⊢
  rw[if_pos trivial]
  rw[q_]at hv
  refine⟨_,rfl,hf,⟨d',f,m,⟨rfl,hw,hv.laid,Hc.trans hb,hL.Ij.mono _,hL.image,Nat.zero_le _,Nat.le_refl _,?_,aWe⟩⟩,hv.off,G' RL,pP⟩
  show jS k.ts t.changes=_
  rw[nN,FF (t:=vW t AL.length) hc]
 ·exact absurd RL G'
theorem KS.Av{n:Nat}{AL:List gW}{k:g_}(h:KS n AL k){sg:List ByteArray}{l:List iy}(h2:l.length<=16)(h3:∀x∈l,ma x 8=true)(h4:sg.length<=2)(h5:∀s∈sg,s.size<=40)(hc:∀c∈l,kJ n c=true)(h6:AL.length+1<=1000)(h7:(AL.flatMap (·.changes)).length+l.length<=1000):
  ∃k',k.nx sg l=(k',((AL.length:Int)+1,0))/\KS n (AL++[⟨(AL.length:Int)+1,1,l,sg,0⟩]) k':=by
 have hm:∀aI:Int,1<=aI/\aI<=1099511627776->ji ⟨aI,1,l,sg,0⟩=true:=λaI h1=>wO.2 ⟨h1,.inl ⟨rfl,rfl,h2,h4,h3,h5⟩⟩
 have CE:=hm ((AL.length:Int)+1) (by omega)
 obtain⟨k',e,hk⟩:=h.add (t:=⟨1,1,l,sg,0⟩) CE hc (h.BZ.app CE rfl hc h6 h7)
 refine⟨k',?_,hk⟩
 unfold g_.nx
 rw[if_pos ⟨hm 1 (by decide),λc kN=>by rw[h.ts,u6];exact (of_decide_eq_true (hc c kN)).2⟩]
 exact e
theorem KS.mark{n:Nat}{AL:List gW}{k:g_}(h:KS n AL k){kind mark:Int}(hk:kind=2\/kind=3)(hm:∀aI:Int,1<=aI/\aI<=1099511627776->ji ⟨aI,kind,[],[],mark⟩=true)(h6:AL.length+1<=1000):
  ∃k',k.lV kind mark=(k',((AL.length:Int)+1,0))/\KS n (AL++[⟨(AL.length:Int)+1,kind,[],[],mark⟩]) k':=by
 have CE:=hm ((AL.length:Int)+1) (by omega)
 obtain⟨k',e,Cy⟩:=h.add (t:=⟨1,kind,[],[],mark⟩) CE (by simp) (h.BZ.app CE rfl (by simp) h6 (by have:=h.BZ.k8;simp only[List.length_nil];omega))
 refine⟨k',?_,Cy⟩
 unfold g_.lV
 rw[if_pos ⟨hk,hm 1 (by decide)⟩]
 exact e
abbrev Ar:ByteArray:=⟨#[115,110,97,112,115,104,111,116,32,48]⟩
abbrev xj:iy:=⟨0,5,false,⟨#[97]⟩⟩
abbrev wk:gW:=⟨1,1,[xj],[Ar],0⟩
abbrev uz:h_:=⟨1,0,0,[],m9 2⟩
abbrev xh:Rq:=⟨1,0,1,1,0,0,false⟩
abbrev vg:h_:=⟨1,0,1,[xh],m9 2⟩
abbrev xg:h_:=⟨1,0,1,[xh],⟨2,1,2,0,1,0,[],0,false⟩⟩
abbrev Aq:h_:=⟨1,0,1,[xh],⟨2,2,2,0,1,0,[⟨5,⟨#[97]⟩⟩],5,true⟩⟩
abbrev BO:h_:=⟨1,0,1,[xh],⟨2,3,2,0,1,0,[⟨5,⟨#[97]⟩⟩],5,true⟩⟩
abbrev rI:il:=⟨[(1,1)],0,0⟩
theorem O3:ma xj 8=true:=by decide
theorem Wq:ji wk=true:=wO.2 ⟨by decide,.inl ⟨rfl,rfl,by decide,by decide,λc hc=>by rw[List.mem_singleton.1 hc];exact O3,λs hs=>by rw[List.mem_singleton.1 hs];decide⟩⟩
theorem Ww:(uz.take wk).1=vg/\(uz.take wk).2.2=0:=by
 unfold h_.take
 rw[if_neg (by rw[Wq];decide),if_neg (by decide),if_pos rfl]
 exact⟨by kernel_rfl,rfl⟩
theorem As:uY uz=false/\uY vg=true/\uY xg=true/\uY Aq=true/\uY BO=false:=by decide
theorem Wv{k k2:g_}{AL:List gW}(h:KS 1 AL k)(hl:AL.length=1)(e:k.lV 2 2=(k2,(2,0))):(⟨k,vg,nW,2⟩:ig).step=(⟨k2,xg,rI,2⟩,(3,0)):=by
 unfold ig.step
 rw[if_neg (by rw[As.2.1];decide),if_pos rfl]
 unfold ig.wM
 have e1:(nP nW [xh]).next=(rI,1):=by kernel_rfl
 show (⟨k,vg,nW,2⟩:ig).ug (nP nW [xh]).next=_
 rw[e1]
 show (⟨k,vg,rI,2⟩:ig).vM xh=_
 unfold ig.vM
 simp only[h.head,hl]
 rw[show (((1:Nat):Int)+1)=2 from rfl,e]
 rfl
theorem Wt{k:g_}{AL:List gW}(h:KS 1 AL k)(hl:wx 0 AL=[⟨5,⟨#[97]⟩⟩]):(⟨k,xg,rI,2⟩:ig).step=(⟨k,Aq,rI,2⟩,(4,0)):=by
 unfold ig.step
 rw[if_neg (by rw[As.2.2.1];decide),if_neg (show ¬((1:Int)=0) by decide),if_pos rfl]
 have e:k.s6 0 0 2=[⟨5,⟨#[97]⟩⟩]:=by
  unfold g_.s6
  rw[h.ts]
  have:=Jk AL 0 (n:=1) (by decide)
  rw[show (0:Int)=((0:Nat):Int) from rfl,this,show ((0:Nat):Int)=0 from rfl,hl]
  decide
 show (({k:=k,m:={xg with cF:=xg.cF.fill (k.s6 0 0 2)},d:=rI,n:=2}:ig),((4:Int),(0:Int)))=_
 rw[e]
 have:xg.cF.fill [⟨5,⟨#[97]⟩⟩]=Aq.cF:=by unfold ir.fill;rw[if_neg (by decide)];rfl
 rw[this]
theorem Wu{k k2:g_}{a:Int}(e:k.lV 3 2=(k2,(a,0))):(⟨k,Aq,rI,2⟩:ig).step=(⟨k2,BO,rI,2⟩,(5,0)):=by
 unfold ig.step
 rw[if_neg (by rw[As.2.2.2.1];decide),if_neg (show ¬((2:Int)=0) by decide),if_neg (show ¬((2:Int)=1) by decide)]
 unfold ig.xL
 simp only[e]
 rfl
theorem Ws{k:g_}:(⟨k,BO,rI,2⟩:ig).step=(⟨k,BO,rI,2⟩,(0,0)):=by
 unfold ig.step
 rw[if_pos As.2.2.2.2]
theorem YY:SP 42 [] [] (eW (.bool true) []):=by
 intro W F w hS;apply dRe;delta NO aF bF aW d_ dW cw ai gw dw bR iV;(try simp only[app]at hS)
 have hS:=SL.Iv hS
 generalize bw.emp=H at hS
 have hc:Ag 1 ⟨1,0,64,0,2,0,0,0,0,0⟩:=⟨rfl,by decide,by decide,by decide,by decide,by decide,by decide,by decide,by decide⟩
 have hp:=Uh hc
 have hK:=KS.init (n:=1) (by decide) (by decide) (size:=64) (by decide) (by decide)
 refine yz rfl ?_
 refine Cc (Zp H ⟨1,0,64,0,2,0,0,0,0,0⟩ 1 hc) ?_;clear hS
 rintro _ post ⟨x,H1,fF,rfl,rfl⟩ w hS
 try simp only[app]at hS
 have hp:(⟨rm 1 64,uz,nW,2⟩:ig).Good 0:=hp
 have hS:SL W (rD x::.pt x.pp (lF x.sp x.mp x.wp x.gp 2) 201::.ob (jU x.gp nW)::.ob (gF x.mp x.wp H1 uz)::.ob (iC x.sp x.tp x.dp x.lp (rm 1 64))::.ob (dI x.dp (rm 1 64).d)::.mem H1::F) w:=SL.b_ hS (t:=rD x::.pt x.pp (lF x.sp x.mp x.wp x.gp (vS 1 ⟨1,0,64,0,2,0,0,0,0,0⟩).n) 201::.ob (jU x.gp (vS 1 ⟨1,0,64,0,2,0,0,0,0,0⟩).d)::.ob (gF x.mp x.wp H1 (vS 1 ⟨1,0,64,0,2,0,0,0,0,0⟩).m)::.ob (iC x.sp x.tp x.dp x.lp (vS 1 ⟨1,0,64,0,2,0,0,0,0,0⟩).k)::.ob (dI x.dp (vS 1 ⟨1,0,64,0,2,0,0,0,0,0⟩).k.d)::.mem H1::F) Xi
 have Es:(rm 1 64).d.ops=0:=rfl
 generalize rm 1 64=k0 at *
 refine Gp ?_
 refine zt ?_
 refine Gp ?_
 refine zD hS (cells:=[.string Ar]) (by rfl) λsb w hS=>?_
 obtain⟨H2,f',hR,hS⟩:=SL.Fs (sz:=1) (H:=H1) hS Xp rfl
 refine Gp ?_
 refine zD hS (cells:=jE xj) (by rfl) λcb w hS=>?_
 obtain⟨H3,jA,hC,hS⟩:=SL.Fs (sz:=4) (H:=H2) hS Xp rfl
 have AK:=bw.le_trans f' jA
 have hS:=gF.iK (mp:=x.mp) (wp:=x.wp) (m:=uz) AK hS Xr
 refine Cc (Zx x.sp x.tp x.dp x.lp k0 H3 (.slice (some ⟨sb,0,none⟩) 1 1) (.slice (some ⟨cb,0,none⟩) 1 1) [Ar] [xj] (hR.mono jA) hC (by decide) hp.src (by decide) (by omega)) ?_;clear hS
 rintro r post ⟨rfl,rfl⟩ w hS
 have HH:=Pr k0 [Ar] [xj]
 have tX:=hp.Av [Ar] [xj]
 obtain⟨k1,e1,B_⟩:=hK.Av (sg:=[Ar]) (l:=[xj]) (by decide) (λc hc=>by rw[List.mem_singleton.1 hc];exact O3) (by decide) (λc hc=>by rw[List.mem_singleton.1 hc];decide) (λc hc=>by rw[List.mem_singleton.1 hc];decide) (by decide) (by decide)
 have B_:KS 1 [wk] k1:=B_
 rw[e1]at hS HH tX ⊢
 simp only at hS HH tX ⊢
 clear e1 hK hp
 try simp only[app]at hS
 have Cr:=tX.src.g
 have iA:=B_.read (j:=0) (by decide)
 have iA:k1.kf 1= .ok wk:=iA
 refine Gp ?_
 refine Cc (yM x.sp x.tp x.dp x.lp k1 Cr (by decide) H3 1 (by decide)) ?_;clear hS
 rintro r post hq w hS
 unfold ve at hq
 rw[iA]at hq
 obtain⟨xt,H4,ld,rfl,hx,rfl⟩:=hq
 clear iA
 try simp only[app]at hS
 refine Gp ?_
 refine zI hS λtb w hS=>?_
 refine zB (vs:=iG xt) hS Xu rfl rfl (rM (aI:=xt.aI) (kind:=xt.kind) (mark:=xt.mark) hx.cv.one hx.sv.one) λw hS=>?_
 have hS:=gF.iK (mp:=x.mp) (wp:=x.wp) (m:=uz) ld hS Xr
 refine Gp ?_
 refine za (λh=>absurd rfl h) (λ_=>?_)
 refine Gp ?_
 refine za (λh=>absurd rfl h) (λ_=>?_)
 refine Gp ?_
 refine Cc (yG x.sp x.mp x.wp x.pp x.gp 2 H4 uz (by decide)) ?_;clear hS
 rw[As.1]
 (rintro v post ⟨rfl,rfl⟩ w hS;(try simp only[app]at hS);(repeat (first|refine Gp ?_|refine Gw λw hS=>?_|refine Gb λb w hS=>?_)))
 have td:=(tX.x_ (by decide)).m
 obtain⟨t1,t2⟩:=Ww
 refine⟨λus w=>∃H5:bw,us=[.int .i64 0]/\SL W (rD x::.pt x.pp (lF x.sp x.mp x.wp x.gp 2) 201::.ob (jU x.gp nW)::.ob (gF x.mp x.wp H5 vg)::.ob (iC x.sp x.tp x.dp x.lp k1)::.ob (dI x.dp k1.d)::.mem H5::F) w,?_,?_⟩
 ·refine Gn λw hS=>?_
  refine⟨?_,?_⟩
  ·refine Cc (yV x.mp x.wp H4 uz td xt wk hx (by decide)) ?_;clear hS
   rintro r post ⟨x3,H5,Ed,rfl,pB,rfl⟩ w hS
   rw[t1]at hS
   rw[t2]
   try simp only[app]at hS
   refine Gp ?_
   refine zI hS λb1 w hS=>?_
   refine zB (vs:=kT x3) hS Xu rfl rfl (uD pB) λw hS=>?_
   exact⟨H5,rfl,aR hS⟩
  ·refine Gb λb1 w hS=>?_
   refine Cc (yV x.mp x.wp H4 uz td xt wk hx (by decide)) ?_;clear hS
   rintro r post ⟨x3,H5,Ed,rfl,pB,rfl⟩ w hS
   rw[t1]at hS
   rw[t2]
   try simp only[app]at hS
   refine Gp ?_
   refine zB (vs:=kT x3) hS Xu rfl rfl (uD pB) λw hS=>?_
   exact⟨H5,rfl,aR hS⟩
 clear hS
 rintro v7 w ⟨H5,dR,hS⟩
 cases dR
 refine Gp ?_
 refine za (λh=>absurd rfl h) (λ_=>?_)
 have uT:=tX.take wk
 simp only at uT
 rw[t1]at uT
 clear tX td t1 t2
 refine Gp ?_
 refine Cc (yG x.sp x.mp x.wp x.pp x.gp 2 H5 vg (by decide)) ?_;clear hS
 rw[As.2.1]
 (rintro v post ⟨rfl,rfl⟩ w hS;(try simp only[app]at hS);(repeat (first|refine Gp ?_|refine Gw λw hS=>?_|refine Gb λb w hS=>?_)))
 refine zt ?_
 have tc:∀kind:Int,(kind=2\/kind=3)->∀aI:Int,1<=aI/\aI<=1099511627776->ji ⟨aI,kind,[],[],2⟩=true:=λkind h aI h1=>wO.2 ⟨h1,.inr ⟨h,by show (1:Int)<=2;decide,by show (2:Int)<=1099511627776;decide,rfl,rfl⟩⟩
 obtain⟨k2,e2,RA⟩:=B_.mark (kind:=2) (mark:=2) (.inl rfl) (tc 2 (.inl rfl)) (by decide)
 have e2:k1.lV 2 2=(k2,(2,0)):=e2
 have s2:=Wv B_ rfl e2
 have o2:=Jf ⟨k1,vg,nW,2⟩
 have EK:=uT.step
 rw[s2]at o2 EK
 obtain⟨k3,e3,hK3⟩:=RA.mark (kind:=3) (mark:=2) (.inr rfl) (tc 3 (.inr rfl)) (by decide)
 have s3:=Wt RA (by kernel_rfl)
 have s4:=Wu e3
 have o4:=Jf ⟨k2,Aq,rI,2⟩
 have CJ:=EK.step
 simp only at CJ
 rw[s3]at CJ
 have CK:=CJ.step
 simp only at CK
 rw[s4]at o4 CK
 simp only at o2 o4 HH EK CJ CK
 refine Gp ?_
 refine Cc (yA x.sp x.tp x.dp x.lp x.mp x.wp x.pp x.gp H5 ⟨k1,vg,nW,2⟩ (uT.x_ (by decide)) (by show k1.d.ops<=_;omega)) ?_;clear hS
 rintro _ post ⟨H6,h56,rfl,rfl⟩ w hS
 rw[s2]at hS ⊢
 (try simp only[app]at hS);refine Gp ?_
 refine Cc (yA x.sp x.tp x.dp x.lp x.mp x.wp x.pp x.gp H6 ⟨k2,xg,rI,2⟩ (EK.x_ (by decide)) (by show k2.d.ops<=_;omega)) ?_;clear hS
 rintro _ post ⟨H7,G3,rfl,rfl⟩ w hS
 rw[s3]at hS ⊢
 (try simp only[app]at hS);refine Gp ?_
 refine Cc (yA x.sp x.tp x.dp x.lp x.mp x.wp x.pp x.gp H7 ⟨k2,Aq,rI,2⟩ (CJ.x_ (by decide)) (by show k2.d.ops<=_;omega)) ?_;clear hS
 rintro _ post ⟨H8,h78,rfl,rfl⟩ w hS
 rw[s4]at hS ⊢
 (try simp only[app]at hS);refine Gp ?_
 refine Cc (yA x.sp x.tp x.dp x.lp x.mp x.wp x.pp x.gp H8 ⟨k3,BO,rI,2⟩ (CK.x_ (by decide)) (by show k3.d.ops<=_;omega)) ?_;clear hS
 rintro _ post ⟨H9,h89,rfl,rfl⟩ w hS
 rw[Ws]at hS ⊢
 (try simp only[app]at hS);refine Gp ?_
 refine za (λ_=>?_) (λh=>absurd rfl h)
 refine Gp ?_
 refine za (λ_=>?_) (λh=>absurd rfl h)
 refine Gp ?_
 refine za (λ_=>?_) (λh=>absurd rfl h)
 refine Gp ?_
 refine za (λ_=>?_) (λh=>absurd rfl h)
 refine Gp ?_
 refine Cc (yi x.sp x.tp x.dp x.lp k3 CK.src.g (by decide)) ?_;clear hS
 rw[hK3.head]
 (rintro v post ⟨rfl,rfl⟩ w hS;(try simp only[app]at hS);(repeat (first|refine Gp ?_|refine Gw λw hS=>?_|refine Gb λb w hS=>?_)))
 exact fw hS
set_option maxRecDepth 100000
open Go.ChangeShapes Go.WideShapes Go.ChangeAt Go.RowKit
def Jh:lI pg:=(oe (rA .i64) (oe (rA .i64) (oe (rA .i64) (oe (rA .i64) (oe (rA .i64) (oe (rA .i64) (oe (rA .i64) (oe (rA .i64) (oe (rA .i64) (oe (rA .i64) Dp)))))))))).via λc=>(c.tables,c.late,c.size,c.queue,c.chunk,c.batch,c.base,c.l4,c.C3,c.every,())
theorem cFm{w:World}{M:MS}{c:pg}{cs:List Value}(h:Jh.rd w M c cs):cs=tJ c:=by
 obtain⟨c1,c2,rfl,h1,c3,c4,rfl,h3,c5,c6,rfl,h5,c7,c8,rfl,h7,c9,c10,rfl,h9,WK,Gg,rfl,xA,WL,c14,rfl,AK,WM,c16,rfl,h15,WN,c18,rfl,h17,WO,WQ,rfl,h19,h20⟩:=h
 have B5:c1=[.int .i64 c.tables]:=h1
 have B7:c3=[.int .i64 c.late]:=h3
 have B9:c5=[.int .i64 c.size]:=h5
 have B':c7=[.int .i64 c.queue]:=h7
 have h9':c9=[.int .i64 c.chunk]:=h9
 have aIn:WK=[.int .i64 c.batch]:=xA
 have aIo:WL=[.int .i64 c.base]:=AK
 have aIr:WM=[.int .i64 c.l4]:=h15
 have aIt:WN=[.int .i64 c.C3]:=h17
 have aIv:WO=[.int .i64 c.every]:=h19
 have aIx:WQ=[]:=h20
 subst B5 B7 B9 B' h9' aIn aIo aIr aIt aIv aIx
 rfl
def bR4(c:pg):Prop:=True
theorem d_p:pI Tryz.prog 87 Jh bR4:=
 Z9 (ZD (λc:pg=>(c.tables,c.late,c.size,c.queue,c.chunk,c.batch,c.base,c.l4,c.C3,c.every,())) (λx=>⟨x.1,x.2.1,x.2.2.1,x.2.2.2.1,x.2.2.2.2.1,x.2.2.2.2.2.1,x.2.2.2.2.2.2.1,x.2.2.2.2.2.2.2.1,x.2.2.2.2.2.2.2.2.1,x.2.2.2.2.2.2.2.2.2.1⟩) (λ_=>rfl)
  (yW Tryz.underlying87 (by kernel_rfl) (oR (zN Tryz.underlying3 (by kernel_rfl)) rfl (oR (zN Tryz.underlying3 (by kernel_rfl)) rfl (oR (zN Tryz.underlying3 (by kernel_rfl)) rfl (oR (zN Tryz.underlying3 (by kernel_rfl)) rfl (oR (zN Tryz.underlying3 (by kernel_rfl)) rfl (oR (zN Tryz.underlying3 (by kernel_rfl)) rfl
   (oR (zN Tryz.underlying2 (by kernel_rfl)) rfl (oR (zN Tryz.underlying2 (by kernel_rfl)) rfl (oR (zN Tryz.underlying2 (by kernel_rfl)) rfl (oR (zN Tryz.underlying2 (by kernel_rfl)) rfl (GM _ _)))))))))))))
  (λc h=>trivial)
structure uv where
 kind:Int
 n:Int
 sg:List ByteArray
 l:List iy
structure w6 where
 kind:Int
 n:Int
 sv:Value
 cv:Value
def xn(x:w6):List Value:=[.int .i64 x.kind,.int .i64 x.n,x.sv,x.cv]
theorem XQ(x:w6):(xn x).length=4:=rfl
structure Ak(H:bw)(x:w6)(o:uv):Prop where
 kind:x.kind=o.kind
 n:x.n=o.n
 sv:fW H 1 x.sv o.sg.length (o.sg.map Value.string)
 cv:fW H 4 x.cv o.l.length (o.l.map jE).flatten
theorem Ak.mono{H H':bw}(hh:H.le H'){x:w6}{o:uv}(h:Ak H x o):Ak H' x o:=⟨h.kind,h.n,h.sv.mono hh,h.cv.mono hh⟩
def Dz(H:bw)(v:Value)(l:List uv):Prop:=∃xs:List w6,xs.length=l.length/\fW H 4 v l.length (xs.map xn).flatten/\∀i (h:i<l.length) (h':i<xs.length),Ak H xs[i] l[i]
def t28:lI uv:=(oe (rA .i64) (oe (rA .i64) (oe (Ji Dn) (oe (Ji FD) Dp)))).via λo=>(o.kind,o.n,o.sg,o.l,())
theorem cFf{w:World}{l:List ByteArray}{v:Value}(h:ph Dn w nU l v):fW (bw.of w) 1 v l.length (l.map Value.string):=by
 have:=h.flat (enc:=λs=>[.string s]) (λh=>h) (λ_=>rfl)
 have e:(l.map λs=>[Value.string s]).flatten=l.map Value.string:=by
  clear this h
  induction l with
  | nil=>rfl
  | cons a l ih=>simp[ih]
 rw[e]at this
 exact this
theorem cFl{w:World}{o:uv}{cs:List Value}(h:t28.rd w nU o cs):∃x:w6,cs=xn x/\Ak (bw.of w) x o:=by
 obtain⟨c1,c2,rfl,h1,c3,c4,rfl,h3,c5,c6,rfl,h5,c7,c8,rfl,h7,h8⟩:=h
 have B5:c1=[.int .i64 o.kind]:=h1
 have B7:c3=[.int .i64 o.n]:=h3
 obtain⟨sv,B9,uV⟩:∃v,c5=[v]/\ph Dn w nU o.sg v:=h5
 obtain⟨cv,B',nz⟩:∃v,c7=[v]/\ph FD w nU o.l v:=h7
 have G4:c8=[]:=h8
 subst B5 B7 B9 B' G4
 exact⟨⟨o.kind,o.n,sv,cv⟩,rfl,rfl,rfl,cFf uV,nz.flat cFn (λ_=>rfl)⟩
theorem Dz.of{w:World}{l:List uv}{v:Value}(h:ph t28 w nU l v):Dz (bw.of w) v l:=by
 obtain⟨wo,h1,h2,h3⟩:=ph.WV h (by decide)
 have hex:∀i,∃x:w6,∀(h:i<l.length) (h':i<wo.length),wo[i]=xn x/\Ak (bw.of w) x l[i]:=λi=>by
  by_cases hi:i<l.length
  ·obtain⟨x,e,hx⟩:=cFl (h3 i hi (by omega))
   exact⟨x,λ_ _=>⟨e,hx⟩⟩
  ·exact⟨⟨0,0,.slice none 0 0,.slice none 0 0⟩,λh=>absurd h hi⟩
 obtain⟨f,hf⟩:=Classical.axiomOfChoice hex
 refine⟨(List.range l.length).map f,by simp,?_,λi hi Ez=>by simpa using (hf i hi (by omega)).2⟩
 have e:wo=((List.range l.length).map f).map xn:=List.ext_getElem (by simp[h1]) λi g1 g2=>by simpa using (hf i (by omega) g1).1
 rw[e]at h2
 exact h2
def IG(o:uv):Prop:=SV o.n/\o.sg.length<=140737488351232/\o.l.length<=140737488351232/\∀c∈o.l,SV c.key
theorem eF9:pI Tryz.prog 119 t28 IG:=
 Z9 (ZD (λo:uv=>(o.kind,o.n,o.sg,o.l,())) (λx=>⟨x.1,x.2.1,x.2.2.1,x.2.2.2.1⟩) (λ_=>rfl)
  (yW Tryz.underlying119 (by kernel_rfl) (oR (zN Tryz.underlying3 (by kernel_rfl)) rfl (oR (zN Tryz.underlying3 (by kernel_rfl)) rfl
   (oR (T4 (b:=16) (YK Tryz.underlying9 (by kernel_rfl)) Tryz.underlying37 (by kernel_rfl) (by kernel_rfl) (by decide)) rfl
    (oR (T4 (b:=40) W2 Tryz.underlying35 (by kernel_rfl) (by kernel_rfl) (by decide)) rfl (GM _ _))))))) (λo h=>by
   have h2:=h.2.2.1
   have h3:=h.2.2.2.1
   exact⟨SW h.2.1,by have:=h2.1;simp only at this;omega,by have:=h3.1;simp only at this;omega,λc hc=>SW (h3.2 c hc)⟩)
theorem WW(c:pg):Ag (1+md c.tables 4) (BQ c):=by
 have h1:=oa c.tables 4 (by decide)
 have h2:=oa c.size 4 (by decide)
 have h3:=oa c.chunk 4 (by decide)
 have hp:0<2 ^ (1+md c.tables 4):=Nat.pow_pos (by decide)
 have h4:=oa c.late (2 ^ (1+md c.tables 4)) hp
 have hs:=WZ h2
 refine⟨by show (1:Int)+(md c.tables 4:Int)=((1+md c.tables 4:Nat):Int);omega,by omega,by omega,hs.1,by show vl (md c.size 4)<=_;omega,by show (0:Int)<=(md c.late (2 ^ (1+md c.tables 4)):Int);omega,?_,by show (1:Int)<=1+(md c.chunk 4:Int);omega,by show 1+(md c.chunk 4:Int)<=64;omega⟩
 show (md c.late (2 ^ (1+md c.tables 4)):Int)<2 ^ (1+md c.tables 4)
 have:((2 ^ (1+md c.tables 4):Nat):Int)=(2:Int) ^ (1+md c.tables 4):=by simp
 omega
theorem Yo(H:bw)(c:pg)(v:Value)(l:List uv)(hv:Dz H v l)(cR:∀o∈l,IG o):
  SP 9 [agg (tJ c),v] [.mem H] (λv post=>v= .bool true/\∃H' l,H.le H'/\post= .mem H'::l):=by
 intro W F w hS;apply vc9;delta Ox aF a_ dW cw ai gw;(try simp only[app]at hS)
 obtain⟨xs,pC,A8,CZ⟩:=hv
 refine zC hS λcb w hS=>?_
 refine zL hS Xh rfl ?_
 refine Cc (qt c) ?_;clear hS
 rintro _ post ⟨rfl,rfl⟩ w hS
 try simp only[app]at hS
 refine zB hS Xu rfl rfl (XR _) λw hS=>?_
 refine zL hS Xh rfl ?_
 have Ep:=WW c
 generalize BQ c=cc at *
 have h4:=oa c.tables 4 (by decide)
 generalize hn:1+md c.tables 4=n at *
 have Cq:=Uh Ep
 have ho0:(vS n cc).k.d.ops=0:=rfl
 refine Cc (Zp H cc n Ep) ?_;clear hS
 rintro _ post ⟨x,H1,fF,rfl,rfl⟩ w hS
 generalize vS n cc=p0 at *
 (try simp only[app]at hS);refine Gp ?_
 refine zt ?_
 have RV:=Ep.tables
 have xT:=Ep.n1
 obtain⟨ct,cl,cs,cq,WT,sr,uA,cm,cj,ce⟩:=cc
 simp only at RV
 subst RV
 unfold tJ at hS
 generalize Rw:Chunk.pt cb [.int .i64 (n:Int),.int .i64 cl,.int .i64 cs,.int .i64 cq,.int .i64 WT,.int .i64 sr,.int .i64 uA,.int .i64 cm,.int .i64 cj,.int .i64 ce] 87=CB at hS
 have hS:SL W (app (rE x H1 p0) (CB::F)) w:=aR hS
 refine⟨λus w=>∃(i:Nat) (H2:bw) (p:ig),us=[.int .i64 i]/\i<=100/\i<=l.length/\H.le H2/\p.Good (2000*i)/\p.k.d.ops<=3*i/\SL W (app (rE x H2 p) (CB::F)) w,
  λus _=>match us with|[.int _ i]=>(l.length-i).toNat|_=>0,⟨0,H1,p0,rfl,by omega,by omega,fF,Cq,by omega,hS⟩,?_⟩
 clear hS Cq ho0 fF
 rintro v6 w ⟨i,H2,p,dR,hi,b8,iS,hg,iP,hS⟩
 cases dR
 try simp only[app]at hS
 have kX:∀{w:World},SL W (.mem H2::F) w->aw 42 [] w λv w=>∃post,(v= .bool true/\∃H' l,H.le H'/\post= .mem H'::l)/\SL W (app post F) w:=λhS=>by
  refine Cg (YY) λw hS=>?_
  exact⟨_,⟨rfl,H2,[],iS,rfl⟩,aR hS⟩
 refine zn A8 ?_
 refine Gp ?_
 refine za (λha=>?_) (λha=>kX (aR hS))
 refine Gp ?_
 refine za (λhb=>?_) (λhb=>kX (aR hS))
 clear kX
 have hl:i<l.length:=by omega
 have R':i<xs.length:=by omega
 have hx:xs[i]?=some xs[i]:=List.getElem?_eq_getElem R'
 have rZ:=(CZ i hl R').mono iS
 have Sl:=cR _ (List.getElem_mem hl)
 refine Gn λw hS=>?_
 refine zK hS Xh XQ (A8.mono iS) hx hl ?_
 generalize l[i]=o at *
 generalize xs[i]=xi at *
 have X5:xn xi=[.int .i64 o.kind,.int .i64 o.n,xi.sv,xi.cv]:=by unfold xn;rw[rZ.kind,rZ.n]
 rw[X5]
 rw[<- Rw]at hS
 refine Gp ?_
 refine Cc (XK x H2 p o.kind o.n xi.sv xi.cv o.sg o.l n rZ.sv rZ.cv Sl.2.1 Sl.2.2.1 xT (by omega) hg (by omega) (by omega)) ?_;clear hS
 rintro _ post ⟨rfl,H3,p',jA,Ev,eFo,rfl⟩ w hS
 (try simp only[app]at hS);refine Gp ?_
 refine zt ?_
 refine Cc (YW x H3 p' Ev (by omega)) ?_;clear hS
 rintro _ post ⟨rfl,H4,ld,rfl⟩ w hS
 (try simp only[app]at hS);refine Gp ?_
 refine zt ?_
 refine Gp ?_
 rw[Rw]at hS
 exact⟨⟨i+1,H4,p',rfl,by omega,by omega,bw.le_trans iS (bw.le_trans jA ld),Ev,by omega,aR hS⟩,by dsimp only;omega⟩
theorem eIf(c:pg)(l:List uv)(ok:∀o∈l,IG o)(cs:Array Value)(v:Value)(w:World)(hc:Jh.rd w nU c cs.toList)(hl:ph t28 w nU l v):
  Calls Tryz.prog 9 #[.agg cs,v] w λe w'=>e= .returned (.bool true)/\Below w.heap.size w w':=by
 obtain rfl:cs=(tJ c).toArray:=by rw[<- cFm hc]
 exact (qB (Yo (bw.of w) c v l (Dz.of hl) ok)).calls
end Go.Proofs.YtfenmffiidchcaaGreat
