/-
  Texts of the proof, joined: Own, OpT, CellsN, TxT, TxL, PlaySig, TxnsS, BytesT, Law12K, Law28, SameI, Law28D, Law28E, Law28K, Law28P, Law28A, Law28N, Law28T, Law28R, Law28F, Law28V, Law28U, Law28X, Law28Y, Law28Z, Law28G, Law28S.
-/
import Derived.Test.YtfenmffiidchcaaGreatJ12
import Derived.Test.YtfenmffiidchcaaGreatRows
namespace Go.Proofs.YtfenmffiidchcaaGreat
set_option linter.unusedVariables false
theorem Tryz.own:ownKnob Tryz.prog.godebug=none:=by kernel_rfl
theorem Tryz.laidOut:laidOutB Tryz.prog=true:=by kernel_rfl
set_option maxRecDepth 100000
open Go.ChangeShapes Go.WideShapes Go.ChangeAt Go.RowKit
def SJ:gm mf:=(kq (nR .i64) (kq (nR .i64) (kq (nR .i64) (kq G7 (kq wH wI))))).via λo=>(o.aI,o.table,o.key,o.gone,o.val,())
theorem b93{w:World}{M:MS}{o:mf}{cs:List Value}(h:SJ.rd w M o cs):cs=pQ o:=by
 obtain⟨c1,c2,rfl,h1,c3,c4,rfl,h3,c5,c6,rfl,h5,c7,c8,rfl,h7,c9,DM,rfl,h9,oe⟩:=h
 have xr:c1=[.int .i64 o.aI]:=h1
 have xw:c3=[.int .i64 o.table]:=h3
 have xy:c5=[.int .i64 o.key]:=h5
 have xz:c7=[.bool o.gone]:=h7
 have EB:c9=[.string o.val]:=h9
 have Ev:DM=[]:=oe
 subst xr xw xy xz EB Ev
 rfl
def aw5(o:mf):Prop:=se .i64 o.aI/\se .i64 o.table/\se .i64 o.key/\Rv o.val
theorem b7j:lT Tryz.prog 123 SJ aw5:=
 Z0 (Zz (λo:mf=>(o.aI,o.table,o.key,o.gone,o.val,())) (λx=>⟨x.1,x.2.1,x.2.2.1,x.2.2.2.1,x.2.2.2.2.1⟩) (λ_=>rfl)
  (yM Tryz.underlying123 (by kernel_rfl) (mO (tm Tryz.underlying2 (by kernel_rfl)) rfl (mO (tm Tryz.underlying3 (by kernel_rfl)) rfl (mO (tm Tryz.underlying2 (by kernel_rfl)) rfl (mO (ZZ Tryz.underlying4 (by kernel_rfl)) rfl (mO (Zy Tryz.underlying9 (by kernel_rfl)) rfl (Ee _ _)))))))) (λo h=>⟨h.1,h.2.1,h.2.2.1,h.2.2.2.2.1⟩)
theorem iq.Uq{α:Type}{T:gm α}(hT:T.n=1){w:World}{xs:List α}{v:Value}(h:iq T w jn xs v):
  ∃vs:List Value,vs.length=xs.length/\dy (aW.of w) 1 v xs.length vs/\∀i (h:i<xs.length) (h':i<vs.length),T.rd w jn xs[i] [vs[i]]:=by
 obtain⟨a,cap,rfl,hc,hx⟩:=h.out
 have hex:∀i,∃u,∀h:i<xs.length,T.rd w jn xs[i] [u]/\∃b off,a=some ⟨b,off,none⟩/\w.cell? ⟨b,off+i,none⟩=some u:=λi=>by
  by_cases hi:i<xs.length
  ·obtain⟨b,off,cs,ha,hr,fD⟩:=hx i hi
   have hl:=T.len hr
   rw[hT]at hl
   match cs,hl with
   | [u],_=>
    refine⟨u,λ_=>⟨hr,b,off,ha,?_⟩⟩
    have:=fD.2 0 u rfl
    rw[hT]at this
    simpa using this
  ·exact⟨undef,λh=>absurd h hi⟩
 obtain⟨f,hf⟩:=Classical.axiomOfChoice hex
 refine⟨(List.range xs.length).map f,by simp,⟨by simp,a,cap,rfl,hc,?_⟩,λi hi lJ=>?_⟩
 ·rcases Nat.eq_zero_or_pos xs.length with h0|h0
  ·exact .inl h0
  ·right
   obtain⟨_,b,off,rfl,_⟩:=hf 0 h0
   refine⟨b,off,rfl,λj u hu=>?_⟩
   have hj:j<xs.length:=by have:=(List.getElem?_eq_some_iff.1 hu).1;simpa using this
   have An:f j=u:=by simpa [hj] using hu
   obtain⟨_,b',CB,oq,ix⟩:=hf j hj
   simp at oq
   obtain⟨rfl,rfl⟩:=oq
   rw[An]at ix
   unfold World.cell? at ix
   unfold aW.cell aW.of
   simp only at ix ⊢
   split at ix
   ·rename_i c t f nD;rw[nD];simpa using ix
   ·cases ix
 ·simpa using (hf i hi).1
theorem iq.rows{α:Type}{T:gm α}{enc:α->List Value}{w:World}{wP:List (List α)}{v:Value}(h:iq (wG T) w jn wP v)(he:∀{M x cs},T.rd w M x cs->cs=enc x)(hn:∀x,(enc x).length=T.n):
  ∃vs:List Value,vs.length=wP.length/\dy (aW.of w) 1 v wP.length vs/\∀i (h:i<wP.length) (h':i<vs.length),dy (aW.of w) T.n vs[i] wP[i].length (wP[i].map enc).flatten:=by
 obtain⟨vs,h1,h2,h3⟩:=iq.Uq rfl h
 refine⟨vs,h1,h2,λi hi lJ=>?_⟩
 obtain⟨u,hu,hr⟩:=h3 i hi lJ
 have:vs[i]=u:=by simpa using hu
 rw[this]
 exact hr.flat he hn
theorem iq.Ur{α:Type}{T:gm α}{w:World}{xs:List α}{v:Value}(h:iq T w jn xs v)(hT:0<T.n):
  ∃kA:List (List Value),kA.length=xs.length/\dy (aW.of w) T.n v xs.length kA.flatten/\∀i (h:i<xs.length) (h':i<kA.length),T.rd w jn xs[i] kA[i]:=by
 obtain⟨a,cap,rfl,hc,hx⟩:=h.out
 have hex:∀i,∃cs:List Value,cs.length=T.n/\∀h:i<xs.length,T.rd w jn xs[i] cs/\∃b off,a=some ⟨b,off,none⟩/\At w jn b (off+i*T.n) cs:=λi=>by
  by_cases hi:i<xs.length
  ·obtain⟨b,off,cs,ha,hr,fD⟩:=hx i hi
   exact⟨cs,T.len hr,λ_=>⟨hr,b,off,ha,fD⟩⟩
  ·exact⟨List.replicate T.n undef,by simp,λh=>absurd h hi⟩
 obtain⟨f,hf⟩:=Classical.axiomOfChoice hex
 have hlen:∀x∈(List.range xs.length).map f,x.length=T.n:=λx hx=>by
  obtain⟨i,_,rfl⟩:=List.mem_map.1 hx;exact (hf i).1
 have ou:((List.range xs.length).map f).flatten.length=xs.length*T.n:=by rw[Em (n:=T.n) _ hlen];simp
 refine⟨(List.range xs.length).map f,by simp,⟨ou,a,cap,rfl,hc,?_⟩,λi hi lJ=>?_⟩
 ·rcases Nat.eq_zero_or_pos xs.length with h0|h0
  ·exact .inl h0
  ·right
   obtain⟨_,b,off,rfl,_⟩:=(hf 0).2 h0
   refine⟨b,off,rfl,λj u hu=>?_⟩
   have hj:=(List.getElem?_eq_some_iff.1 hu).1
   rw[ou]at hj
   have hi:j / T.n<xs.length:=(Nat.div_lt_iff_lt_mul hT).2 hj
   obtain⟨_,b',CB,oq,fD⟩:=(hf (j / T.n)).2 hi
   simp at oq
   obtain⟨rfl,rfl⟩:=oq
   have uC:j % T.n<(f (j / T.n)).length:=by rw[(hf _).1];exact Nat.mod_lt _ hT
   have hg:=xl (n:=T.n) ((List.range xs.length).map f) hlen (j / T.n) (j % T.n) (by simpa using hi) ((f (j / T.n))[j % T.n]'uC) (by simp[List.getElem?_eq_getElem uC])
   have EW:j / T.n*T.n+j % T.n=j:=by rw[Nat.mul_comm];exact Nat.div_add_mod j T.n
   rw[EW,hu]at hg
   have An:u=(f (j / T.n))[j % T.n]:=Option.some.inj hg
   have:=fD.2 (j % T.n) u (by rw[An];exact List.getElem?_eq_getElem uC)
   rw[show off+j / T.n*T.n+j % T.n=off+j by omega]at this
   unfold World.cell? at this
   unfold aW.cell aW.of
   simp only at this ⊢
   split at this
   ·rename_i c t f nD;rw[nD];simpa using this
   ·cases this
 ·simpa using ((hf i).2 hi).1
def AU:gm dW:=(kq (nR .i64) (kq (nR .i64) (kq G7 (kq wH wI)))).via λo=>(o.table,o.key,o.gone,o.val,())
theorem a_c{w:World}{M:MS}{o:dW}{cs:List Value}(h:AU.rd w M o cs):cs=gi o:=by
 obtain⟨c1,c2,rfl,h1,c3,c4,rfl,h3,c5,c6,rfl,h5,c7,c8,rfl,h7,h8⟩:=h
 have xr:c1=[.int .i64 o.table]:=h1
 have xw:c3=[.int .i64 o.key]:=h3
 have xy:c5=[.bool o.gone]:=h5
 have xz:c7=[.string o.val]:=h7
 have VO:c8=[]:=h8
 subst xr xw xy xz VO
 rfl
def G8:gm cW:=(kq (nR .i64) (kq (nR .i64) (kq (wG AU) (kq (wG wH) (kq (nR .i64) wI))))).via λt=>(t.aI,t.kind,t.changes,t.signals,t.mark,())
theorem a_d{w:World}{t:cW}{cs:List Value}(h:G8.rd w jn t cs):∃x:jq,cs=eI x/\gO (aW.of w) x t:=by
 obtain⟨c1,c2,rfl,h1,c3,c4,rfl,h3,c5,c6,rfl,h5,c7,c8,rfl,h7,c9,DM,rfl,h9,oe⟩:=h
 have xr:c1=[.int .i64 t.aI]:=h1
 have xw:c3=[.int .i64 t.kind]:=h3
 obtain⟨cv,xy,kX⟩:∃v,c5=[v]/\iq AU w jn t.changes v:=h5
 obtain⟨sv,xz,uJ⟩:∃v,c7=[v]/\iq wH w jn t.signals v:=h7
 have EB:c9=[.int .i64 t.mark]:=h9
 have Ev:DM=[]:=oe
 subst xr xw xy xz EB Ev
 refine⟨⟨t.aI,t.kind,cv,sv,t.mark⟩,rfl,rfl,rfl,rfl,kX.flat a_c (λ_=>rfl),?_⟩
 have:=uJ.flat (enc:=λs=>[.string s]) (λh=>h) (λ_=>rfl)
 have e:(t.signals.map λs=>[Value.string s]).flatten=t.signals.map Value.string:=by
  induction t.signals with
  | nil=>rfl
  | cons a l ih=>simp[ih]
 rw[e]at this
 exact this
theorem wW.of{w:World}{l:List cW}{v:Value}(h:iq G8 w jn l v):wW (aW.of w) v l:=by
 obtain⟨kA,h1,h2,h3⟩:=iq.Ur h (by decide)
 have hex:∀i,∃x:jq,∀(h:i<l.length) (h':i<kA.length),kA[i]=eI x/\gO (aW.of w) x l[i]:=λi=>by
  by_cases hi:i<l.length
  ·obtain⟨x,e,hx⟩:=a_d (h3 i hi (by omega))
   exact⟨x,λ_ _=>⟨e,hx⟩⟩
  ·exact⟨⟨0,0,.slice none 0 0,.slice none 0 0,0⟩,λh=>absurd h hi⟩
 obtain⟨f,hf⟩:=Classical.axiomOfChoice hex
 refine⟨(List.range l.length).map f,by simp,?_,λi hi lJ=>by simpa using (hf i hi (by omega)).2⟩
 have e:kA=((List.range l.length).map f).map eI:=List.ext_getElem (by simp[h1]) λi g1 g2=>by simpa using (hf i (by omega) g1).1
 rw[e]at h2
 exact h2
def aw6(c:dW):Prop:=se .i64 c.key
theorem Uw:lT Tryz.prog 82 AU aw6:=
 Z0 (Zz (λo:dW=>(o.table,o.key,o.gone,o.val,())) (λx=>⟨x.1,x.2.1,x.2.2.1,x.2.2.2.1⟩) (λ_=>rfl)
  (yM Tryz.underlying82 (by kernel_rfl) (mO (tm Tryz.underlying3 (by kernel_rfl)) rfl (mO (tm Tryz.underlying2 (by kernel_rfl)) rfl (mO (ZZ Tryz.underlying4 (by kernel_rfl)) rfl (mO (Zy Tryz.underlying9 (by kernel_rfl)) rfl (Ee _ _))))))) (λo h=>h.2.1)
def aw8(t:cW):Prop:=Pr t.kind/\t.changes.length<=140737488351232/\t.signals.length<=140737488351232/\∀c∈t.changes,Pr c.key
theorem b96:lT Tryz.prog 39 G8 aw8:=
 Z0 (Zz (λt:cW=>(t.aI,t.kind,t.changes,t.signals,t.mark,())) (λx=>⟨x.1,x.2.1,x.2.2.1,x.2.2.2.1,x.2.2.2.2.1⟩) (λ_=>rfl)
  (yM Tryz.underlying39 (by kernel_rfl) (mO (tm Tryz.underlying2 (by kernel_rfl)) rfl (mO (tm Tryz.underlying3 (by kernel_rfl)) rfl
   (mO (RD (b:=40) Uw Tryz.underlying35 (by kernel_rfl) (by kernel_rfl) (by decide)) rfl (mO (RD (b:=16) (Zy Tryz.underlying9 (by kernel_rfl)) Tryz.underlying37 (by kernel_rfl) (by kernel_rfl) (by decide)) rfl
    (mO (tm Tryz.underlying2 (by kernel_rfl)) rfl (Ee _ _)))))))) (λt h=>by
   have h2:=h.2.2.1
   have h3:=h.2.2.2.1
   exact⟨Ps h.2.1,by have:=h2.1;simp only at this;omega,by have:=h3.1;simp only at this;omega,λc hc=>Ps (h2.2 c hc)⟩)
set_option maxRecDepth 100000
open Go.RowKit
def Dj(H:aW)(v:Value)(ls:List (List dW)):Prop:=∃vs:List Value,vs.length=ls.length/\dy H 1 v ls.length vs/\∀i (h:i<ls.length) (h':i<vs.length),dy H 4 vs[i] ls[i].length (ls[i].map gi).flatten
theorem Dj.mono{H H':aW}(hh:H.le H'){v:Value}{ls:List (List dW)}(h:Dj H v ls):Dj H' v ls:=by
 obtain⟨vs,h1,h2,h3⟩:=h
 exact⟨vs,h1,h2.mono hh,λi hi lJ=>(h3 i hi lJ).mono hh⟩
def Ds(H:aW)(xs:List jq)(l:List cW):Prop:=xs.length=l.length/\∀i (h:i<l.length) (h':i<xs.length),gO H xs[i] l[i]
theorem Ds.mono{H H':aW}(hh:H.le H'){xs:List jq}{l:List cW}(h:Ds H xs l):Ds H' xs l:=⟨h.1,λi h1 h2=>(h.2 i h1 h2).mono hh⟩
open Go.ChangeShapes Go.WideShapes Go.ChangeAt Go.RowKit
theorem Ns{α:Type}(f:α->Value):∀l:List α,(l.map λx=>[f x]).flatten=l.map f
 | []=>rfl
 | x::l=>by simp only[List.map_cons,List.flatten_cons,Ns f l];rfl
theorem iq.ints{k:IntKind}{w:World}{l:List Int}{v:Value}(h:iq (nR k) w jn l v):dy (aW.of w) 1 v l.length (l.map (Value.int k)):=by
 have h2:=h.flat (enc:=λx=>[.int k x]) (λh=>h) (λ_=>rfl)
 rw[Ns]at h2
 exact h2
set_option maxRecDepth 100000
open Go.RowKit
theorem dA.Good.tf{p:dA}{N:Nat}(h:p.Good N)(hN:N<=900000000):p.Ok:=
 ⟨⟨h.reqs,h.t1,by have:=h.rows;omega,h.jB⟩,h.d,h.d.len,⟨N,h.src,hN⟩,h.n,h.row.1,by have:=h.wid;omega⟩
theorem dm.awp{W w:World}{l:List Chunk}{H:aW}{xp:Nat}(hS:SL W (.pt xp [.slice none 0 0,.int .i64 0,.bool false,.int .i64 0] 66::l) w):SL W (.ob (dm H xp ja)::l) w:=by
 have hS:SL W (.ob (a7 (.slice none 0 0) 186 3 0 [])::.pt xp [.slice none 0 0,.int .i64 0,.bool false,.int .i64 0] 66::l) w:=a7.nil hS
 exact (dm.iff (H:=H) (s:=ja)).2 ⟨Value.slice none 0 0,[],⟨rfl,λy hy=>by cases hy⟩,SL.b6 hS (t:=.pt xp [.slice none 0 0,.int .i64 0,.bool false,.int .i64 0] 66::.ob (a7 (.slice none 0 0) 186 3 0 [])::l) Xi⟩
structure vl where
 xb:Nat
 sp:Nat
 tp:Nat
 dp:Nat
 lp:Nat
 mp:Nat
 wp:Nat
 pp:Nat
 gp:Nat
 kp:Nat
 xp:Nat
 CK:Nat
 rp:Nat
 ym:Nat
 yw:Nat
 zp:Nat
 zg:Nat
abbrev UL(x:vl):List Value:=[dg x.dp,dg x.sp,dg x.mp,dg x.pp,dg x.xp,dg x.kp,dg x.ym,dg x.zp]
abbrev sx(x:vl):Chunk:=.pt x.xb (UL x) 95
abbrev Ti(x:vl)(H1 H2 H3:aW)(p q:dA):List Chunk:=[sx x,.pt x.pp (jc x.sp x.mp x.wp x.gp p.n) 201,.ob (fA x.gp p.d),.ob (dr x.mp x.wp H1 p.m),.ob (dU x.sp x.tp x.dp x.lp p.k),.ob (b_ x.dp p.k.d),.pt x.zp (GO x.kp x.ym x.zg q.n) 286,.ob (lU x.zg H2 q.d),.ob (lV x.ym x.yw H2 q.m),.ob (fk x.kp x.xp x.CK x.rp H2 q.k),.ob (dm H2 x.xp q.k.d),.mem H3]
abbrev Th(x:vl)(H:aW)(p:dA):List Chunk:=Ti x H H H p p
def tu(n:Nat)(c:vi):dA:=⟨lN n c.size,⟨n,c.late,0,[],gl c.chunk⟩,gu,c.chunk⟩
structure vf(n:Nat)(c:vi):Prop where
 tables:c.tables=n
 n1:1<=n
 n8:n<=8
 s0:64<=c.size
 s1:c.size<=65536
 b9h:0<=c.late
 b9i:c.late<2 ^ n
 c1:1<=c.chunk
 Mk:c.chunk<=64
theorem P5:gn []:=⟨by decide,λi h=>by simp at h⟩
theorem vf.mux{n:Nat}{c:vi}(h:vf n c):¬oD n c.late c.chunk 0 []:=by
 obtain⟨h1,h2,h3,h4,h5,h6,h7,h8,h9⟩:=h
 unfold oD
 rw[show ((n:Nat):Int).toNat=n from Int.toNat_natCast n]
 rintro (h|h|h|h|h|h|h|h|h|⟨r,hr,_⟩)
 ·omega
 ·omega
 ·omega
 ·omega
 ·omega
 ·omega
 ·omega
 ·omega
 ·exact h P5
 ·cases hr
theorem aIa{n:Nat}{c:vi}(h:vf n c):(tu n c).Good 0:=
 ⟨P5,⟨by have:=h.n1;show (1:Int)<=(n:Int);omega,by have:=h.n8;show (n:Int)<=8;omega⟩,by show (0:Int)<=0/\(0:Int)<=1099511627776;decide,h.Mk,by show 0<=64;decide,by show (0:Int)<=0/\(0:Int)<=64;decide,D7,(λm hm=>by cases hm),⟨h.c1,h.Mk⟩,St h.n1 h.n8 h.s0 h.s1⟩
theorem Zk(H:aW)(c:vi)(n:Nat)(hc:vf n c):
  SP 40 [agg (MV c)] [.mem H] (λv post=>∃(x:vl) (H':aW),H.le H'/\v=dg x.xb/\post=Th x H' (tu n c)):=by
 obtain⟨e1,_⟩:=Su hc.n1 hc.n8 hc.s0 hc.s1
 have Fh:=hc.mux
 have Fo:∀d' g,gD ja 16 c.size=(d',.ok g)->(eF g.bI).length<=50000:=λd' g h=>by rw[Rx (by decide) (by decide) hc.s0 hc.s1]at h;cases h;exact Nat.zero_le _
 obtain⟨ct,cl,cs,cq,cc,Uo,Un,cm,cj,ce⟩:=c
 obtain⟨c1,c2,c3,c4,c5,c6,c7,c8,c9⟩:=hc
 simp only at c1 c4 c5 c6 c7 c8 c9 e1 Fo Fh
 subst c1
 intro W F w hS;apply b5o;delta KU bw a_ dx df ai dk bF;(try simp only[app]at hS)
 refine zK hS λcb w hS=>?_
 unfold MV at hS
 refine Cc (QX) ?_;clear hS
 rintro _ post ⟨dp,rfl,rfl⟩ w hS
 (try simp only[app]at hS);refine Gp ?_
 refine zK hS λxp w hS=>?_
 have hS:=dm.awp (H:=H) hS
 refine Gp ?_
 refine zK hS λxb w hS=>?_
 have hS:SL W (.pt xb [dg dp,.pointer none,.pointer none,.pointer none,dg xp,.pointer none,.pointer none,.pointer none] 95::_) w:=hS
 refine Gp ?_
 refine zq ?_
 refine Gn λw hS=>?_
 refine Cc (Qj H dp ja n cs (GQ 0) (by decide) (by decide) Fo) ?_;clear hS
 rintro r post hq w hS
 rw[e1]at hq
 obtain⟨sp,tp,lp,H1,d_,rfl,rfl⟩:=hq
 refine Gn λw hS=>?_
 refine Cc (QW H1 n cl cc 0 (.slice none 0 0) [] (dy.nil _ _) (by decide)) ?_;clear hS
 rintro r post hq w hS
 rcases hq with ⟨hq,_⟩|⟨_,mp,wp,H2,eh,rfl,rfl⟩
 ·exact absurd hq Fh
 refine Gn λw hS=>?_
 refine zq ?_
 refine Gp ?_
 refine zq ?_
 refine Gn λw hS=>?_
 refine Cc (Ql sp mp wp H2 ⟨n,cl,0,[],gl cc⟩ cc) ?_;clear hS
 rintro r post hq w hS
 rcases hq with ⟨hq,_⟩|⟨_,pp,gp,rfl,rfl⟩
 ·exact absurd ⟨c8,c9⟩ hq
 refine Gn λw hS=>?_
 refine zq ?_
 obtain⟨rv,hr,hS⟩:=dr.iff.1 (SL.b6 hS (t:=.ob (dr mp wp H2 ⟨n,cl,0,[],gl cc⟩)::.pt pp (jc sp mp wp gp cc) 201::.ob (fA gp gu)::.ob (dU sp tp dp lp (lN n cs))::.ob (b_ dp ja)::.ob (dm H xp ja)::.pt xb [dg dp,dg sp,dg mp,dg pp,dg xp,.pointer none,.pointer none,.pointer none] 95::.pt cb [.int .i64 n,.int .i64 cl,.int .i64 cs,.int .i64 cq,.int .i64 cc,.int .i64 Uo,.int .i64 Un,.int .i64 cm,.int .i64 cj,.int .i64 ce] 87::.mem H2::F) Xi)
 refine Gp ?_
 refine Z8 (vs:=[dg wp]) hS Xh rfl (λj v e=>by
  match j,e with
  | 0,e=>exact e) ?_
 refine Cg (Zv wp) λw hS=>?_
 refine zq ?_
 have hS:=dr.put _ rv hr hS Xp
 have hS:=dm.gC (xp:=xp) (aW.le_trans d_ eh) hS Xr
 refine Gn λw hS=>?_
 refine Cc (qn H2 xp ja n cs (N:=0) (GQ 0) (by decide) (λx hx=>by cases hx) (by decide) (by decide) Fo) ?_;clear hS
 rintro r post hq w hS
 rw[e1]at hq
 obtain⟨kp,CK,rp,H3,gE,rfl,rfl⟩:=hq
 refine Gn λw hS=>?_
 refine Cc (qW H3 n cl cc 0 (.slice none 0 0) [] (dy.nil _ _) (by decide)) ?_;clear hS
 rintro r post hq w hS
 rcases hq with ⟨hq,_⟩|⟨_,ym,yw,H4,kT,rfl,rfl⟩
 ·exact absurd hq Fh
 refine Gn λw hS=>?_
 refine Cc (qo kp ym H4 cc) ?_;clear hS
 rintro r post hq w hS
 rcases hq with ⟨hq,_⟩|⟨_,zp,zg,rfl,rfl⟩
 ·exact absurd ⟨c8,c9⟩ hq
 refine Gn λw hS=>?_
 have hS:=dr.gC (mp:=mp) (wp:=wp) (m:=⟨n,cl,0,[],gl cc⟩) (aW.le_trans gE kT) hS Xr
 have hS:=fk.gC (k:=lN n cs) kT hS Xr
 have hS:=dm.gC (xp:=xp) kT hS Xr
 refine⟨_,⟨⟨xb,sp,tp,dp,lp,mp,wp,pp,gp,kp,xp,CK,rp,ym,yw,zp,zg⟩,H4,aW.le_trans d_ (aW.le_trans eh (aW.le_trans gE kT)),rfl,rfl⟩,?_⟩
 exact SL.b6 hS (t:=.pt xb [dg dp,dg sp,dg mp,dg pp,dg xp,dg kp,dg ym,dg zp] 95::.pt pp (jc sp mp wp gp cc) 201::.ob (fA gp gu)::.ob (dr mp wp H4 ⟨n,cl,0,[],gl cc⟩)::.ob (dU sp tp dp lp (lN n cs))::.ob (b_ dp ja)::.pt zp (GO kp ym zg cc) 286::.ob (lU zg H4 gu)::.ob (lV ym yw H4 ⟨n,cl,0,[],gl cc⟩)::.ob (fk kp xp CK rp H4 (lN n cs))::.ob (dm H4 xp ja)::.mem H4::F) Xi
theorem T2(s:DS)(f:Int)(b:List UInt8):(s.append f b).1.ops<=s.ops+1:=by
 unfold DS.append;split
 ·exact Nat.le_succ _
 ·exact Nat.le_refl _
theorem a_b(s:DS)(f:Int):(s.sync f).1.ops<=s.ops+1:=by
 unfold DS.sync;split
 ·exact Nat.le_succ _
 ·split<;>exact Nat.le_refl _
theorem UI(s:DS)(f n:Int):(s.cut f n).1.ops<=s.ops+1:=by
 unfold DS.cut;split
 ·exact Nat.le_succ _
 ·split
  ·exact Nat.le_succ _
  ·split<;>exact Nat.le_refl _
theorem aRx(s:DS)(f:Int):(s.remove f).1.ops<=s.ops+1:=by
 unfold DS.remove;split
 ·exact Nat.le_succ _
 ·split<;>exact Nat.le_refl _
theorem ai9(g:dJ)(d:DS):(dI g d).1.2.ops<=d.ops+1:=by
 unfold dI
 split
 ·exact Nat.le_succ _
 ·simp only
  split
  ·exact aRx ..
  ·exact UI ..
theorem TY(g:dJ)(d:DS)(p:List UInt8):(fP g d p).1.2.ops<=d.ops+3:=by
 unfold fP
 split
 ·exact Nat.le_add_right _ _
 ·rename_i x _
  have h1:=ai9 g d
  simp only
  split
  ·simp only;omega
  ·have h2:=T2 (dI g d).1.2 x.file x.b
   split
   ·simp only;omega
   ·have h3:=a_b ((dI g d).1.2.append x.file x.b).1 x.file
    split<;>(simp only;omega)
theorem LL(k:du)(t:cW):(k.ir t).1.d.ops<=k.d.ops+3:=by
 unfold du.ir
 split
 ·exact Nat.le_add_right _ _
 ·split
  ·exact Nat.le_add_right _ _
  ·simp only
   split<;>exact TY ..
theorem DV(k:du)(sg:List ByteArray)(l:List dW):(k.jE sg l).1.d.ops<=k.d.ops+3:=by
 unfold du.jE
 split
 ·exact LL ..
 ·exact Nat.le_add_right _ _
theorem P3(k:du)(a b:Int):(k.jx a b).1.d.ops<=k.d.ops+3:=by
 unfold du.jx
 split
 ·exact LL ..
 ·exact Nat.le_add_right _ _
theorem AS(p:dA):p.step.1.k.d.ops<=p.k.d.ops+3:=by
 unfold dA.step
 split
 ·exact Nat.le_add_right _ _
 ·split
  ·unfold dA.uS dA.rh
   split
   ·exact Nat.le_add_right _ _
   ·unfold dA.tc
    split<;>exact P3 ..
  ·split
   ·exact Nat.le_add_right _ _
   ·unfold dA.ux
    simp only
    split<;>exact P3 ..
abbrev so(t:cW)(n:Nat):cW:=⟨(n:Int)+1,t.kind,t.changes,t.signals,t.mark⟩
structure KS(n:Nat)(AL:List cW)(k:du):Prop where
 l4:jP n AL
 live:∃d0 f m,sG n k AL 0 [] d0 f 0 m
 off:k.d.off=false
 arm:k.d.arm=0
 full:∀s∈k.g.bI,s.l≠[]
theorem KS.init{n:Nat}(n1:1<=n)(n8:n<=8){size:Int}(s0:64<=size)(s1:size<=65536):KS n [] (lN n size):=by
 obtain⟨_,hL⟩:=Su n1 n8 s0 s1
 exact⟨jP.nil n,⟨ja,16,0,hL⟩,rfl,rfl,by simp[lN]⟩
theorem KS.head{n:Nat}{AL:List cW}{k:du}(h:KS n AL k):b9 k.g.bI=AL.length:=by
 obtain⟨d0,f,m,hL⟩:=h.live
 exact hL.head h.off
theorem KS.ts{n:Nat}{AL:List cW}{k:du}(h:KS n AL k):k.ts=gV n AL:=by
 obtain⟨d0,f,m,hL⟩:=h.live
 exact hL.ts
theorem KS.read{n:Nat}{AL:List cW}{k:du}(h:KS n AL k){j:Nat}(hj:j<AL.length):k.fp ((j:Int)+1)= .ok AL[j]:=by
 obtain⟨d0,f,m,hL⟩:=h.live
 exact hL.read h.l4.ok.may (Nat.zero_le _) hj
theorem KS.CF{n:Nat}{AL:List cW}{k:du}(h:KS n AL k):k.fp ((AL.length:Int)+1)= .error 5:=by
 obtain⟨d0,f,m,hL⟩:=h.live
 unfold du.fp
 rw[hL.log.chain.read,if_pos (by omega),hL.log.kD,List.getElem?_eq_none (by rw[List.length_map,List.length_drop];omega)]
theorem KS.add{n:Nat}{AL:List cW}{k:du}(h:KS n AL k){t:cW}(hm:eH (so t AL.length)=true)(hc:∀c∈t.changes,gd n c=true)(hf:jP n (AL++[so t AL.length])):
  ∃k',k.ir t=(k',((AL.length:Int)+1,0))/\KS n (AL++[so t AL.length]) k':=by
 obtain⟨d0,f,m,hL⟩:=h.live
 have ho:=h.off
 have ha:=h.arm
 have hlen:=h.l4.len
 have mA:=hL.head ho
 have hd:=hL.MR
 have ph:d0.off=false:=by rw[hd]at ho;exact ho
 have N_:d0.arm=0:=by rw[hd]at ha;exact ha
 have hl:=hL.log.inv ph
 have s7:=hL.FV.le
 have Ww:=hL.file
 have hb:=hL.base
 have jJ:=hL.ts
 have rQ:=Vc hm
 have nE:=hf.fits
 have pZ:=T1 hl (p:=iS (so t AL.length)) (by omega) (by rw[List.length_map,List.length_drop];omega) (by rw[List.length_map,List.length_drop,hb];omega) (by omega)
 obtain⟨ew,hw,_⟩:=TZ (A:=[]) (B:=[]) (d:=d0) (hL.log.VK hb) hL.b8 (iS (so t AL.length))
 have Wc:k.ir t=(let r:=fP k.g k.d (iS (so t AL.length));if r.2.2=0 then ({k with g:=r.1.1,d:=r.1.2,ts:=eZ k.ts t.changes},((AL.length:Int)+1,0)) else ({k with g:=r.1.1,d:=r.1.2},(0,r.2.2))):=by
  unfold du.ir
  rw[if_neg (by simp[ho]),if_neg (by rw[jJ,nE,mA];simp;omega),mA]
 rw[Wc,hd,ew]
 have mz:(AL.drop 0).map iS++[iS (so t AL.length)]=((AL++[so t AL.length]).drop 0).map iS:=by simp
 rcases pZ with ⟨g',d',e,hv,eJ,ha',EL,BM,b82,ou,_,_⟩|⟨d',e,hT,Fq,eJ,EL⟩
 ·rw[e]at hw ⊢
  simp only at hw ⊢
  rw[if_pos trivial]
  rw[mz]at hv
  refine⟨_,rfl,hf,⟨d',f,m,⟨rfl,hw,hv.laid,BM.trans hb,hL.FV.mono _,hL.image,Nat.zero_le _,Nat.le_refl _,?_,Ww⟩⟩,hv.off,EL N_,ou⟩
  show eZ k.ts t.changes=_
  rw[jJ,CW (t:=so t AL.length) hc]
 ·exact absurd N_ EL
theorem KS.oU{n:Nat}{AL:List cW}{k:du}(h:KS n AL k){sg:List ByteArray}{l:List dW}(h2:l.length<=16)(h3:∀x∈l,ib x 8=true)(h4:sg.length<=2)(h5:∀s∈sg,s.size<=40)(hc:∀c∈l,gd n c=true)(h6:AL.length+1<=1000)(h7:(AL.flatMap (·.changes)).length+l.length<=1000):
  ∃k',k.jE sg l=(k',((AL.length:Int)+1,0))/\KS n (AL++[⟨(AL.length:Int)+1,1,l,sg,0⟩]) k':=by
 have hm:∀aI:Int,1<=aI/\aI<=1099511627776->eH ⟨aI,1,l,sg,0⟩=true:=λaI h1=>ri.2 ⟨h1,.inl ⟨rfl,rfl,h2,h4,h3,h5⟩⟩
 have y':=hm ((AL.length:Int)+1) (by omega)
 obtain⟨k',e,hk⟩:=h.add (t:=⟨1,1,l,sg,0⟩) y' hc (h.l4.app y' rfl hc h6 h7)
 refine⟨k',?_,hk⟩
 unfold du.jE
 rw[if_pos ⟨hm 1 (by decide),λc gj=>by rw[h.ts,rn];exact (of_decide_eq_true (hc c gj)).2⟩]
 exact e
theorem KS.mark{n:Nat}{AL:List cW}{k:du}(h:KS n AL k){kind mark:Int}(hk:kind=2\/kind=3)(hm:∀aI:Int,1<=aI/\aI<=1099511627776->eH ⟨aI,kind,[],[],mark⟩=true)(h6:AL.length+1<=1000):
  ∃k',k.jx kind mark=(k',((AL.length:Int)+1,0))/\KS n (AL++[⟨(AL.length:Int)+1,kind,[],[],mark⟩]) k':=by
 have y':=hm ((AL.length:Int)+1) (by omega)
 obtain⟨k',e,xV⟩:=h.add (t:=⟨1,kind,[],[],mark⟩) y' (by simp) (h.l4.app y' rfl (by simp) h6 (by have:=h.l4.gH;simp only[List.length_nil];omega))
 refine⟨k',?_,xV⟩
 unfold du.jx
 rw[if_pos ⟨hk,hm 1 (by decide)⟩]
 exact e
abbrev vr:ByteArray:=⟨#[115,110,97,112,115,104,111,116,32,48]⟩
abbrev tU:dW:=⟨0,5,false,⟨#[97]⟩⟩
abbrev sI:cW:=⟨1,1,[tU],[vr],0⟩
abbrev pL:dD:=⟨1,0,0,[],gl 2⟩
abbrev tT:Rq:=⟨1,0,1,1,0,0,false⟩
abbrev rE:dD:=⟨1,0,1,[tT],gl 2⟩
abbrev tS:dD:=⟨1,0,1,[tT],⟨2,1,2,0,1,0,[],0,false⟩⟩
abbrev vq:dD:=⟨1,0,1,[tT],⟨2,2,2,0,1,0,[⟨5,⟨#[97]⟩⟩],5,true⟩⟩
abbrev w9:dD:=⟨1,0,1,[tT],⟨2,3,2,0,1,0,[⟨5,⟨#[97]⟩⟩],5,true⟩⟩
abbrev mK:dt:=⟨[(1,1)],0,0⟩
theorem L4:ib tU 8=true:=by decide
theorem T4:eH sI=true:=ri.2 ⟨by decide,.inl ⟨rfl,rfl,by decide,by decide,λc hc=>by rw[List.mem_singleton.1 hc];exact L4,λs hs=>by rw[List.mem_singleton.1 hs];decide⟩⟩
theorem T9:(pL.take sI).1=rE/\(pL.take sI).2.2=0:=by
 unfold dD.take
 rw[if_neg (by rw[T4];decide),if_neg (by decide),if_pos rfl]
 exact⟨by kernel_rfl,rfl⟩
theorem vt:lj pL=false/\lj rE=true/\lj tS=true/\lj vq=true/\lj w9=false:=by decide
theorem T8{k k2:du}{AL:List cW}(h:KS 1 AL k)(hl:AL.length=1)(e:k.jx 2 2=(k2,(2,0))):(⟨k,rE,gu,2⟩:dA).step=(⟨k2,tS,mK,2⟩,(3,0)):=by
 unfold dA.step
 rw[if_neg (by rw[vt.2.1];decide),if_pos rfl]
 unfold dA.uS
 have e1:(fY gu [tT]).next=(mK,1):=by kernel_rfl
 show (⟨k,rE,gu,2⟩:dA).rh (fY gu [tT]).next=_
 rw[e1]
 show (⟨k,rE,mK,2⟩:dA).tc tT=_
 unfold dA.tc
 simp only[h.head,hl]
 rw[show (((1:Nat):Int)+1)=2 from rfl,e]
 rfl
theorem T6{k:du}{AL:List cW}(h:KS 1 AL k)(hl:gY 0 AL=[⟨5,⟨#[97]⟩⟩]):(⟨k,tS,mK,2⟩:dA).step=(⟨k,vq,mK,2⟩,(4,0)):=by
 unfold dA.step
 rw[if_neg (by rw[vt.2.2.1];decide),if_neg (show ¬((1:Int)=0) by decide),if_pos rfl]
 have e:k.oS 0 0 2=[⟨5,⟨#[97]⟩⟩]:=by
  unfold du.oS
  rw[h.ts]
  have:=CV AL 0 (n:=1) (by decide)
  rw[show (0:Int)=((0:Nat):Int) from rfl,this,show ((0:Nat):Int)=0 from rfl,hl]
  decide
 show (({k:=k,m:={tS with b8:=tS.b8.fill (k.oS 0 0 2)},d:=mK,n:=2}:dA),((4:Int),(0:Int)))=_
 rw[e]
 have:tS.b8.fill [⟨5,⟨#[97]⟩⟩]=vq.b8:=by unfold dQ.fill;rw[if_neg (by decide)];rfl
 rw[this]
theorem T7{k k2:du}{a:Int}(e:k.jx 3 2=(k2,(a,0))):(⟨k,vq,mK,2⟩:dA).step=(⟨k2,w9,mK,2⟩,(5,0)):=by
 unfold dA.step
 rw[if_neg (by rw[vt.2.2.2.1];decide),if_neg (show ¬((2:Int)=0) by decide),if_neg (show ¬((2:Int)=1) by decide)]
 unfold dA.ux
 simp only[e]
 rfl
theorem T5{k:du}:(⟨k,w9,mK,2⟩:dA).step=(⟨k,w9,mK,2⟩,(0,0)):=by
 unfold dA.step
 rw[if_pos vt.2.2.2.2]
theorem Zj:SP 42 [] [] (dj (.bool true) []):=by
 intro W F w hS;apply b5q;delta KW aF bw cF df dc b7 ai dk c_ bF C6;(try simp only[app]at hS)
 have hS:=SL.F8 hS
 generalize aW.emp=H at hS
 have hc:vf 1 ⟨1,0,64,0,2,0,0,0,0,0⟩:=⟨rfl,by decide,by decide,by decide,by decide,by decide,by decide,by decide,by decide⟩
 have hp:=aIa hc
 have hK:=KS.init (n:=1) (by decide) (by decide) (size:=64) (by decide) (by decide)
 refine yr rfl ?_
 refine Cc (Zk H ⟨1,0,64,0,2,0,0,0,0,0⟩ 1 hc) ?_;clear hS
 rintro _ post ⟨x,H1,d_,rfl,rfl⟩ w hS
 try simp only[app]at hS
 have hp:(⟨lN 1 64,pL,gu,2⟩:dA).Good 0:=hp
 have hS:SL W (sx x::.pt x.pp (jc x.sp x.mp x.wp x.gp 2) 201::.ob (fA x.gp gu)::.ob (dr x.mp x.wp H1 pL)::.ob (dU x.sp x.tp x.dp x.lp (lN 1 64))::.ob (b_ x.dp (lN 1 64).d)::.mem H1::F) w:=SL.b6 hS (t:=sx x::.pt x.pp (jc x.sp x.mp x.wp x.gp (tu 1 ⟨1,0,64,0,2,0,0,0,0,0⟩).n) 201::.ob (fA x.gp (tu 1 ⟨1,0,64,0,2,0,0,0,0,0⟩).d)::.ob (dr x.mp x.wp H1 (tu 1 ⟨1,0,64,0,2,0,0,0,0,0⟩).m)::.ob (dU x.sp x.tp x.dp x.lp (tu 1 ⟨1,0,64,0,2,0,0,0,0,0⟩).k)::.ob (b_ x.dp (tu 1 ⟨1,0,64,0,2,0,0,0,0,0⟩).k.d)::.mem H1::F) Xi
 have ET:(lN 1 64).d.ops=0:=rfl
 generalize lN 1 64=k0 at *
 refine Gp ?_
 refine zq ?_
 refine Gp ?_
 refine zy hS (cells:=[.string vr]) (by rfl) λsb w hS=>?_
 obtain⟨H2,eh,hR,hS⟩:=SL.AJ (sz:=1) (H:=H1) hS Xp rfl
 refine Gp ?_
 refine zy hS (cells:=gi tU) (by rfl) λcb w hS=>?_
 obtain⟨H3,gE,hC,hS⟩:=SL.AJ (sz:=4) (H:=H2) hS Xp rfl
 have BF:=aW.le_trans eh gE
 have hS:=dr.gC (mp:=x.mp) (wp:=x.wp) (m:=pL) BF hS Xr
 refine Cc (yQ x.sp x.tp x.dp x.lp k0 H3 (.slice (some ⟨sb,0,none⟩) 1 1) (.slice (some ⟨cb,0,none⟩) 1 1) [vr] [tU] (hR.mono gE) hC (by decide) hp.src (by decide) (by omega)) ?_;clear hS
 rintro r post ⟨rfl,rfl⟩ w hS
 have Fs:=DV k0 [vr] [tU]
 have pj:=hp.oU [vr] [tU]
 obtain⟨k1,e1,xA⟩:=hK.oU (sg:=[vr]) (l:=[tU]) (by decide) (λc hc=>by rw[List.mem_singleton.1 hc];exact L4) (by decide) (λc hc=>by rw[List.mem_singleton.1 hc];decide) (λc hc=>by rw[List.mem_singleton.1 hc];decide) (by decide) (by decide)
 have xA:KS 1 [sI] k1:=xA
 rw[e1]at hS Fs pj ⊢
 simp only at hS Fs pj ⊢
 clear e1 hK hp
 try simp only[app]at hS
 have xO:=pj.src.g
 have dE:=xA.read (j:=0) (by decide)
 have dE:k1.fp 1= .ok sI:=dE
 refine Gp ?_
 refine Cc (zY x.sp x.tp x.dp x.lp k1 xO (by decide) H3 1 (by decide)) ?_;clear hS
 rintro r post hq w hS
 unfold rC at hq
 rw[dE]at hq
 obtain⟨xt,H4,kT,rfl,hx,rfl⟩:=hq
 clear dE
 try simp only[app]at hS
 refine Gp ?_
 refine zI hS λtb w hS=>?_
 refine zz (vs:=eI xt) hS Xu rfl rfl (mo (aI:=xt.aI) (kind:=xt.kind) (mark:=xt.mark) hx.cv.one hx.sv.one) λw hS=>?_
 have hS:=dr.gC (mp:=x.mp) (wp:=x.wp) (m:=pL) kT hS Xr
 refine Gp ?_
 refine za (λh=>absurd rfl h) (λ_=>?_)
 refine Gp ?_
 refine za (λh=>absurd rfl h) (λ_=>?_)
 refine Gp ?_
 refine Cc (yh x.sp x.mp x.wp x.pp x.gp 2 H4 pL (by decide)) ?_;clear hS
 rw[vt.1]
 (rintro v post ⟨rfl,rfl⟩ w hS;(try simp only[app]at hS);(repeat (first|refine Gp ?_|refine Gw λw hS=>?_|refine Gb λb w hS=>?_)))
 have s6:=(pj.tf (by decide)).m
 obtain⟨t1,t2⟩:=T9
 refine⟨λus w=>∃H5:aW,us=[.int .i64 0]/\SL W (sx x::.pt x.pp (jc x.sp x.mp x.wp x.gp 2) 201::.ob (fA x.gp gu)::.ob (dr x.mp x.wp H5 rE)::.ob (dU x.sp x.tp x.dp x.lp k1)::.ob (b_ x.dp k1.d)::.mem H5::F) w,?_,?_⟩
 ·refine Gn λw hS=>?_
  refine⟨?_,?_⟩
  ·refine Cc (yj x.mp x.wp H4 pL s6 xt sI hx (by decide)) ?_;clear hS
   rintro r post ⟨x3,H5,oh,rfl,uM,rfl⟩ w hS
   rw[t1]at hS
   rw[t2]
   try simp only[app]at hS
   refine Gp ?_
   refine zI hS λb1 w hS=>?_
   refine zz (vs:=kC x3) hS Xu rfl rfl (rJ uM) λw hS=>?_
   exact⟨H5,rfl,aR hS⟩
  ·refine Gb λb1 w hS=>?_
   refine Cc (yj x.mp x.wp H4 pL s6 xt sI hx (by decide)) ?_;clear hS
   rintro r post ⟨x3,H5,oh,rfl,uM,rfl⟩ w hS
   rw[t1]at hS
   rw[t2]
   try simp only[app]at hS
   refine Gp ?_
   refine zz (vs:=kC x3) hS Xu rfl rfl (rJ uM) λw hS=>?_
   exact⟨H5,rfl,aR hS⟩
 clear hS
 rintro v7 w ⟨H5,da,hS⟩
 cases da
 refine Gp ?_
 refine za (λh=>absurd rfl h) (λ_=>?_)
 have p_:=pj.take sI
 simp only at p_
 rw[t1]at p_
 clear pj s6 t1 t2
 refine Gp ?_
 refine Cc (yh x.sp x.mp x.wp x.pp x.gp 2 H5 rE (by decide)) ?_;clear hS
 rw[vt.2.1]
 (rintro v post ⟨rfl,rfl⟩ w hS;(try simp only[app]at hS);(repeat (first|refine Gp ?_|refine Gw λw hS=>?_|refine Gb λb w hS=>?_)))
 refine zq ?_
 have pe:∀kind:Int,(kind=2\/kind=3)->∀aI:Int,1<=aI/\aI<=1099511627776->eH ⟨aI,kind,[],[],2⟩=true:=λkind h aI h1=>ri.2 ⟨h1,.inr ⟨h,by show (1:Int)<=2;decide,by show (2:Int)<=1099511627776;decide,rfl,rfl⟩⟩
 obtain⟨k2,e2,NV⟩:=xA.mark (kind:=2) (mark:=2) (.inl rfl) (pe 2 (.inl rfl)) (by decide)
 have e2:k1.jx 2 2=(k2,(2,0)):=e2
 have s2:=T8 xA rfl e2
 have o2:=AS ⟨k1,rE,gu,2⟩
 have B3:=p_.step
 rw[s2]at o2 B3
 obtain⟨k3,e3,VV⟩:=NV.mark (kind:=3) (mark:=2) (.inr rfl) (pe 3 (.inr rfl)) (by decide)
 have s3:=T6 NV (by kernel_rfl)
 have s4:=T7 e3
 have o4:=AS ⟨k2,vq,mK,2⟩
 have Aa:=B3.step
 simp only at Aa
 rw[s3]at Aa
 have Ab:=Aa.step
 simp only at Ab
 rw[s4]at o4 Ab
 simp only at o2 o4 Fs B3 Aa Ab
 refine Gp ?_
 refine Cc (yt x.sp x.tp x.dp x.lp x.mp x.wp x.pp x.gp H5 ⟨k1,rE,gu,2⟩ (p_.tf (by decide)) (by show k1.d.ops<=_;omega)) ?_;clear hS
 rintro _ post ⟨H6,mR,rfl,rfl⟩ w hS
 rw[s2]at hS ⊢
 (try simp only[app]at hS);refine Gp ?_
 refine Cc (yt x.sp x.tp x.dp x.lp x.mp x.wp x.pp x.gp H6 ⟨k2,tS,mK,2⟩ (B3.tf (by decide)) (by show k2.d.ops<=_;omega)) ?_;clear hS
 rintro _ post ⟨H7,rO,rfl,rfl⟩ w hS
 rw[s3]at hS ⊢
 (try simp only[app]at hS);refine Gp ?_
 refine Cc (yt x.sp x.tp x.dp x.lp x.mp x.wp x.pp x.gp H7 ⟨k2,vq,mK,2⟩ (Aa.tf (by decide)) (by show k2.d.ops<=_;omega)) ?_;clear hS
 rintro _ post ⟨H8,Ez,rfl,rfl⟩ w hS
 rw[s4]at hS ⊢
 (try simp only[app]at hS);refine Gp ?_
 refine Cc (yt x.sp x.tp x.dp x.lp x.mp x.wp x.pp x.gp H8 ⟨k3,w9,mK,2⟩ (Ab.tf (by decide)) (by show k3.d.ops<=_;omega)) ?_;clear hS
 rintro _ post ⟨H9,o9,rfl,rfl⟩ w hS
 rw[T5]at hS ⊢
 (try simp only[app]at hS);refine Gp ?_
 refine za (λ_=>?_) (λh=>absurd rfl h)
 refine Gp ?_
 refine za (λ_=>?_) (λh=>absurd rfl h)
 refine Gp ?_
 refine za (λ_=>?_) (λh=>absurd rfl h)
 refine Gp ?_
 refine za (λ_=>?_) (λh=>absurd rfl h)
 refine Gp ?_
 refine Cc (yl x.sp x.tp x.dp x.lp k3 Ab.src.g (by decide)) ?_;clear hS
 rw[VV.head]
 (rintro v post ⟨rfl,rfl⟩ w hS;(try simp only[app]at hS);(repeat (first|refine Gp ?_|refine Gw λw hS=>?_|refine Gb λb w hS=>?_)))
 exact dq hS
set_option maxRecDepth 100000
open Go.ChangeShapes Go.WideShapes Go.ChangeAt Go.RowKit
structure Dd where
 kind:Int
 n:Int
 sg:List ByteArray
 l:List dW
structure Hz where
 kind:Int
 n:Int
 sv:Value
 cv:Value
structure Db(H:aW)(x:Hz)(o:Dd):Prop where
 kind:x.kind=o.kind
 n:x.n=o.n
 sv:dy H 1 x.sv o.sg.length (o.sg.map Value.string)
 cv:dy H 4 x.cv o.l.length (o.l.map gi).flatten
theorem Db.mono{H H':aW}(hh:H.le H'){x:Hz}{o:Dd}(h:Db H x o):Db H' x o:=⟨h.kind,h.n,h.sv.mono hh,h.cv.mono hh⟩
def t28:gm Dd:=(kq (nR .i64) (kq (nR .i64) (kq (wG wH) (kq (wG AU) wI)))).via λo=>(o.kind,o.n,o.sg,o.l,())
set_option maxRecDepth 100000
open Go.RowKit
structure HH(n:Nat)(AL:List cW)(p:dA)(N M:Nat):Prop where
 ks:KS n AL p.k
 b8:p.m.b8=gl p.n
 at_:p.m.at_=AL.length
 l5:p.Good N
 ops:p.k.d.ops<=M
abbrev lO(h:Int):cW:=⟨h+1,2,[],[],h+1⟩
abbrev l7(h:Int):cW:=⟨h+2,3,[],[],h+1⟩
abbrev tH(C h:Int)(r:Rq):dQ:=⟨C,1,h+1,r.dL,r.id,r.table,[],0,false⟩
abbrev tI(C h:Int)(r:Rq)(R:List Row):dQ:=⟨C,2,h+1,r.dL,r.id,r.table,R,ji r.dL R,decide ((R.length:Int)<C)⟩
abbrev wO(C h:Int)(r:Rq)(R:List Row):dQ:={tI C h r R with state:=3}
abbrev lx(C h:Int)(r:Rq)(R:List Row):dQ:={tI C h r R with state:=4}
def AF(C:Int)(r:Rq)(R:List Row):Rq:={r with dL:=ji r.dL R,chunks:=r.chunks+1,done:=decide ((R.length:Int)<C)}
theorem Ct{kind mark aI:Int}(hk:kind=2\/kind=3)(h1:1<=mark/\mark<=1099511627776)(h2:1<=aI/\aI<=1099511627776):eH ⟨aI,kind,[],[],mark⟩=true:=ri.2 ⟨h2,.inr ⟨hk,h1.1,h1.2,rfl,rfl⟩⟩
theorem D2{d:dt}(h:d.Ok){id:Int}:∀m∈(d.del id).l,m.1≠id:=λm hm=>by
 unfold dt.del at hm
 split at hm
 ·rename_i hf
  have:=List.findIdx?_eq_none_iff.1 hf m hm
  simpa using this
 ·rename_i i hf
  obtain⟨hi,hk,_⟩:=List.findIdx?_eq_some_iff_getElem.1 hf
  have hk:d.l[i].1=id:=of_decide_eq_true hk
  obtain⟨j,dV,hj⟩:=List.mem_eraseIdx_iff_getElem?.1 hm
  intro e
  obtain⟨kG,iL⟩:=List.getElem?_eq_some_iff.1 hj
  have pg:=List.pairwise_iff_getElem.1 h.nd
  have e1:(d.l.map Prod.fst)[i]'(by simpa using hi)=(d.l.map Prod.fst)[j]'(by simpa using kG):=by simp[hk,iL,e]
  rcases Nat.lt_trichotomy i j with dZ|heq|dZ
  ·exact pg i j (by simpa using hi) (by simpa using kG) dZ e1
  ·exact dV heq.symm
  ·exact pg j i (by simpa using kG) (by simpa using hi) dZ e1.symm
theorem MN:∀(L:List Rq) {d:dt},d.Ok->∀m∈(L.foldl (λd r=>d.del r.id) d).l,∀r∈L,m.1≠r.id
 | [],_,_,m,_,r,hr=>by cases hr
 | x::L,d,h,m,hm,r,hr=>by
  rcases List.mem_cons.1 hr with rfl|hr
  ·exact D2 h m (xd L (d.del r.id) m hm)
  ·exact MN L (h.del x.id) m hm r hr
theorem aR5{d:dt}(hd:d.Ok){L:List Rq}(hL:gn L)(hid:∀m∈d.l,m.1<=L.length):∀m∈(fY d L).l,∃r∈L,r.done=false/\r.id=m.1:=λm hm=>by
 rcases Dy _ _ m hm with hm|⟨r,hr,rfl⟩
 ·have hn:=MN _ hd m hm
  have h0:=hd.w m (xd _ _ m hm)
  have h1:=hid m (xd _ _ m hm)
  have hi:(m.1-1).toNat<L.length:=by omega
  have b8f:=(hL.2 _ hi).1.1
  refine⟨L[(m.1-1).toNat],List.getElem_mem hi,?_,by omega⟩
  cases hq:L[(m.1-1).toNat].done with
  | false=>rfl
  | true=>exact absurd (by omega) (hn _ (List.mem_filter.2 ⟨List.getElem_mem hi,hq⟩))
 ·obtain⟨h1,h2⟩:=List.mem_filter.1 hr
  exact⟨r,h1,by simpa using h2,rfl⟩
theorem R3:∀(C:List Row) (k:Int),fZ C->(∀x∈C,k<x.key/\x.key<=1099511627776)->ll k C=true
 | [],_,_,_=>rfl
 | r::C,k,hs,h=>by
  have hs:=List.pairwise_cons.1 hs
  unfold ll
  rw[Bool.and_eq_true,decide_eq_true_eq]
  exact⟨h r (.head _),R3 C r.key hs.2 λx hx=>⟨hs.1 x hx,(h x (.tail _ hx)).2⟩⟩
theorem LP{C:List Row}(h:ly C)(key n:Int):fZ (iu C key n)/\∀x∈iu C key n,key<x.key/\x.key<=1099511627776:=by
 have Aj:(iu C key n).Sublist C:=(List.take_sublist _ _).trans (List.filter_sublist)
 refine⟨h.sorted.sublist Aj,λx hx=>?_⟩
 have h1:=List.mem_of_mem_take hx
 obtain⟨h2,h3⟩:=List.mem_filter.1 h1
 exact⟨of_decide_eq_true h3,(h.rows x h2).2.1⟩
theorem aFv{k:Int}{R:List Row}(h:∀x∈R,k<x.key/\x.key<=1099511627776)(hk:k<=1099511627776):k<=ji k R/\ji k R<=1099511627776:=by
 unfold ji
 cases hl:R.getLast? with
 | none=>exact⟨Int.le_refl _,hk⟩
 | some x=>
  have:=h x (List.mem_of_getLast? hl)
  show k<=x.key/\x.key<=_
  omega
theorem Nu(t:Int)(AL:List cW)(x:cW)(h:x.changes=[]):gY t (AL++[x])=gY t AL:=by
 unfold gY
 rw[List.flatMap_append]
 simp[h]
theorem KS.row{n:Nat}{AL:List cW}{k:du}(h:KS n AL k){t:Nat}(ht:t<n):iG k.ts t=gY t AL/\ly (gY t AL):=by
 have e:=CV AL t ht
 refine⟨by rw[h.ts,e],h.l4.rows _ ?_⟩
 unfold gV
 exact List.mem_map.2 ⟨t,List.mem_range.2 ht,rfl⟩
theorem aR9{n:Nat}{AL:List cW}{p:dA}{N M:Nat}(h:HH n AL p N M)(ho:gQ p.m.reqs≠[])(hl:AL.length<=900):
  ∃r,r∈p.m.reqs/\r.done=false/\r.id=(fY p.d p.m.reqs).next.2/\∃k',KS n (AL++[lO AL.length]) k' /\
   p.step=(⟨k',{p.m with b8:=tH p.n AL.length r},(fY p.d p.m.reqs).next.1,p.n⟩,(3,0)):=by
 obtain⟨r,hr,hm,hid⟩:=h.l5.ke ho
 obtain⟨g1,g2⟩:=h.l5.row
 have dV:=R5 (d:=p.d) h.l5.reqs ho
 obtain⟨e1,mB⟩:=Rl g1 dV
 obtain⟨r',k7,p6,lJ⟩:=aR5 h.l5.d h.l5.reqs h.l5.ids _ mB
 have BS:r.done=false:=by
  obtain⟨i,hi,rfl⟩:=List.getElem_of_mem hm
  obtain⟨j,hj,rfl⟩:=List.getElem_of_mem k7
  have a1:=(h.l5.reqs.2 i hi).1.1
  have a2:=(h.l5.reqs.2 j hj).1.1
  have:i=j:=by omega
  subst this
  exact p6
 have fD:=h.l5.reqs.at hm
 obtain⟨k',e,hk⟩:=h.ks.mark (kind:=2) (mark:=(AL.length:Int)+1) (.inl rfl) (λaI j8=>Ct (.inl rfl) (by omega) j8) (by omega)
 refine⟨r,hm,BS,hid,k',hk,?_⟩
 have gK:p.m.b8.state=0:=by rw[h.b8]
 have dE:lj p.m=true:=decide_eq_true (.inr (.inr ⟨gK,ho⟩))
 unfold dA.step
 rw[if_neg (by rw[dE];decide),if_pos gK]
 unfold dA.uS dA.rh
 rw[hr]
 unfold dA.tc
 simp only[h.ks.head,e]
 rw[if_neg (by decide)]
 have ew:p.m.b8.l9 ((AL.length:Int)+1) r.id r.table r.dL=tH p.n AL.length r:=by
  rw[h.b8]
  unfold dQ.l9
  rw[if_neg]
  unfold dQ.tg
  show ¬((0:Int)≠0\/_)
  omega
 rw[ew]
theorem aR7{n:Nat}{AL:List cW}{k':du}{m:dD}{d:dt}{C h:Int}{r:Rq}(hk:KS n AL k')(hC:1<=C){t:Nat}(ht:t<n)(pk:r.table=t):
  (⟨k',{m with b8:=tH C h r},d,C⟩:dA).step=(⟨k',{m with b8:=tI C h r (iu (gY t AL) r.dL C)},d,C⟩,(4,0)):=by
 obtain⟨e1,e2⟩:=hk.row ht
 obtain⟨a1,a2⟩:=LP e2 r.dL C
 have dE:lj {m with b8:=tH C h r}=true:=decide_eq_true (.inl rfl)
 unfold dA.step
 rw[if_neg (by rw[dE];decide),if_neg (show ¬((1:Int)=0) by decide),if_pos rfl]
 have ec:k'.oS r.table r.dL C=iu (gY t AL) r.dL C:=by unfold du.oS;rw[pk,e1]
 show ((⟨k',{m with b8:=(tH C h r).fill (k'.oS r.table r.dL C)},d,C⟩:dA),((4:Int),(0:Int)))=_
 rw[ec]
 have hle:((iu (gY t AL) r.dL C).length:Int)<=C:=by
  unfold iu
  rw[List.length_take];omega
 have:(tH C h r).fill (iu (gY t AL) r.dL C)=tI C h r (iu (gY t AL) r.dL C):=by
  unfold dQ.fill
  rw[if_neg]
  unfold dQ.sQ
  rw[R3 _ _ a1 a2]
  show ¬((1:Int)≠1\/C<_\/true=false)
  rintro (h|h|h)
  ·exact h rfl
  ·omega
  ·cases h
 rw[this]
theorem aR8{n:Nat}{AL:List cW}{k':du}{m:dD}{d:dt}{C:Int}{r:Rq}{R:List Row}{l:Nat}(hk:KS n AL k')(hl:AL.length=l+1)(OM:l<=900):
  ∃Cl,KS n (AL++[l7 l]) Cl/\(⟨k',{m with b8:=tI C l r R},d,C⟩:dA).step=(⟨Cl,{m with b8:=wO C l r R},d,C⟩,(5,0)):=by
 obtain⟨Cl,e,kZ⟩:=hk.mark (kind:=3) (mark:=(l:Int)+1) (.inr rfl) (λaI j8=>Ct (.inr rfl) (by omega) j8) (by omega)
 refine⟨Cl,?_,?_⟩
 ·have:(⟨(AL.length:Int)+1,3,[],[],(l:Int)+1⟩:cW)=l7 l:=by rw[hl];simp only[cW.mk.injEq,and_true,true_and];omega
  rw[this]at kZ
  exact kZ
 ·have dE:lj {m with b8:=tI C l r R}=true:=decide_eq_true (.inr (.inl rfl))
  unfold dA.step
  rw[if_neg (by rw[dE];decide),if_neg (show ¬((2:Int)=0) by decide),if_neg (show ¬((2:Int)=1) by decide)]
  unfold dA.ux
  show (if (k'.jx 3 ((l:Int)+1)).2.2≠0 then _ else _)=_
  simp only[e]
  rfl
theorem a_p{m:dD}{C:Int}{l:Nat}{r:Rq}{R:List Row}(ha:m.at_=l)(hl:l<=900):
  ({m with b8:=wO C l r R}:dD).take (lO l)=({m with at_:=(l:Int)+1,b8:=lx C l r R},(⟨(l:Int)+1,[],[]⟩,0)):=by
 have hm:eH (lO l)=true:=Ct (.inl rfl) (by omega) (by omega)
 unfold dD.take
 rw[if_neg (by rw[hm];decide),if_neg,if_neg (show ¬((2:Int)=1) by decide),if_neg (show ¬((2:Int)=3) by decide)]
 ·have:(wO C l r R).low ((l:Int)+1)=lx C l r R:=by unfold dQ.low;rw[if_pos ⟨rfl,rfl⟩]
  show (({m with at_:=(l:Int)+1,b8:=(wO C l r R).low ((l:Int)+1)}:dD),_)=_
  rw[this]
 ·show ¬((l:Int)+1≠m.at_+1\/(wO C l r R).waits 2 ((l:Int)+1)=true)
  rintro (h|h)
  ·omega
  ·have:=of_decide_eq_true h
   have:=this.2.2
   simp at this
theorem a_n{m:dD}{C:Int}{l:Nat}{r:Rq}{R:List Row}{j:Nat}(ha:m.at_=(l:Int)+1)(hl:l<=900)(hL:gn m.reqs)(hj:j<m.reqs.length)(hr:m.reqs[j]=r)(hd:r.done=false)(hR:∀x∈R,r.dL<x.key/\x.key<=1099511627776)(hc:r.chunks<=1000):
  ({m with b8:=lx C l r R}:dD).take (l7 l)=({m with at_:=(l:Int)+2,b8:=gl C,reqs:=m.reqs.set j (AF C r R)},(⟨(l:Int)+2,jh (lx C l r R) ((l:Int)+2),[rj (lx C l r R)]⟩,0)):=by
 have hm:eH (l7 l)=true:=Ct (.inr rfl) (by omega) (by omega)
 have fD:=hL.at (show r∈m.reqs by rw[<- hr];exact List.getElem_mem hj)
 have fo:=aFv hR (by omega)
 have hid:r.id=((j+1:Nat):Int):=by have:=(hL.2 j hj).1.1;rw[hr]at this;omega
 unfold dD.take
 rw[if_neg (by rw[hm];decide),if_neg,if_neg (show ¬((3:Int)=1) by decide),if_pos rfl]
 ·have hh:(lx C l r R).high ((l:Int)+1) ((l:Int)+2)=(gl C,some ⟨(l:Int)+2,jh (lx C l r R) ((l:Int)+2),[rj (lx C l r R)]⟩):=by
   unfold dQ.high
   rw[if_neg]
   unfold dQ.rV
   show ¬((4:Int)≠4\/((l:Int)+1)≠(l:Int)+1\/(l:Int)+2<1\/1099511627776<(l:Int)+2)
   omega
  have jV:ml m.reqs r.id (ji r.dL R) (decide ((R.length:Int)<C))=some (m.reqs.set j (AF C r R)):=by
   rw[hid,Mp hL hj,hr,if_neg]
   ·rfl
   ·rw[hd]
    rintro (h|h|h|h)
    ·cases h
    ·omega
    ·omega
    ·omega
  have hq:({m with at_:=(l:Int)+2,b8:=lx C l r R}:dD).high (l7 l)=({m with at_:=(l:Int)+2,b8:=gl C,reqs:=m.reqs.set j (AF C r R)},⟨(l:Int)+2,jh (lx C l r R) ((l:Int)+2),[rj (lx C l r R)]⟩):=by
   unfold dD.high
   split
   ·rename_i heq
    have:=hh.symm.trans heq
    cases this
   ·rename_i w x heq
    have e:=hh.symm.trans heq
    cases e
    split
    ·rename_i hn
     have:=jV.symm.trans hn
     cases this
    ·rename_i L hL
     cases jV.symm.trans hL
     rfl
  show ((({m with at_:=(l:Int)+2,b8:=lx C l r R}:dD).high (l7 l)).1,((({m with at_:=(l:Int)+2,b8:=lx C l r R}:dD).high (l7 l)).2,(0:Int)))=_
  rw[hq]
 ·show ¬((l:Int)+2≠m.at_+1\/(lx C l r R).waits 3 ((l:Int)+1)=true)
  rintro (h|h)
  ·omega
  ·have:=of_decide_eq_true h
   have:=this.1
   omega
def rI(T:List Row):Nat->Int
 | 0=>0
 | i+1=>(T[i]?.map (·.key)).getD 0
theorem DX{T:List Row}{i:Nat}(h:i<T.length):rI T (i+1)=T[i].key:=by
 show (T[i]?.map (·.key)).getD 0=_
 rw[List.getElem?_eq_getElem h];rfl
theorem TH{T:List Row}(h:ly T){i:Nat}(hi:i<=T.length):T.filter (λr=>decide (rI T i<r.key))=T.drop i:=by
 have hs:=List.pairwise_iff_getElem.1 h.sorted
 have h1:(T.take i).filter (λr=>decide (rI T i<r.key))=[]:=by
  rw[List.filter_eq_nil_iff]
  intro x hx
  obtain⟨j,hj,rfl⟩:=List.getElem_of_mem hx
  rw[List.length_take]at hj
  match i,hi,hj with
  | i+1,hi,hj=>
   rw[DX (by omega),List.getElem_take]
   have:T[j].key<=T[i].key:=by
    rcases Nat.lt_or_ge j i with dZ|pc
    ·exact Int.le_of_lt (hs j i (by omega) (by omega) dZ)
    ·have:j=i:=by omega
     subst this;exact Int.le_refl _
   simp only[decide_eq_true_eq];omega
 have h2:(T.drop i).filter (λr=>decide (rI T i<r.key))=T.drop i:=by
  rw[List.filter_eq_self]
  intro x hx
  obtain⟨j,hj,rfl⟩:=List.getElem_of_mem hx
  rw[List.length_drop]at hj
  rw[List.getElem_drop,decide_eq_true_eq]
  match i,hi with
  | 0,_=>
   have:=(h.rows _ (List.getElem_mem (show 0+j<T.length by omega))).1
   show (0:Int)<_
   omega
  | i+1,hi=>
   rw[DX (by omega)]
   exact hs i (i+1+j) (by omega) (by omega) (by omega)
 conv=>lhs;rw[<- List.take_append_drop i T]
 rw[List.filter_append]
 have e:(λr:Row=>decide (rI (T.take i++T.drop i) i<r.key))=λr:Row=>decide (rI T i<r.key):=by rw[List.take_append_drop]
 rw[e,h1,h2,List.nil_append]
structure A5(T:List Row)(C c:Nat)(r:Rq):Prop where
 dL:r.dL=rI T (min (c*C) T.length)
 chunks:r.chunks=c
 done:r.done=decide (T.length / C+1<=c)
 le:c<=T.length / C+1
theorem A5.next{T:List Row}{C c:Nat}{r:Rq}(h:A5 T C c r)(hT:ly T)(hC:1<=C)(hd:r.done=false):
  c*C<=T.length/\iu T r.dL C=(T.drop (c*C)).take C/\A5 T C (c+1) (AF C r (iu T r.dL C)):=by
 have hc:c<=T.length / C:=by
  have:=h.done
  rw[hd]at this
  have:=of_decide_eq_false this.symm
  omega
 have hm:c*C<=T.length:=Nat.le_trans (Nat.mul_le_mul_right C hc) (Nat.div_mul_le_self _ _)
 have Oq:r.dL=rI T (c*C):=by rw[h.dL,Nat.min_eq_left hm]
 have ea:iu T r.dL C=(T.drop (c*C)).take C:=by
  unfold iu
  rw[Oq,TH hT hm,Int.toNat_natCast]
 have hlen:((T.drop (c*C)).take C).length=min C (T.length-c*C):=by rw[List.length_take,List.length_drop]
 have b84:(c+1)*C=c*C+C:=Nat.succ_mul c C
 have hdiv:T.length / C<c+1↔T.length<(c+1)*C:=Nat.div_lt_iff_lt_mul hC
 refine⟨hm,ea,?_,?_,?_,by omega⟩
 ·show ji r.dL (iu T r.dL C)=_
  rw[ea]
  unfold ji
  rcases Nat.eq_zero_or_pos (T.length-c*C) with hz|hz
  ·have e0:(T.drop (c*C)).take C=[]:=List.eq_nil_of_length_eq_zero (by rw[hlen,hz];omega)
   rw[e0,Oq]
   show rI T (c*C)=_
   congr 1
   omega
  ·have uI:0<((T.drop (c*C)).take C).length:=by rw[hlen];omega
   rw[List.getLast?_eq_getElem?,List.getElem?_eq_getElem (by omega)]
   have ek:min ((c+1)*C) T.length=(c*C+(min C (T.length-c*C)-1))+1:=by omega
   rw[ek,DX (by omega)]
   simp only[Option.map_some,Option.getD_some,List.getElem_take,List.getElem_drop,hlen]
 ·show r.chunks+1=((c+1:Nat):Int)
  rw[h.chunks];omega
 ·show decide (((iu T r.dL C).length:Int)<C)=_
  rw[ea,hlen,decide_eq_decide]
  omega
def iE(d:dt):List (Int × Int):=d.l.drop (d.at_+1).toNat++d.l.take (d.at_+1).toNat
def ahead(id:Int):List (Int × Int)->Int
 | []=>0
 | m::l=>if m.1=id then 0 else m.2+ahead id l
def iQ:List (Int × Int)->Int
 | []=>0
 | m::l=>m.2+iQ l
theorem vn(id:Int)(m:Int × Int)(l:List (Int × Int)):ahead id (m::l)=if m.1=id then 0 else m.2+ahead id l:=rfl
theorem AT(m:Int × Int)(l:List (Int × Int)):iQ (m::l)=m.2+iQ l:=rfl
def jO(d:dt)(id:Int):Int:=if d.left=0 then ahead id (iE d) else if (iE d).getLast?.map Prod.fst=some id then 0 else d.left+ahead id (iE d)
theorem Dz{id:Int}:∀{a:List (Int × Int)} (b:List (Int × Int)),(∃m∈a,m.1=id)->ahead id (a++b)=ahead id a
 | [],b,h=>by obtain⟨m,hm,_⟩:=h;cases hm
 | x::a,b,h=>by
  rw[List.cons_append,vn,vn]
  split
  ·rfl
  ·rename_i hx
   obtain⟨m,hm,e⟩:=h
   rcases List.mem_cons.1 hm with rfl|hm
   ·exact absurd e hx
   ·rw[Dz b ⟨m,hm,e⟩]
theorem LR{id:Int}:∀{a:List (Int × Int)} (b:List (Int × Int)),(∀m∈a,m.1≠id)->ahead id (a++b)=iQ a+ahead id b
 | [],b,h=>by simp[iQ]
 | x::a,b,h=>by
  rw[List.cons_append,vn,AT,if_neg (h x (.head _)),LR b λm hm=>h m (.tail _ hm)]
  omega
theorem CS:∀(a b:List (Int × Int)),iQ (a++b)=iQ a+iQ b
 | [],b=>by simp[iQ]
 | x::a,b=>by
  rw[List.cons_append,AT,AT,CS a b];omega
theorem DA{id:Int}:∀{a:List (Int × Int)},(∀m∈a,1<=m.2)->0<=ahead id a
 | [],_=>Int.le_refl _
 | x::a,h=>by
  rw[vn]
  have:=h x (.head _)
  have:=DA (id:=id) λm hm=>h m (.tail _ hm)
  split<;>omega
theorem G6:∀{a:List (Int × Int)},(∀m∈a,1<=m.2)->0<=iQ a
 | [],_=>Int.le_refl _
 | x::a,h=>by
  rw[AT]
  have:=h x (.head _)
  have:=G6 λm hm=>h m (.tail _ hm)
  omega
theorem AH(d:dt):(iE d).Perm d.l:=by
 unfold iE
 have:=List.perm_append_comm (l₁:=d.l.drop (d.at_+1).toNat) (l₂:=d.l.take (d.at_+1).toNat)
 rw[List.take_append_drop]at this
 exact this
theorem CC{d:dt}(h:d.Ok):∀m∈iE d,1<=m.2:=λm hm=>(h.w m ((AH d).mem_iff.1 hm)).2.2.1
theorem b63{d:dt}(h:d.Ok)(id:Int):0<=jO d id:=by
 unfold jO
 have:=DA (id:=id) (CC h)
 have:=h.uQ
 split
 ·assumption
 ·split<;>omega
theorem Rm{d:dt}(h:d.Ok)(dV:d.l≠[]):∃T m,d.next.2=m.1/\d.next.1.l=d.l/\0<=d.next.1.at_/\d.next.1.at_<d.l.length/\d.l[d.next.1.at_.toNat]?=some m/\iE d.next.1=T++[m] /\
  ((d.left=0/\iE d=m::T/\d.next.1.left=m.2-1)\/(d.left≠0/\iE d=T++[m]/\d.next.1.left=d.left-1)):=by
 obtain⟨p0,p1,_⟩:=h.pl dV
 obtain⟨n,hn⟩:∃n:Nat,d.place=n:=⟨d.place.toNat,by omega⟩
 have mY:n<d.l.length:=by omega
 have hm:d.j_=d.l[n]:=by
  unfold dt.j_
  rw[hn,Int.toNat_natCast,List.getElem?_eq_getElem mY];rfl
 have h0:=h.jB
 have h1:=h.vp
 have jH:d.next=(⟨d.l,n,(if d.left=0 then d.l[n].2 else d.left)-1⟩,d.l[n].1):=by
  unfold dt.next
  rw[if_neg dV,hm,hn]
 rw[jH]
 refine⟨d.l.drop (n+1)++d.l.take n,d.l[n],rfl,rfl,Int.natCast_nonneg _,by show (n:Int)<_;omega,?_,?_,?_⟩
 ·show d.l[((n:Int)).toNat]?=_
  rw[Int.toNat_natCast,List.getElem?_eq_getElem mY]
 ·show d.l.drop (((n:Int))+1).toNat++d.l.take (((n:Int))+1).toNat=_
  rw[show ((n:Int)+1).toNat=n+1 by omega,List.take_succ_eq_append_getElem mY,List.append_assoc]
 ·by_cases hl:d.left=0
  ·left
   refine⟨hl,?_,by simp only;rw[if_pos hl]⟩
   unfold dt.place at hn
   rw[if_pos hl]at hn
   unfold iE
   by_cases hw:(d.l.length:Int)<=d.at_+1
   ·rw[if_pos hw]at hn
    have:n=0:=by omega
    subst this
    rw[show (d.at_+1).toNat=d.l.length by omega,List.drop_length,List.take_length,List.nil_append,List.take_zero,List.append_nil]
    match hq:d.l,mY with
    | x::l,_=>rfl
   ·rw[if_neg hw]at hn
    rw[show (d.at_+1).toNat=n by omega,<- List.cons_append]
    congr 1
    exact List.drop_eq_getElem_cons mY
  ·right
   refine⟨hl,?_,by simp only;rw[if_neg hl]⟩
   unfold dt.place at hn
   rw[if_neg hl]at hn
   unfold iE
   rw[show (d.at_+1).toNat=n+1 by omega,List.take_succ_eq_append_getElem mY,List.append_assoc]
theorem RI{d:dt}(h:d.Ok):((iE d).map Prod.fst).Nodup:=((AH d).map Prod.fst).nodup_iff.2 h.nd
theorem Av(T:List (Int × Int))(m:Int × Int):(T++[m]).getLast?.map Prod.fst=some m.1:=by simp
theorem awt{d:dt}(h:d.Ok)(dV:d.l≠[]){wk:Int}(hk:(d.next.2,wk)∈d.l):
  (∀j,(∃m∈d.l,m.1=j)->j≠d.next.2->jO d.next.1 j+1<=jO d j)/\jO d.next.1 d.next.2<=iQ (iE d)-wk/\iQ (iE d.next.1)=iQ (iE d):=by
 obtain⟨T,m,e1,el,_,_,_,e2,hc⟩:=Rm h dV
 have hw:=CC h
 have pg:=RI h
 have x8:=h.uQ
 have mB:∀j,(∃m∈d.l,m.1=j)->∃m∈iE d,m.1=j:=λj ⟨x,hx,e⟩=>⟨x,(AH d).mem_iff.2 hx,e⟩
 have xZ:(d.next.2,wk)∈iE d:=(AH d).mem_iff.2 hk
 rw[e1]at xZ ⊢
 have hS:∀T':List (Int × Int),iQ (T'++[m])=iQ T'+m.2:=λT'=>by rw[CS];simp[iQ]
 have hT:(∀x∈T,x.1≠m.1)/\(∀x∈T,1<=x.2)/\1<=m.2/\wk=m.2/\iQ (iE d)=iQ T+m.2/\(∀j,(∃m∈d.l,m.1=j)->j≠m.1->∃x∈T,x.1=j):=by
  rcases hc with ⟨_,ho,_⟩|⟨_,ho,_⟩
  ·rw[ho]at hw pg xZ mB ⊢
   rw[List.map_cons,List.nodup_cons]at pg
   have hn:∀x∈T,x.1≠m.1:=λx hx e=>pg.1 (e▸List.mem_map.2 ⟨x,hx,rfl⟩)
   refine⟨hn,λx hx=>hw x (.tail _ hx),hw m (.head _),?_,by show m.2+iQ T=_;omega,λj hj dV=>?_⟩
   ·rcases List.mem_cons.1 xZ with e|hx
    ·rw[<- e]
    ·exact absurd rfl (hn (m.1,wk) hx)
   ·obtain⟨x,hx,e⟩:=mB j hj
    rcases List.mem_cons.1 hx with rfl|hx
    ·exact absurd e.symm dV
    ·exact⟨x,hx,e⟩
  ·rw[ho]at hw pg xZ mB ⊢
   rw[List.map_append,List.nodup_append]at pg
   have hn:∀x∈T,x.1≠m.1:=λx hx=>pg.2.2 _ (List.mem_map.2 ⟨x,hx,rfl⟩) _ (by simp)
   refine⟨hn,λx hx=>hw x (List.mem_append_left _ hx),hw m (by simp),?_,hS T,λj hj dV=>?_⟩
   ·rcases List.mem_append.1 xZ with hx|e
    ·exact absurd rfl (hn (m.1,wk) hx)
    ·rw[<- List.mem_singleton.1 e]
   ·obtain⟨x,hx,e⟩:=mB j hj
    rcases List.mem_append.1 hx with hx|hx
    ·exact⟨x,hx,e⟩
    ·rw[List.mem_singleton.1 hx]at e
     exact absurd e.symm dV
 obtain⟨t1,t2,t3,t4,t5,t6⟩:=hT
 have hsT:=G6 t2
 have V3:ahead m.1 (T++[m])=iQ T:=by rw[LR [m] t1];simp[ahead]
 refine⟨λj hj rX=>?_,?_,by rw[e2,hS,t5]⟩
 ·obtain⟨x,hx,ex⟩:=t6 j hj rX
  have ha:ahead j (T++[m])=ahead j T:=Dz [m] ⟨x,hx,ex⟩
  have Fm:¬(some m.1=some j):=λe=>rX (Option.some.inj e).symm
  rcases hc with ⟨hz,ho,hl⟩|⟨hz,ho,hl⟩
  ·have hold:jO d j=m.2+ahead j T:=by
    unfold jO
    rw[if_pos hz,ho,vn,if_neg (λe=>rX e.symm)]
   have lL:jO d.next.1 j=m.2-1+ahead j T:=by
    unfold jO
    rw[hl,e2,Av,ha,if_neg Fm]
    split<;>omega
   omega
  ·have hold:jO d j=d.left+ahead j T:=by
    unfold jO
    rw[if_neg hz,ho,Av,if_neg Fm,ha]
   have lL:jO d.next.1 j=d.left-1+ahead j T:=by
    unfold jO
    rw[hl,e2,Av,ha,if_neg Fm]
    split<;>omega
   omega
 ·have lL:jO d.next.1 m.1<=iQ T:=by
   unfold jO
   rw[e2,Av,if_pos rfl,V3]
   split<;>omega
  omega
theorem U1{d:dt}(h:d.Ok){T:List (Int × Int)}{m:Int × Int}(h0:0<=d.at_)(h1:d.l[d.at_.toNat]?=some m)(ho:iE d=T++[m]):
  iE (d.del m.1)=T/\(∀j,(∃x∈T,x.1=j)->jO (d.del m.1) j<=jO d j)/\iQ (iE (d.del m.1))<=iQ (iE d):=by
 obtain⟨n,hn⟩:∃n:Nat,d.at_=n:=⟨d.at_.toNat,by omega⟩
 rw[hn,Int.toNat_natCast]at h1
 obtain⟨mY,hm⟩:=List.getElem?_eq_some_iff.1 h1
 have pg:=List.pairwise_iff_getElem.1 h.nd
 have WM:nH d m.1=some n:=by
  unfold nH
  rw[List.findIdx?_eq_some_iff_getElem]
  refine⟨mY,by rw[hm];simp,λj hj=>?_⟩
  have:=pg j n (by rw[List.length_map];omega) (by rw[List.length_map];omega) hj
  simp only[List.getElem_map,hm]at this
  simpa using this
 have BR:d.del m.1=⟨d.l.eraseIdx n,(n:Int)-1,0⟩:=by
  unfold dt.del
  rw[WM]
  simp only[hn]
  rw[if_pos (Int.le_refl _),if_pos trivial]
 have hT:T=d.l.drop (n+1)++d.l.take n:=by
  have:=ho
  unfold iE at this
  rw[hn,show ((n:Int)+1).toNat=n+1 by omega,List.take_succ_eq_append_getElem mY,<- List.append_assoc]at this
  exact (List.append_inj_left' this rfl).symm
 have Fu:iE (d.del m.1)=T:=by
  rw[BR,hT]
  unfold iE
  show (d.l.eraseIdx n).drop ((n:Int)-1+1).toNat++(d.l.eraseIdx n).take ((n:Int)-1+1).toNat=_
  rw[show ((n:Int)-1+1).toNat=n by omega,List.eraseIdx_eq_take_drop_succ]
  have dZ:(d.l.take n).length=n:=by rw[List.length_take];omega
  rw[List.drop_left' dZ,List.take_left' dZ]
 have pe:1<=m.2:=CC h m (by rw[ho];simp)
 have x8:=h.uQ
 refine⟨Fu,λj hj=>?_,by rw[Fu,ho,CS];simp[iQ];omega⟩
 have lL:jO (d.del m.1) j=ahead j T:=by
  unfold jO
  rw[Fu,BR]
  rfl
 have ha:ahead j (T++[m])=ahead j T:=Dz [m] hj
 rw[lL]
 unfold jO
 rw[ho,Av,ha]
 have EN:=DA (id:=j) (a:=T) (λx hx=>CC h x (by rw[ho];exact List.mem_append_left _ hx))
 have W5:some m.1≠some j:=by
  obtain⟨x,hx,e⟩:=hj
  have:=RI h
  rw[ho,List.map_append,List.nodup_append]at this
  have:=this.2.2 _ (List.mem_map.2 ⟨x,hx,rfl⟩) m.1 (by simp)
  rw[e]at this
  exact λe2=>this (Option.some.inj e2).symm
 rw[if_neg W5]
 split<;>omega
theorem MM{d:dt}{id:Int}(h:∀m∈d.l,m.1≠id):d.del id=d:=by
 unfold dt.del
 have:nH d id=none:=by
  unfold nH
  rw[List.findIdx?_eq_none_iff]
  intro m hm
  simpa using h m hm
 rw[this]
theorem D4:∀(L:List Rq) (d:dt),(∀r∈L,∀m∈d.l,m.1≠r.id)->L.foldl (λd r=>d.del r.id) d=d
 | [],_,_=>rfl
 | x::L,d,h=>by
  rw[List.foldl_cons,MM (h x (.head _))]
  exact D4 L d λr hr=>h r (.tail _ hr)
theorem MP{k:Int}:∀(L:List Rq) {d:dt},d.Ok->(∃r∈L,r.id=k)->(∀r∈L,r.id≠k->∀m∈d.l,m.1≠r.id)->L.foldl (λd r=>d.del r.id) d=d.del k
 | [],_,_,h,_=>by obtain⟨r,hr,_⟩:=h;cases hr
 | x::L,d,hd,h,hn=>by
  rw[List.foldl_cons]
  by_cases e:x.id=k
  ·rw[e]
   refine D4 L _ λr hr m hm=>?_
   by_cases er:r.id=k
   ·rw[er];exact D2 hd m hm
   ·exact hn r (.tail _ hr) er m (D3 d k m hm)
  ·rw[MM (hn x (.head _) e)]
   obtain⟨r,hr,er⟩:=h
   rcases List.mem_cons.1 hr with rfl|hr
   ·exact absurd er e
   ·exact MP L hd ⟨r,hr,er⟩ λr hr=>hn r (.tail _ hr)
theorem add_same{d:dt}{id w:Int}(h:∃m∈d.l,m.1=id):d.add id w=d:=by
 unfold dt.add
 split
 ·rfl
 ·cases hf:nH d id with
  | some i=>rfl
  | none=>
   obtain⟨m,hm,e⟩:=h
   have:=List.findIdx?_eq_none_iff.1 hf m hm
   simp[e]at this
theorem Dx:∀(L:List Rq) (d:dt),(∀r∈L,∃m∈d.l,m.1=r.id)->L.foldl (λd r=>d.add r.id r.weight) d=d
 | [],_,_=>rfl
 | x::L,d,h=>by
  rw[List.foldl_cons,add_same (h x (.head _))]
  exact Dx L d λr hr=>h r (.tail _ hr)
theorem U0{d:dt}{id:Int}:∀m∈d.l,m.1≠id->m∈(d.del id).l:=λm hm dV=>by
 unfold dt.del
 split
 ·exact hm
 ·rename_i i hf
  obtain⟨hi,hk,_⟩:=List.findIdx?_eq_some_iff_getElem.1 hf
  obtain⟨j,hj,rfl⟩:=List.getElem_of_mem hm
  refine List.mem_eraseIdx_iff_getElem?.2 ⟨j,λe=>?_,List.getElem?_eq_getElem hj⟩
  subst e
  exact dV (of_decide_eq_true hk)
structure sF(n C:Nat)(T:Nat->List Row)(Wt:Nat->Int)(cs:Nat->Nat)(AL:List cW)(p:dA)(N M:Nat):Prop where
 rs:HH n AL p N M
 nn:p.n=C
 c1:1<=C
 len:p.m.reqs.length=n
 rq:∀t (h:t<p.m.reqs.length),p.m.reqs[t].table=t/\p.m.reqs[t].weight=Wt t/\A5 (T t) C (cs t) p.m.reqs[t]
 CT:∀t,t<n->gY t AL=T t
theorem sF.open_{n C:Nat}{T:Nat->List Row}{Wt:Nat->Int}{cs:Nat->Nat}{AL:List cW}{p:dA}{N M:Nat}(h:sF n C T Wt cs AL p N M):gQ p.m.reqs≠[]↔∃t,t<n/\cs t<=(T t).length / C:=by
 constructor
 ·intro ho
  match hq:gQ p.m.reqs,ho with
  | r::_,_=>
   obtain⟨h1,h2⟩:=List.mem_filter.1 (show r∈gQ p.m.reqs by rw[hq];exact .head _)
   obtain⟨t,ht,rfl⟩:=List.getElem_of_mem h1
   have hd:=(h.rq t ht).2.2.done
   refine⟨t,by rw[<- h.len];exact ht,?_⟩
   cases hb:p.m.reqs[t].done with
   | true=>simp[hb]at h2
   | false=>
    rw[hb]at hd
    have:=of_decide_eq_false hd.symm
    omega
 ·rintro ⟨t,ht,hc⟩ e
  have vZ:t<p.m.reqs.length:=by rw[h.len];exact ht
  have hd:=(h.rq t vZ).2.2.done
  rw[decide_eq_false (by omega)]at hd
  have:p.m.reqs[t]∈gQ p.m.reqs:=List.mem_filter.2 ⟨List.getElem_mem _,by rw[hd];rfl⟩
  rw[e]at this
  cases this
theorem sF.ready{n C:Nat}{T:Nat->List Row}{Wt:Nat->Int}{cs:Nat->Nat}{AL:List cW}{p:dA}{N M:Nat}(h:sF n C T Wt cs AL p N M):lj p.m=true↔gQ p.m.reqs≠[]:=by
 have hw:=h.rs.b8
 unfold lj
 rw[decide_eq_true_eq,hw]
 constructor
 ·rintro (h|h|h)
  ·exact absurd (show (0:Int)=1 from h) (by decide)
  ·exact absurd (show (0:Int)=2 from h) (by decide)
  ·exact h.2
 ·exact λh=>.inr (.inr ⟨rfl,h⟩)
structure HI(n C:Nat)(T:Nat->List Row)(Wt:Nat->Int)(cs:Nat->Nat)(AL:List cW)(p:dA)(N M:Nat)(t:Nat)(p1 p2 p3 p4 p5:dA)(y4 y5:oM):Prop where
 tl:t<n
 cl:cs t<=(T t).length / C
 ke:(fY p.d p.m.reqs).next.2=(t:Int)+1
 de:p5.d=(fY p.d p.m.reqs).next.1/\p1.d=p5.d
 s1:p.step=(p1,(3,0))
 s2:p1.step=(p2,(4,0))
 s3:p2.step=(p3,(5,0))
 r1:lj p1.m=true/\p1.m.at_=AL.length/\p1.k.fp ((AL.length:Int)+1)= .ok (lO AL.length)/\p1.m.b8.waits 2 ((AL.length:Int)+1)=true
 r2:lj p2.m=true/\p2.m.at_=AL.length/\p2.k.fp ((AL.length:Int)+1)= .ok (lO AL.length)/\p2.m.b8.waits 2 ((AL.length:Int)+1)=true
 r3:p3.m.at_=AL.length/\p3.k.fp ((AL.length:Int)+1)= .ok (lO AL.length)/\p3.m.b8.waits 2 ((AL.length:Int)+1)=false
 t3:p3.m.take (lO AL.length)=(p4.m,(y4,0))/\p4={p3 with m:=p4.m}
 r4:p4.m.at_=(AL.length:Int)+1/\p4.k.fp ((AL.length:Int)+2)= .ok (l7 AL.length)/\p4.m.b8.waits 3 ((AL.length:Int)+1)=false
 t4:p4.m.take (l7 AL.length)=(p5.m,(y5,0))/\p5={p4 with m:=p5.m}
 CT:p1.m.b8.table=t
 ops:y5.ops=(((T t).drop (cs t*C)).take C).map λr=>⟨(AL.length:Int)+2,t,r.key,false,r.val⟩
 BC:p1.Good (N+2000)/\p1.k.d.ops<=M+3
 BD:p2.Good (N+4000)/\p2.k.d.ops<=M+6
 NC:p3.Good (N+6000)/\p3.k.d.ops<=M+9
 ND:p4.Good (N+6000)/\p4.k.d.ops<=M+9
 iA:∀s,s<n->iG p4.k.ts (s:Int)=T s
 rt:sF n C T Wt (λs=>if s=t then cs s+1 else cs s) (AL++[lO AL.length,l7 AL.length]) p5 (N+6000) (M+9)
theorem sF.round{n C:Nat}{T:Nat->List Row}{Wt:Nat->Int}{cs:Nat->Nat}{AL:List cW}{p:dA}{N M:Nat}(h:sF n C T Wt cs AL p N M)(ho:gQ p.m.reqs≠[])(hl:AL.length<=900)(hT:∀t,t<n->(T t).length<=900):∃t p1 p2 p3 p4 p5 y4 y5,HI n C T Wt cs AL p N M t p1 p2 p3 p4 p5 y4 y5:=by
 obtain⟨r,Xk,dE,hid,k1,mV,s1⟩:=aR9 h.rs ho hl
 obtain⟨t,vZ,rfl⟩:=List.getElem_of_mem Xk
 have ht:t<n:=by rw[<- h.len];exact vZ
 obtain⟨q1,q2,q3⟩:=h.rq t vZ
 have k8:=(h.rs.ks.row ht).2
 rw[h.CT t ht]at k8
 obtain⟨hm,ha,jH⟩:=q3.next k8 h.c1 dE
 have B4:=h.nn
 have XD:=(h.rs.l5.reqs.2 t vZ).1.1
 have NL:(AL++[lO AL.length]).length=AL.length+1:=by simp
 have ft:∀s,s<n->gY s (AL++[lO AL.length])=T s:=λs hs=>by rw[Nu _ _ _ rfl,h.CT s hs]
 have s2:=aR7 (m:=p.m) (d:=(fY p.d p.m.reqs).next.1) (C:=p.n) (h:=AL.length) (r:=p.m.reqs[t]) mV (by rw[B4];have:=h.c1;omega) ht q1
 rw[ft t ht]at s2
 have V':iu (T t) p.m.reqs[t].dL p.n=((T t).drop (cs t*C)).take C:=by rw[B4];exact ha
 rw[<- B4]at jH
 obtain⟨a1,a2⟩:=LP k8 p.m.reqs[t].dL p.n
 generalize hR:iu (T t) p.m.reqs[t].dL p.n=R at *
 obtain⟨k3,xW,s3⟩:=aR8 (m:=p.m) (d:=(fY p.d p.m.reqs).next.1) (C:=p.n) (r:=p.m.reqs[t]) (R:=R) mV NL hl
 have fD:=h.rs.at_
 have t3:=a_p (m:=p.m) (C:=p.n) (r:=p.m.reqs[t]) (R:=R) fD hl
 have jV:p.m.reqs[t].chunks<=1000:=by
  have h1:=q3.chunks
  have h2:=q3.le
  have h3:=hT t ht
  have:=Nat.div_le_self (T t).length C
  omega
 have t4:=a_n (m:={p.m with at_:=(AL.length:Int)+1}) (C:=p.n) (r:=p.m.reqs[t]) (R:=R) rfl hl h.rs.l5.reqs vZ rfl dE a2 jV
 have g1:=h.rs.l5.step
 have o1:=AS p
 rw[s1]at g1 o1
 have g2:=g1.step
 have o2:=AS (p:=(⟨k1,{p.m with b8:=tH p.n AL.length p.m.reqs[t]},(fY p.d p.m.reqs).next.1,p.n⟩:dA))
 rw[s2]at o2
 simp only at g2
 rw[s2]at g2
 have g3:=g2.step
 have o3:=AS (p:=(⟨k1,{p.m with b8:=tI p.n AL.length p.m.reqs[t] R},(fY p.d p.m.reqs).next.1,p.n⟩:dA))
 rw[s3]at o3
 simp only at g3
 rw[s3]at g3
 have g4:=g3.take (lO AL.length)
 simp only at g4
 rw[t3]at g4
 have g5:=g4.take (l7 AL.length)
 simp only at g5
 rw[t4]at g5
 have eJ:=h.rs.ops
 simp only at o1 o2 o3
 have NM:AL++[lO AL.length]++[l7 AL.length]=AL++[lO AL.length,l7 AL.length]:=by simp
 rw[NM]at xW
 have RT:k1.fp ((AL.length:Int)+1)= .ok (lO AL.length):=by
  rw[mV.read (j:=AL.length) (by rw[NL];omega)]
  simp
 have rd3:k3.fp ((AL.length:Int)+1)= .ok (lO AL.length):=by
  rw[xW.read (j:=AL.length) (by simp)]
  simp
 have rd4:k3.fp ((AL.length:Int)+2)= .ok (l7 AL.length):=by
  have:=xW.read (j:=AL.length+1) (by simp)
  rw[show (((AL.length+1:Nat):Int)+1)=(AL.length:Int)+2 by omega]at this
  rw[this]
  simp
 have Nw:∀s,s<n->gY s (AL++[lO AL.length,l7 AL.length])=T s:=λs hs=>by rw[<- NM,Nu _ _ _ rfl,ft s hs]
 refine⟨t,⟨k1,{p.m with b8:=tH p.n AL.length p.m.reqs[t]},(fY p.d p.m.reqs).next.1,p.n⟩,⟨k1,{p.m with b8:=tI p.n AL.length p.m.reqs[t] R},(fY p.d p.m.reqs).next.1,p.n⟩,⟨k3,{p.m with b8:=wO p.n AL.length p.m.reqs[t] R},(fY p.d p.m.reqs).next.1,p.n⟩,⟨k3,{p.m with at_:=(AL.length:Int)+1,b8:=lx p.n AL.length p.m.reqs[t] R},(fY p.d p.m.reqs).next.1,p.n⟩,⟨k3,{p.m with at_:=(AL.length:Int)+2,b8:=gl p.n,reqs:=p.m.reqs.set t (AF p.n p.m.reqs[t] R)},(fY p.d p.m.reqs).next.1,p.n⟩,⟨(AL.length:Int)+1,[],[]⟩,⟨(AL.length:Int)+2,jh (lx p.n AL.length p.m.reqs[t] R) ((AL.length:Int)+2),[rj (lx p.n AL.length p.m.reqs[t] R)]⟩,?_⟩
 refine⟨ht,?_,by rw[<- hid,XD],⟨rfl,rfl⟩,s1,s2,s3,⟨decide_eq_true (.inl rfl),fD,RT,decide_eq_true ⟨rfl,rfl,.inl rfl⟩⟩,⟨decide_eq_true (.inr (.inl rfl)),fD,RT,decide_eq_true ⟨rfl,rfl,.inr rfl⟩⟩,⟨fD,rd3,decide_eq_false λh=>?_⟩,⟨t3,rfl⟩,⟨rfl,rd4,decide_eq_false λh=>?_⟩,⟨t4,rfl⟩,q1,?_,⟨g1,show k1.d.ops<=M+3 by omega⟩,⟨g2,show k1.d.ops<=M+6 by omega⟩,⟨g3,show k3.d.ops<=M+9 by omega⟩,⟨g4,show k3.d.ops<=M+9 by omega⟩,λs hs=>?_,?_⟩
 ·have hd:=q3.done
  rw[dE]at hd
  have:=of_decide_eq_false hd.symm
  omega
 ·have:=h.2.2
  simp at this
 ·have:=h.1
  simp at this
 ·show jh (lx p.n AL.length p.m.reqs[t] R) ((AL.length:Int)+2)=_
  unfold jh
  show R.map (λr=>(⟨(AL.length:Int)+2,p.m.reqs[t].table,r.key,false,r.val⟩:mf))=_
  rw[q1,V']
 ·rw[(xW.row hs).1,Nw s hs]
 ·refine⟨⟨xW,rfl,by show (AL.length:Int)+2=_;simp,g5,by show k3.d.ops<=_;omega⟩,B4,h.c1,by show (p.m.reqs.set t _).length=n;rw[List.length_set];exact h.len,λs hs=>?_,Nw⟩
  have jX:s<p.m.reqs.length:=by rw[List.length_set]at hs;exact hs
  show (p.m.reqs.set t _)[s].table=_/\_
  rw[List.getElem_set]
  by_cases e:t=s
  ·subst e
   rw[if_pos rfl]
   simp only[if_true]
   refine⟨q1,q2,?_⟩
   exact jH
  ·rw[if_neg e]
   simp only[if_neg (λe2:s=t=>e e2.symm)]
   exact h.rq s jX
def mH(t w:Nat):ByteArray:=⟨(ni++[UInt8.ofNat (48+t),32,UInt8.ofNat (48+w)]).toArray⟩
theorem a7p{t w:Nat}(ht:t<8)(w1:1<=w)(w8:w<=8):wx (mH t w)=some ((t:Int),(w:Int)):=by
 have h1:(UInt8.ofNat (48+t)).toNat=48+t:=by rw[UInt8.toNat_ofNat'];omega
 have h2:(UInt8.ofNat (48+w)).toNat=48+w:=by rw[UInt8.toNat_ofNat'];omega
 have e:(mH t w).data.toList=ni++[UInt8.ofNat (48+t),32,UInt8.ofNat (48+w)]:=by simp[mH]
 unfold wx
 rw[e,List.take_left' (show ni.length=9 from rfl),List.drop_left' (show ni.length=9 from rfl),if_pos rfl]
 show (if (48<=(UInt8.ofNat (48+t)).toNat/\(UInt8.ofNat (48+t)).toNat<=55)/\(32:UInt8).toNat=32/\49<=(UInt8.ofNat (48+w)).toNat/\(UInt8.ofNat (48+w)).toNat<=56 then some (((UInt8.ofNat (48+t)).toNat:Int)-48,((UInt8.ofNat (48+w)).toNat:Int)-48) else none)=_
 rw[h1,h2,if_pos ⟨⟨by omega,by omega⟩,rfl,by omega,by omega⟩]
 simp only[Option.some.injEq,Prod.mk.injEq]
 omega
theorem a7q(t w:Nat):(mH t w).size=12:=rfl
def g_(base:Nat)(Wt:Nat->Nat)(s:Nat):List Rq:=(List.range s).map λt:Nat=>⟨(t:Int)+1,t,Wt t,((base+t:Nat):Int)+1,0,0,false⟩
theorem CM(base:Nat)(Wt:Nat->Nat)(s:Nat):(g_ base Wt s).length=s:=by simp[g_]
theorem tA{base:Nat}{Wt:Nat->Nat}{s t:Nat}(h:t<(g_ base Wt s).length):(g_ base Wt s)[t]=⟨(t:Int)+1,t,Wt t,((base+t:Nat):Int)+1,0,0,false⟩:=by simp[g_]
theorem R8(base:Nat)(Wt:Nat->Nat)(s:Nat):g_ base Wt (s+1)=g_ base Wt s++[AE (g_ base Wt s) s (Wt s) (((base+s:Nat):Int)+1)]:=by
 unfold g_ AE
 rw[List.range_succ,List.map_append,List.map_singleton,List.length_map,List.length_range]
 simp
theorem GN{base:Nat}{Wt:Nat->Nat}{s:Nat}(hb:base<=1000)(hw:∀t,t<s->1<=Wt t/\Wt t<=8)(hs:s<=8):gn (g_ base Wt s):=by
 refine⟨by rw[CM];omega,λi hi=>?_⟩
 have lJ:=hi
 rw[CM]at lJ
 have:=hw i lJ
 refine⟨?_,λh0=>?_,λk hk=>?_⟩
 ·rw[tA]
  exact⟨rfl,Int.natCast_nonneg _,by show (i:Int)<8;omega,by show 1<=(Wt i:Int);omega,by show (Wt i:Int)<=8;omega,by show (1:Int)<=((base+i:Nat):Int)+1;omega,by show ((base+i:Nat):Int)+1<=1099511627776;omega,Int.le_refl _,by show (0:Int)<=1099511627776;decide,Int.le_refl _,by show (0:Int)<=1099511627776;decide⟩
 ·rw[tA,tA]
  simp only
  omega
 ·rw[tA,tA]
  simp only
  omega
structure lz(n base:Nat)(Wt:Nat->Nat)(s:Nat)(AL:List cW)(k:du)(N M:Nat):Prop where
 ks:KS n AL k
 len:AL.length=base+s
 xa:∀j (h:j<AL.length),j<base->AL[j].kind=1/\AL[j].signals=[]
 sig:∀t (h:base+t<AL.length),AL[base+t].kind=1/\AL[base+t].changes=[]/\AL[base+t].signals=[mH t (Wt t)]
 ok:jz k N
 ops:k.d.ops<=M
theorem lz.init{n:Nat}(Wt:Nat->Nat)(n1:1<=n)(n8:n<=8){size:Int}(s0:64<=size)(s1:size<=65536):lz n 0 Wt 0 [] (lN n size) 0 0:=
 ⟨KS.init n1 n8 s0 s1,rfl,λj h=>by simp at h,λt h=>by simp at h,St n1 n8 s0 s1,Nat.le_refl _⟩
theorem lz.oU{n base:Nat}{Wt:Nat->Nat}{AL:List cW}{k:du}{N M:Nat}(h:lz n base Wt 0 AL k N M){c:dW}(hc:ib c 8=true)(hn:gd n c=true)(hb:base<=400)(hf:(AL.flatMap (·.changes)).length<=base):
  ∃k',k.jE [] [c]=(k',((base:Int)+1,0))/\lz n (base+1) Wt 0 (AL++[⟨(base:Int)+1,1,[c],[],0⟩]) k' (N+2000) (M+3):=by
 have hl:=h.len
 obtain⟨k',e,hk⟩:=h.ks.oU (sg:=[]) (l:=[c]) (show 1<=16 by decide) (λx hx=>by rw[List.mem_singleton.1 hx];exact hc) (by decide) (by simp) (λx hx=>by rw[List.mem_singleton.1 hx];exact hn) (by omega) (by show _+1<=1000;omega)
 have b5:=h.ok.oU [] [c]
 have ff:=DV k [] [c]
 have hM:=h.ops
 rw[e]at b5 ff
 rw[show AL.length=base by omega]at e hk
 refine⟨k',e,hk,by rw[List.length_append];simp;omega,λj hj OH=>?_,λt ht=>?_,b5,by simp only at ff;omega⟩
 ·rw[List.getElem_append]
  split
  ·rename_i h2
   exact h.xa j h2 (by omega)
  ·simp
 ·rw[List.length_append]at ht
  simp at ht
  omega
theorem lz.a7r{n base s:Nat}{Wt:Nat->Nat}{AL:List cW}{k:du}{N M:Nat}(h:lz n base Wt s AL k N M)(hb:base<=500)(hs:s<=8)(hf:(AL.flatMap (·.changes)).length<=base):
  ∃k',k.jE [mH s (Wt s)] []=(k',(((base+s:Nat):Int)+1,0))/\lz n base Wt (s+1) (AL++[⟨((base+s:Nat):Int)+1,1,[],[mH s (Wt s)],0⟩]) k' (N+2000) (M+3):=by
 have hl:=h.len
 obtain⟨k',e,hk⟩:=h.ks.oU (sg:=[mH s (Wt s)]) (l:=[]) (by decide) (by simp) (show 1<=2 by decide) (λx hx=>by rw[List.mem_singleton.1 hx,a7q];decide) (by simp) (by omega) (by show _+0<=1000;omega)
 have b5:=h.ok.oU [mH s (Wt s)] []
 have ff:=DV k [mH s (Wt s)] []
 have hM:=h.ops
 rw[e]at b5 ff
 rw[hl]at e hk
 refine⟨k',e,hk,by rw[List.length_append];simp;omega,λj hj OH=>?_,λt ht=>?_,b5,by simp only at ff;omega⟩
 ·rw[List.getElem_append]
  split
  ·rename_i h2
   exact h.xa j h2 OH
  ·simp
   omega
 ·rw[List.getElem_append]
  split
  ·rename_i h2
   exact h.sig t h2
  ·rename_i h2
   rw[List.length_append]at ht
   have:t=s:=by simp at ht;omega
   subst this
   simp
abbrev mF(n:Nat)(late C:Int)(base:Nat)(Wt:Nat->Nat)(i:Nat):dD:=⟨n,late,i,g_ base Wt (i-base),gl C⟩
theorem lz.take{n base s:Nat}{Wt:Nat->Nat}{AL:List cW}{k:du}{N M:Nat}(h:lz n base Wt s AL k N M)(late C:Int)(hb:base<=500)(hs:s<=n)(n8:n<=8)(hw:∀t,t<s->1<=Wt t/\Wt t<=8){i:Nat}(hi:i<AL.length):
  ((mF n late C base Wt i).take AL[i]).1=mF n late C base Wt (i+1)/\((mF n late C base Wt i).take AL[i]).2.2=0/\AL[i].kind=1/\AL[i].mark=0:=by
 have hl:=h.len
 have s5:=h.ks.l4.ok.may _ (List.getElem_mem hi)
 have j8:=h.ks.l4.ok.aI i hi
 have mV:AL[i].kind=1:=by
  rcases Nat.lt_or_ge i base with dZ|pc
  ·exact (h.xa i hi dZ).1
  ·obtain⟨t,rfl⟩:∃t,i=base+t:=⟨i-base,by omega⟩
   exact (h.sig t hi).1
 have s6:AL[i].mark=0:=by
  obtain⟨_,h2⟩:=ri.1 s5
  rcases h2 with h2|h2
  ·exact h2.2.1
  ·have:=h2.1;omega
 have xE:((⟨n,late,(i:Int)+1,g_ base Wt (i-base),gl C⟩:dD).fJ ((i:Int)+1) AL[i].signals).1=⟨n,late,(i:Int)+1,g_ base Wt (i+1-base),gl C⟩:=by
  rcases Nat.lt_or_ge i base with dZ|pc
  ·rw[(h.xa i hi dZ).2,show i+1-base=i-base by omega]
   rfl
  ·obtain⟨t,rfl⟩:∃t,i=base+t:=⟨i-base,by omega⟩
   have jJ:t<s:=by omega
   obtain⟨w1,w8⟩:=hw t jJ
   rw[(h.sig t hi).2.2,show base+t+1-base=t+1 by omega,show base+t-base=t by omega]
   have ha:(⟨n,late,((base+t:Nat):Int)+1,g_ base Wt t,gl C⟩:dD).accept (mH t (Wt t)) (((base+t:Nat):Int)+1)=(g_ base Wt (t+1),[⟨1,((g_ base Wt (t+1)).length:Nat),t,Wt t,((base+t:Nat):Int)+1,0,false⟩]):=by
    unfold dD.accept
    rw[a7p (by omega) w1 w8]
    have vL:nZ (g_ base Wt t) (t:Int) (Wt t:Int) (((base+t:Nat):Int)+1)=some (g_ base Wt (t+1)):=by
     unfold nZ
     rw[<- R8,if_pos ⟨GN (by omega) (λx hx=>hw x (by omega)) (by omega),GN (by omega) (λx hx=>hw x (by omega)) (by omega)⟩]
    show (if (n:Int)<=(t:Int) then _ else match nZ (g_ base Wt t) (t:Int) (Wt t:Int) (((base+t:Nat):Int)+1) with|none=>_|some L=>_)=_
    rw[if_neg (by omega),vL]
   unfold dD.fJ
   rw[ha]
   rfl
 unfold dD.take
 rw[if_neg (by rw[s5];decide),if_neg,if_pos mV]
 ·refine⟨?_,rfl,mV,s6⟩
  show ((⟨n,late,AL[i].aI,g_ base Wt (i-base),gl C⟩:dD).sM AL[i]).1=_
  rw[j8]
  unfold dD.sM
  simp only[j8,xE]
  have:(gl C).sn AL[i].changes=gl C:=by unfold dQ.sn;rw[if_neg (show ¬((0:Int)=4) by decide)]
  rw[this]
  show _=(⟨n,late,((i+1:Nat):Int),g_ base Wt (i+1-base),gl C⟩:dD)
  rw[show (((i+1:Nat):Int))=(i:Int)+1 by omega]
 ·rw[j8,mV]
  show ¬((i:Int)+1≠(i:Int)+1\/(gl C).waits 1 AL[i].mark=true)
  rintro (h|h)
  ·exact h rfl
  ·have:=(of_decide_eq_true h).1
   omega
def ik(f:Nat->Nat):Nat->Nat
 | 0=>0
 | n+1=>ik f n+f n
theorem SI{f:Nat->Nat}{t:Nat}:∀n,ik (λs=>if s=t then f s+1 else f s) n=ik f n+(if t<n then 1 else 0)
 | 0=>rfl
 | n+1=>by
  show ik _ n+(if n=t then f n+1 else f n)=ik f n+f n+_
  rw[SI n]
  by_cases e:n=t
  ·subst e
   rw[if_pos rfl,if_neg (Nat.lt_irrefl _),if_pos (Nat.lt_succ_self _)]
   omega
  ·rw[if_neg e]
   by_cases h:t<n
   ·rw[if_pos h,if_pos (by omega)];omega
   ·rw[if_neg h,if_neg (by omega)];omega
theorem CR{f:Nat->Nat}{K:Nat}:∀n,(∀t,t<n->f t<=K)->ik f n<=n*K
 | 0,_=>Nat.zero_le _
 | n+1,h=>by
  have h1:=CR n λt ht=>h t (by omega)
  have h2:=h n (by omega)
  show ik f n+f n<=_
  rw[Nat.succ_mul];omega
theorem G5:∀n,ik (λ_=>0) n=0
 | 0=>rfl
 | n+1=>by show ik (λ_=>0) n+0=0;rw[G5 n]
theorem NF{n base:Nat}{Wt:Nat->Nat}{AL:List cW}{k:du}{N M:Nat}(h:lz n base Wt n AL k N M)(late:Int){C:Nat}(hC:1<=C/\C<=64)(n1:1<=n)(n8:n<=8)(hb:base<=500)(hw:∀t,t<n->1<=Wt t/\Wt t<=8){i:Nat}(hi:i<=base+n):(⟨k,mF n late C base Wt i,gu,C⟩:dA).Good N:=
 ⟨GN (by omega) (λt ht=>hw t (by omega)) (by omega),⟨by show (1:Int)<=n;omega,by show (n:Int)<=8;omega⟩,⟨Int.natCast_nonneg _,by show (i:Int)<=_;omega⟩,by show (C:Int)<=64;omega,by show 0<=64;decide,by show (0:Int)<=0/\(0:Int)<=64;decide,D7,(λm hm=>by cases hm),⟨by show (1:Int)<=C;omega,by show (C:Int)<=64;omega⟩,h.ok⟩
theorem LQ{id w:Int}:∀{l:List (Int × Int)},(∀m∈l,1<=m.2)->(l.map Prod.fst).Nodup->(id,w)∈l->ahead id l+w<=iQ l
 | x::l,hp,hn,h=>by
  rw[List.map_cons,List.nodup_cons]at hn
  rw[vn,AT]
  have fo:∀m∈l,1<=m.2:=λm hm=>hp m (.tail _ hm)
  have hs:=G6 fo
  rcases List.mem_cons.1 h with e|h
  ·rw[<- e,if_pos rfl]
   show 0+w<=w+iQ l
   omega
  ·have hx:x.1≠id:=λe=>hn.1 (e▸List.mem_map.2 ⟨(id,w),h,rfl⟩)
   have:=LQ fo hn.2 h
   rw[if_neg hx];omega
structure Fair(n:Nat)(Wt:Nat->Nat)(all:Int)(cs:Nat->Nat)(lim:Nat)(last:Nat->Int)(chunk:Int)(d:dt):Prop where
 ok:d.Ok
 mem:∀m∈d.l,∃t:Nat,t<n/\m=((t:Int)+1,(Wt t:Int))/\cs t<lim
 op:∀t:Nat,t<n->cs t<lim->((t:Int)+1,(Wt t:Int))∈d.l
 wait:∀t:Nat,t<n->cs t<lim->chunk-last t+jO d ((t:Int)+1)<=all-Wt t
 sum:iQ (iE d)<=all
theorem Fair.serve{n:Nat}{Wt:Nat->Nat}{all:Int}{cs:Nat->Nat}{lim:Nat}{last:Nat->Int}{chunk:Int}{d:dt}(h:Fair n Wt all cs lim last chunk d){t:Nat}(ht:t<n)(hc:cs t<lim)(hk:d.next.2=(t:Int)+1):
  chunk-last t<=all-Wt t/\Fair n Wt all cs lim (λs=>if s=t then chunk+1 else last s) (chunk+1) d.next.1:=by
 have hm:=h.op t ht hc
 have dV:d.l≠[]:=λe=>by rw[e]at hm;cases hm
 obtain⟨w1,w2,w3⟩:=awt h.ok dV (wk:=Wt t) (by rw[hk];exact hm)
 have hw:=h.wait t ht hc
 have hp:=b63 h.ok ((t:Int)+1)
 have hs:=h.sum
 refine⟨by omega,h.ok.next,by rw[Gg];exact h.mem,by rw[Gg];exact h.op,λj hj lG=>?_,by rw[w3];exact hs⟩
 by_cases e:j=t
 ·subst e
  simp only[if_true]
  rw[hk]at w2
  omega
 ·simp only[if_neg e]
  have:=w1 ((j:Int)+1) ⟨_,h.op j hj lG,rfl⟩ (by rw[hk];omega)
  have:=h.wait j hj lG
  omega
theorem Fair.row{n:Nat}{Wt:Nat->Nat}{all:Int}{cs:Nat->Nat}{lim:Nat}{last:Nat->Int}{chunk:Int}{d:dt}{T:List (Int × Int)}{m:Int × Int}{t:Nat}(h:Fair n Wt all cs lim last chunk d)(ht:t<n)(hc:cs t<lim)
  (h0:0<=d.at_) (h1:d.l[d.at_.toNat]?=some m) (ho:iE d=T++[m]) (hm:m.1=(t:Int)+1) {L:List Rq} (hL:L.length=n)
  (hr:∀j (hj:j<L.length),L[j].id=(j:Int)+1/\L[j].done=decide (lim<=(if j=t then cs j+1 else cs j))) :
  Fair n Wt all (λj=>if j=t then cs j+1 else cs j) lim last chunk (fY d L):=by
 have BS:∀r∈L.filter (·.done),∃j,j<n/\r.id=(j:Int)+1/\lim<=(if j=t then cs j+1 else cs j):=λr k7=>by
  obtain⟨h2,h3⟩:=List.mem_filter.1 k7
  obtain⟨j,hj,rfl⟩:=List.getElem_of_mem h2
  obtain⟨a,b⟩:=hr j hj
  rw[b]at h3
  exact⟨j,by omega,a,of_decide_eq_true h3⟩
 have O0:∀r∈gQ L,∃j,j<n/\r.id=(j:Int)+1/\(if j=t then cs j+1 else cs j)<lim:=λr k7=>by
  obtain⟨h2,h3⟩:=List.mem_filter.1 k7
  obtain⟨j,hj,rfl⟩:=List.getElem_of_mem h2
  obtain⟨a,b⟩:=hr j hj
  rw[b]at h3
  refine⟨j,by omega,a,?_⟩
  have:¬lim<=(if j=t then cs j+1 else cs j):=λh4=>by rw[decide_eq_true h4]at h3;cases h3
  omega
 have hid:∀x∈d.l,∀j:Nat,x.1=(j:Int)+1->cs j<lim:=λx hx j e=>by
  obtain⟨s,_,rfl,hs⟩:=h.mem x hx
  have:s=j:=by simp only at e;omega
  subst this;exact hs
 by_cases hl:cs t+1<lim
 ·have e1:(L.filter (·.done)).foldl (λd r=>d.del r.id) d=d:=D4 _ _ λr k7 x hx e=>by
   obtain⟨j,hj,kG,iL⟩:=BS r k7
   have:=hid x hx j (e.trans kG)
   by_cases ej:j=t
   ·subst ej;rw[if_pos rfl]at iL;omega
   ·rw[if_neg ej]at iL;omega
  have e2:fY d L=d:=by
   unfold fY
   rw[e1]
   refine Dx _ _ λr k7=>?_
   obtain⟨j,hj,kG,iL⟩:=O0 r k7
   exact⟨_,h.op j hj (by split at iL<;>omega),kG.symm⟩
  rw[e2]
  refine⟨h.ok,λx hx=>?_,λj hj lG=>h.op j hj (by split at lG<;>omega),λj hj lG=>h.wait j hj (by split at lG<;>omega),h.sum⟩
  obtain⟨s,hs,e,Ag⟩:=h.mem x hx
  refine⟨s,hs,e,?_⟩
  split
  ·rename_i e3;subst e3;exact hl
  ·exact Ag
 ·have vS:cs t+1=lim:=by omega
  have pr:t<L.length:=by omega
  have e1:(L.filter (·.done)).foldl (λd r=>d.del r.id) d=d.del m.1:=MP _ h.ok ⟨L[t],List.mem_filter.2 ⟨List.getElem_mem pr,by rw[(hr t pr).2,if_pos rfl];exact decide_eq_true (by omega)⟩,by rw[(hr t pr).1,hm]⟩ λr k7 dV x hx e=>by
   obtain⟨j,hj,kG,iL⟩:=BS r k7
   have p8:j≠t:=λe2=>dV (by rw[kG,hm,e2])
   have:=hid x hx j (e.trans kG)
   rw[if_neg p8]at iL
   omega
  obtain⟨d1,d2,d3⟩:=U1 h.ok h0 h1 ho
  have OK:∀j:Nat,j<n->j≠t->cs j<lim->((j:Int)+1,(Wt j:Int))∈(d.del m.1).l:=λj hj p8 lG=>U0 _ (h.op j hj lG) (by rw[hm];show (j:Int)+1≠_;omega)
  have e2:fY d L=d.del m.1:=by
   unfold fY
   rw[e1]
   refine Dx _ _ λr k7=>?_
   obtain⟨j,hj,kG,iL⟩:=O0 r k7
   have p8:j≠t:=λe2=>by subst e2;rw[if_pos rfl]at iL;omega
   rw[if_neg p8]at iL
   exact⟨_,OK j hj p8 iL,kG.symm⟩
  rw[e2]
  refine⟨h.ok.del _,λx hx=>?_,λj hj lG=>?_,λj hj lG=>?_,Int.le_trans d3 h.sum⟩
  ·obtain⟨s,hs,e,Ag⟩:=h.mem x (D3 d m.1 x hx)
   have hn:=D2 h.ok x hx
   refine⟨s,hs,e,?_⟩
   have:s≠t:=λe3=>hn (by rw[e,hm,e3])
   simp only[if_neg this]
   exact Ag
  ·have p8:j≠t:=λe3=>by subst e3;simp only[if_true]at lG;omega
   simp only[if_neg p8]at lG
   exact OK j hj p8 lG
  ·have p8:j≠t:=λe3=>by subst e3;simp only[if_true]at lG;omega
   simp only[if_neg p8]at lG
   have kF:∃x∈T,x.1=(j:Int)+1:=by
    have h3:=(AH d).mem_iff.2 (h.op j hj lG)
    rw[ho]at h3
    rcases List.mem_append.1 h3 with h3|h3
    ·exact⟨_,h3,rfl⟩
    ·have:=congrArg Prod.fst (List.mem_singleton.1 h3)
     rw[hm]at this
     simp only at this
     omega
   have:=d2 _ kF
   have:=h.wait j hj lG
   omega
theorem LM{base:Nat}{Wt:Nat->Nat}:∀s:Nat,s<=8->(∀t,t<s->1<=Wt t/\Wt t<=8)->(g_ base Wt s).foldl (λd r=>d.add r.id r.weight) gu=⟨(List.range s).map λt:Nat=>((t:Int)+1,(Wt t:Int)),-1,0⟩
 | 0,_,_=>rfl
 | s+1,hs,hw=>by
  rw[R8,List.foldl_append,LM s (by omega) (λt ht=>hw t (by omega))]
  have Pb:=hw s (by omega)
  show dt.add _ (((g_ base Wt s).length+1:Nat):Int) (Wt s:Int)=_
  rw[CM]
  unfold dt.add
  rw[if_neg (by omega)]
  have:nH ⟨(List.range s).map λt:Nat=>((t:Int)+1,(Wt t:Int)),-1,0⟩ (((s+1:Nat)):Int)=none:=by
   unfold nH
   rw[List.findIdx?_eq_none_iff]
   intro x hx
   obtain⟨t,ht,rfl⟩:=List.mem_map.1 hx
   have:=List.mem_range.1 ht
   simp only[decide_eq_false_iff_not]
   omega
  rw[this]
  simp only[List.range_succ,List.map_append,List.map_singleton]
  rfl
theorem Fair.first{base n lim:Nat}{Wt:Nat->Nat}(hn:n<=8)(hw:∀t,t<n->1<=Wt t/\Wt t<=8)(hl:0<lim):Fair n Wt (ik Wt n:Nat) (λ_=>0) lim (λ_=>0) 0 (fY gu (g_ base Wt n)):=by
 have e1:(g_ base Wt n).filter (·.done)=[]:=by
  rw[List.filter_eq_nil_iff]
  intro r hr
  obtain⟨t,ht,rfl⟩:=List.getElem_of_mem hr
  rw[tA];simp
 have e2:gQ (g_ base Wt n)=g_ base Wt n:=by
  unfold gQ
  rw[List.filter_eq_self]
  intro r hr
  obtain⟨t,ht,rfl⟩:=List.getElem_of_mem hr
  rw[tA];simp
 have e:fY gu (g_ base Wt n)=⟨(List.range n).map λt:Nat=>((t:Int)+1,(Wt t:Int)),-1,0⟩:=by
  unfold fY
  rw[e1,e2]
  exact LM n hn hw
 have b5:(fY gu (g_ base Wt n)).Ok:=R6 D7 _
 have r7:∀s,iQ ((List.range s).map λt:Nat=>((t:Int)+1,(Wt t:Int)))=(ik Wt s:Nat):=λs=>by
  induction s with
  | zero=>rfl
  | succ s ih=>
   rw[List.range_succ,List.map_append,CS,ih]
   show _+((Wt s:Int)+0)=((ik Wt s+Wt s:Nat):Int)
   omega
 rw[e]at b5 ⊢
 have ho:iE ⟨(List.range n).map λt:Nat=>((t:Int)+1,(Wt t:Int)),-1,0⟩=(List.range n).map λt:Nat=>((t:Int)+1,(Wt t:Int)):=by
  unfold iE
  show List.drop 0 _++List.take 0 _=_
  simp
 have mB:∀t:Nat,t<n->((t:Int)+1,(Wt t:Int))∈(List.range n).map λt:Nat=>((t:Int)+1,(Wt t:Int)):=λt ht=>List.mem_map.2 ⟨t,List.mem_range.2 ht,rfl⟩
 refine⟨b5,λm hm=>?_,λt ht _=>mB t ht,λt ht _=>?_,by rw[ho,r7];exact Int.le_refl _⟩
 ·obtain⟨t,ht,rfl⟩:=List.mem_map.1 hm
  exact⟨t,List.mem_range.1 ht,rfl,hl⟩
 ·have h1:=LQ (id:=(t:Int)+1) (w:=(Wt t:Int)) (λm hm=>(b5.w m hm).2.2.1) b5.nd (mB t ht)
  have h2:jO ⟨(List.range n).map λt:Nat=>((t:Int)+1,(Wt t:Int)),-1,0⟩ ((t:Int)+1)=ahead ((t:Int)+1) ((List.range n).map λt:Nat=>((t:Int)+1,(Wt t:Int))):=by
   unfold jO
   rw[if_pos rfl,ho]
  rw[h2]
  have h3:=r7 n
  simp only at h1
  omega
structure A8(n base R:Nat)(T:Nat->List Row)(Wt:Nat->Nat)(i:Nat)(cs:Nat->Nat)(AL:List cW)(p:dA)(last:Nat->Int)(ck:Int):Prop where
 st:sF n 1 T (λt=>(Wt t:Int)) cs AL p (200000+6000*ik cs n) (1000+9*ik cs n)
 len:AL.length=base+n+2*ik cs n
 it:i<=3*ik cs n
 fair:Fair n Wt (ik Wt n:Nat) cs (R+1) last ck (fY p.d p.m.reqs)
 lb:∀t,0<=last t/\last t<=ck
 ck:ck=(ik cs n:Nat)
def oN(n base R:Nat)(T:Nat->List Row)(Wt:Nat->Nat)(i:Nat)(p:dA)(last:Nat->Int)(ck:Int):Prop:=
 (∃cs AL,A8 n base R T Wt i cs AL p last ck) \/
 ∃cs AL i0 p0 uP pN t p1 p2 p3 p4 p5 y4 y5,A8 n base R T Wt i0 cs AL p0 uP pN/\HI n 1 T (λt=>(Wt t:Int)) cs AL p0 (200000+6000*ik cs n) (1000+9*ik cs n) t p1 p2 p3 p4 p5 y4 y5 /\
  last=(λs=>if s=t then pN+1 else uP s)/\ck=pN+1/\((p=p1/\i<=i0+1)\/(p=p2/\i<=i0+2))
structure HK(n base R:Nat)(T:Nat->List Row)(Wt:Nat->Nat)(i:Nat)(p p4 p5:dA)(l h:cW)(last:Nat->Int)(ck:Int):Prop where
 r3:p.k.fp (p.m.at_+1)= .ok l
 t3:(p.m.take l).2.2=0
 e4:p4={p with m:=(p.m.take l).1}
 r4:p4.k.fp (p4.m.at_+1)= .ok h
 t4:(p4.m.take h).2.2=0
 e5:p5={p4 with m:=(p4.m.take h).1}
 r5:p5.k.fp (p5.m.at_+1)= .error 5
 g4:p4.Good 800000000/\p4.k.d.ops<=80000
 g5:p5.Good 800000000/\p5.k.d.ops<=80000
 nx:oN n base R T Wt i p5 last ck
structure Tu(n base R:Nat)(T:Nat->List Row)(Wt:Nat->Nat)(i:Nat)(p:dA)(last:Nat->Int)(ck:Int):Prop where
 it:i<1000
 l5:p.Good 800000000
 ops:p.k.d.ops<=80000
 lb:∀t,0<=last t/\last t<=ck
 ckb:0<=ck/\ck<=1000
 go:(lj p.m=false/\p.m.reqs.length=n/\ck=(n*(R+1):Nat)) \/
  (lj p.m=true/\∃p' d,p.step=(p',(d,0))/\p'.Good 800000000/\p'.k.d.ops<=80000 /\
   ((d=3/\∃t,t<n/\p'.m.b8.table=t/\ck-last t<=(ik Wt n:Nat)-Wt t/\oN n base R T Wt (i+1) p' (λs=>if s=t then ck+1 else last s) (ck+1)) \/
    (d=4/\oN n base R T Wt (i+1) p' last ck) \/
    (d=5/\∃p4 p5 l h,HK n base R T Wt (i+1) p' p4 p5 l h last ck)))
theorem SH{f:Nat->Nat}{K:Nat}:∀n,(∀t,t<n->f t=K)->ik f n=n*K
 | 0,_=>by simp[ik]
 | n+1,h=>by
  show ik f n+f n=_
  rw[SH n λt ht=>h t (by omega),h n (by omega),Nat.succ_mul]
theorem oN.next{n base R:Nat}{T:Nat->List Row}{Wt:Nat->Nat}{i:Nat}{p:dA}{last:Nat->Int}{ck:Int}(h:oN n base R T Wt i p last ck)(n1:1<=n)(n8:n<=4)(hb:base<=44)(hR:R<=11)(kU:∀t,t<n->(T t).length=R):Tu n base R T Wt i p last ck:=by
 have kE:∀{q:dA} {N:Nat},q.Good N->N<=800000000->q.Good 800000000:=λg hN=>⟨g.reqs,g.t1,g.jB,g.wn,g.rows,g.wid,g.d,g.ids,g.n,g.src.mono hN⟩
 have vS:∀t,t<n->(T t).length / 1=R:=λt ht=>by rw[Nat.div_one,kU t ht]
 have Of:∀{i0:Nat} {cs:Nat->Nat} {AL:List cW} {q:dA} {l0:Nat->Int} {c0:Int},A8 n base R T Wt i0 cs AL q l0 c0->ik cs n<=48:=λ{i0 cs AL q l0 c0} hS=>by
  have:=CR (f:=cs) (K:=R+1) n λt ht=>by
   have h1:=(hS.st.rq t (by rw[hS.st.len];exact ht)).2.2.le
   rw[vS t ht]at h1
   exact h1
  have h2:n*(R+1)<=4*12:=Nat.mul_le_mul n8 (by omega)
  omega
 rcases h with ⟨cs,AL,hS⟩|⟨cs,AL,i0,p0,uP,pN,t,p1,p2,p3,p4,p5,y4,y5,hS,gw,rfl,rfl,hp⟩
 ·have r7:=Of hS
  have E7:=hS.it
  have hlen:=hS.len
  have eJ:=hS.st.rs.ops
  have Om:=hS.ck
  refine⟨by omega,kE hS.st.rs.l5 (by omega),by omega,hS.lb,by omega,?_⟩
  by_cases ho:gQ p.m.reqs=[]
  ·left
   refine⟨?_,hS.st.len,?_⟩
   ·cases hq:lj p.m with
    | false=>rfl
    | true=>exact absurd ho (hS.st.ready.1 hq)
   ·rw[hS.ck,SH (K:=R+1) n λt ht=>?_]
    have hc:¬cs t<=(T t).length / 1:=λhc=>hS.st.open_.2 ⟨t,ht,hc⟩ ho
    have hle:=(hS.st.rq t (by rw[hS.st.len];exact ht)).2.2.le
    rw[vS t ht]at hc hle
    omega
  ·obtain⟨t,p1,p2,p3,p4,p5,y4,y5,gw⟩:=hS.st.round ho (by omega) (λt ht=>by rw[kU t ht];omega)
   have gj:=gw.cl
   rw[vS t gw.tl]at gj
   obtain⟨f1,f2⟩:=hS.fair.serve gw.tl (by omega) gw.ke
   have ff:=gw.BC.2
   exact .inr ⟨hS.st.ready.2 ho,p1,3,gw.s1,kE gw.BC.1 (by omega),by omega,.inl ⟨rfl,t,gw.tl,gw.CT,f1,.inr ⟨cs,AL,i,p,last,ck,t,p1,p2,p3,p4,p5,y4,y5,hS,gw,rfl,rfl,.inl ⟨rfl,Nat.le_refl _⟩⟩⟩⟩
 ·have r7:=Of hS
  have E7:=hS.it
  have hlen:=hS.len
  have Om:=hS.ck
  have x':∀s,0<=(if s=t then pN+1 else uP s)/\(if s=t then pN+1 else uP s)<=pN+1:=λs=>by have:=hS.lb s;split<;>omega
  rcases hp with ⟨rfl,hi⟩|⟨rfl,hi⟩
  ·have ff:=gw.BC.2
   have b8v:=gw.BD.2
   exact⟨by omega,kE gw.BC.1 (by omega),by omega,x',by omega,.inr ⟨gw.r1.1,p2,4,gw.s2,kE gw.BD.1 (by omega),by omega,.inr (.inl ⟨rfl,.inr ⟨cs,AL,i0,p0,uP,pN,t,p,p2,p3,p4,p5,y4,y5,hS,gw,rfl,rfl,.inr ⟨rfl,by omega⟩⟩⟩)⟩⟩
  ·have ff:=gw.BD.2
   have b8w:=gw.NC.2
   have b8x:=gw.ND.2
   obtain⟨a3,b3,c3⟩:=gw.r3
   obtain⟨a4,b4,c4⟩:=gw.r4
   obtain⟨t3,e3⟩:=gw.t3
   obtain⟨t4,e4⟩:=gw.t4
   have pk:=gw.rt
   have r6:ik (λs=>if s=t then cs s+1 else cs s) n=ik cs n+1:=by rw[SI,if_pos gw.tl]
   have gj:=gw.cl
   rw[vS t gw.tl]at gj
   obtain⟨f1,f2⟩:=hS.fair.serve gw.tl (by omega) gw.ke
   have dV:(fY p0.d p0.m.reqs).l≠[]:=λe=>by have:=hS.fair.op t gw.tl (by omega);rw[e]at this;cases this
   obtain⟨T',m,o1,o2,o3,o4,o5,o6,_⟩:=Rm hS.fair.ok dV
   have k8:=f2.row gw.tl (by omega) o3 (by rw[o2];exact o5) o6 (by rw[<- o1];exact gw.ke) pk.len (λj hj=>by
    have hid:=(pk.rs.l5.reqs.2 j hj).1.1
    have hd:=(pk.rq j hj).2.2.done
    rw[vS j (by rw[<- pk.len];exact hj)]at hd
    exact⟨hid,hd⟩)
   have VZ:A8 n base R T Wt (i+1) (λs=>if s=t then cs s+1 else cs s) (AL++[lO AL.length,l7 AL.length]) p5 (λs=>if s=t then pN+1 else uP s) (pN+1):=by
    refine⟨?_,by rw[r6,List.length_append,hlen];show _+2=_;omega,by rw[r6];omega,?_,x',by rw[r6,hS.ck];omega⟩
    ·rw[r6]
     exact pk
    ·rw[gw.de.1]
     exact k8
   have b8z:=pk.rs.ops
   refine⟨by omega,kE gw.BD.1 (by omega),by omega,x',by omega,.inr ⟨gw.r2.1,p3,5,gw.s3,kE gw.NC.1 (by omega),by omega,.inr (.inr ⟨rfl,p4,p5,_,_,⟨by rw[a3];exact b3,by rw[t3],by rw[t3];exact e3,by rw[a4,show (AL.length:Int)+1+1=(AL.length:Int)+2 by omega];exact b4,by rw[t4],by rw[t4];exact e4,by rw[pk.rs.at_];exact pk.rs.ks.CF,⟨kE gw.ND.1 (by omega),by omega⟩,⟨kE pk.rs.l5 (by omega),by omega⟩,.inl ⟨_,_,VZ⟩⟩⟩)⟩⟩
abbrev vB:ByteArray:=⟨#[118]⟩
abbrev sK(t i:Nat):dW:=⟨(t:Int),(i:Int)+1,false,vB⟩
theorem Ut{t i:Nat}(ht:t<8)(hi:i<=1000):ib (sK t i) 8=true:=by
 unfold ib
 refine decide_eq_true ⟨Int.natCast_nonneg _,by show (t:Int)<8;omega,by show (1:Int)<=(i:Int)+1;omega,by show (i:Int)+1<=1099511627776;omega,by show 1<=32;decide,λh=>?_⟩
 cases h
theorem Us{n t i:Nat}(ht:t<n):gd n (sK t i)=true:=decide_eq_true ⟨Int.natCast_nonneg _,by show (t:Int)<n;omega⟩
theorem Py:∀{C:List Row} {r:Row},(∀x∈C,x.key<r.key)->f' C r=C++[r]
 | [],_,_=>rfl
 | x::C,r,h=>by
  unfold f'
  rw[if_pos (h x (.head _)),Py λy hy=>h y (.tail _ hy)]
  rfl
structure mg(R t i:Nat)(AL:List cW):Prop where
 l4:(AL.flatMap (·.changes)).length=t*R+i
 len:∀s:Nat,(gY s AL).length=if s<t then R else if s=t then i else 0
 keys:∀r∈gY t AL,r.key<=i
theorem mg.init(R:Nat):mg R 0 0 []:=⟨by simp,λs=>by rw[if_neg (Nat.not_lt_zero _)];split<;>rfl,λr hr=>by cases hr⟩
theorem Nt(s:Int)(AL:List cW)(x:cW){c:dW}(h:x.changes=[c]):gY s (AL++[x])=oP s (gY s AL) c:=by
 unfold gY
 rw[List.flatMap_append,List.flatMap_singleton,List.foldl_append]
 rw[h]
 rfl
theorem mg.step{R t i:Nat}{AL:List cW}(h:mg R t i AL)(aI:Int):mg R t (i+1) (AL++[⟨aI,1,[sK t i],[],0⟩]):=by
 have e:gY t (AL++[⟨aI,1,[sK t i],[],0⟩])=gY t AL++[⟨(i:Int)+1,vB⟩]:=by
  rw[Nt _ _ _ rfl]
  unfold oP
  rw[if_pos rfl,if_neg (show ¬(sK t i).gone=true from λh=>Bool.noConfusion h)]
  exact Py λx hx=>by have:=h.keys x hx;show x.key<(i:Int)+1;omega
 refine⟨by rw[List.flatMap_append,List.length_append,h.l4];rfl,λs=>?_,λr hr=>?_⟩
 ·by_cases es:s=t
  ·subst es
   have:=h.len s
   rw[if_neg (Nat.lt_irrefl _),if_pos rfl]at this ⊢
   rw[e,List.length_append,this]
   rfl
  ·rw[Nt _ _ _ rfl]
   unfold oP
   rw[if_neg (by show ¬(t:Int)=s;omega),h.len s]
   simp only[if_neg es]
 ·rw[e]at hr
  rcases List.mem_append.1 hr with hr|hr
  ·have:=h.keys r hr;omega
  ·rw[List.mem_singleton.1 hr]
   show (i:Int)+1<=((i+1:Nat):Int)
   omega
theorem mg.next{R t:Nat}{AL:List cW}(h:mg R t R AL):mg R (t+1) 0 AL:=by
 refine⟨by rw[h.l4,Nat.succ_mul];rfl,λs=>?_,λr hr=>?_⟩
 ·rw[h.len s]
  by_cases h1:s<t
  ·rw[if_pos h1,if_pos (by omega)]
  ·by_cases h2:s=t
   ·rw[if_neg h1,if_pos h2,if_pos (by omega)]
   ·rw[if_neg h1,if_neg h2,if_neg (by omega)]
    split<;>rfl
 ·have h2:=h.len (t+1)
  rw[if_neg (by omega),if_neg (by omega)]at h2
  rw[List.length_eq_zero_iff.1 h2]at hr
  cases hr
theorem mg.sig{R n:Nat}{AL:List cW}(h:mg R n 0 AL){x:cW}(hx:x.changes=[]):mg R n 0 (AL++[x]):=by
 have e:∀s:Int,gY s (AL++[x])=gY s AL:=λs=>by
  unfold gY
  rw[List.flatMap_append,List.flatMap_singleton,hx,List.append_nil]
 refine⟨by rw[List.flatMap_append,List.flatMap_singleton,hx,List.append_nil];exact h.l4,λs=>by rw[e];exact h.len s,λr hr=>h.keys r (by rw[<- e];exact hr)⟩
theorem oN.start{n base R:Nat}{T:Nat->List Row}{Wt:Nat->Nat}{AL:List cW}{k:du}{late:Int}(hI:lz n base Wt n AL k 200000 1000)(n1:1<=n)(n8:n<=4)(hb:base<=44)(hw:∀t,t<n->1<=Wt t/\Wt t<=8)(hT:∀t,t<n->gY t AL=T t):
  oN n base R T Wt 0 ⟨k,mF n late 1 base Wt (base+n),gu,1⟩ (λ_=>0) 0:=by
 have hg:=NF hI late (C:=1) (by decide) n1 (by omega) (by omega) hw (Nat.le_refl (base+n))
 refine .inl ⟨λ_=>0,AL,⟨⟨hI.ks,rfl,?_,⟨hg.reqs,hg.t1,hg.jB,hg.wn,hg.rows,hg.wid,hg.d,hg.ids,hg.n,hI.ok.mono (by omega)⟩,by have:=hI.ops;show k.d.ops<=_;omega⟩,rfl,Nat.le_refl 1,?_,λt ht=>?_,hT⟩,by rw[G5];exact hI.len,by omega,?_,λt=>by simp,by rw[G5];rfl⟩
 ·show ((base+n:Nat):Int)=_
  rw[hI.len]
 ·show (g_ base Wt (base+n-base)).length=n
  rw[CM];omega
 ·show (g_ base Wt (base+n-base))[t].table=_/\_
  rw[tA]
  exact⟨rfl,rfl,⟨by rw[Nat.zero_mul,Nat.zero_min];rfl,rfl,(decide_eq_false (Nat.not_succ_le_zero _)).symm,Nat.zero_le _⟩⟩
 ·show Fair n Wt _ _ (R+1) _ 0 (fY gu (g_ base Wt (base+n-base)))
  rw[Nat.add_sub_cancel_left]
  exact Fair.first (by omega) hw (Nat.succ_pos R)
theorem CY{m:dD}{t:cW}(h:(m.take t).2.2=0):(m.take t).1.at_=m.at_+1:=by
 unfold dD.take at *
 split
 ·rename_i h1;rw[if_pos h1]at h;exact absurd (show (1:Int)=0 from h) (by decide)
 rename_i h1
 rw[if_neg h1]at h
 split
 ·rename_i h2;rw[if_pos h2]at h;exact absurd (show (10:Int)=0 from h) (by decide)
 rename_i h2
 have hl:t.aI=m.at_+1:=Decidable.of_not_not λhn=>h2 (.inl hn)
 split
 ·unfold dD.sM
  simp only
  rw[(Dt t.aI t.signals {m with at_:=t.aI}).2.2.2.2.2]
  exact hl
 split
 ·unfold dD.high
  split
  ·exact hl
  ·split<;>exact hl
 ·exact hl
theorem dr.cellAt{W w:World}{mp wp:Nat}{H:aW}{m:dD}{l:List Chunk}(h:SL W (.ob (dr mp wp H m)::l) w):w.cell? ⟨mp,3,none⟩=some (.int .i64 m.at_):=by
 obtain⟨rv,_,hS⟩:=dr.iff.1 h
 exact hS.cell .hd (o:=3) rfl
set_option maxRecDepth 100000
open Go.ChangeShapes Go.WideShapes Go.ChangeAt Go.RowKit
abbrev kQ(x:vl)(H:aW)(p:dA):List Chunk:=[sx x,.pt x.pp (jc x.sp x.mp x.wp x.gp p.n) 201,.ob (fA x.gp p.d),.ob (dr x.mp x.wp H p.m),.ob (dU x.sp x.tp x.dp x.lp p.k),.ob (b_ x.dp p.k.d),.mem H]
abbrev lS(tb:Nat)(tl:List Int):Chunk:=.pt tb (tl.map λa:Int=>Value.int .i64 a) 3
theorem Td(n:Nat):db [.int .i64 0] n=(List.replicate n (0:Int)).map λa:Int=>Value.int .i64 a:=by
 induction n with
 | zero=>rfl
 | succ n ih=>rw[List.replicate_succ,List.map_cons,<- ih];rfl
def gr(n:Nat)(f:Nat->Int)(t:Nat):List Int:=(List.range n).map λs=>if s<t then f s else 0
theorem a_y(n:Nat)(f:Nat->Int):gr n f 0=List.replicate n 0:=by
 refine List.ext_getElem (by simp[gr]) λi h1 h2=>by simp[gr]
theorem a_x{n:Nat}{f:Nat->Int}{t:Nat}(h:t<n):(gr n f t).set t (f t)=gr n f (t+1):=by
 refine List.ext_getElem (by simp[gr]) λi h1 h2=>?_
 rw[List.getElem_set]
 simp only[gr,List.getElem_map,List.getElem_range]
 by_cases e:t=i
 ·subst e;rw[if_pos rfl,if_pos (by omega)]
 ·rw[if_neg e]
  by_cases h3:i<t
  ·rw[if_pos h3,if_pos (by omega)]
  ·rw[if_neg h3,if_neg (by omega)]
theorem CZ{n:Nat}{f:Nat->Int}{t s:Nat}(h:s<n)(h2:s<t):(gr n f t)[s]?=some (f s):=by
 simp[gr,h,h2]
theorem VF{n:Nat}{f:Nat->Int}{t:Nat}(c:Int)(h:t<n):(gr n f n).set t c=gr n (λs=>if s=t then c else f s) n:=by
 refine List.ext_getElem (by simp[gr]) λi h1 h2=>?_
 rw[List.getElem_set]
 have hi:i<n:=by simpa [gr] using h2
 simp only[gr,List.getElem_map,List.getElem_range,if_pos hi]
 by_cases e:t=i
 ·subst e;rw[if_pos rfl]
 ·rw[if_neg e,if_neg (λe2=>e e2.symm)]
set_option maxHeartbeats 8000000 in
theorem Yc(H:aW)(v:Value)(l:List Int)(rows:Int)(hv:dy H 1 v l.length (l.map (Value.int .i64)))(hl:l.length<=140737488351232):
  SP 8 [v,.int .i64 rows] [.mem H] (λv post=>v= .bool true/\∃H' l,H.le H'/\post= .mem H'::l):=by
 intro W F w hS;apply vc8;delta Lm aF bw cF df dc b7 ai dk c_ bF C6;(try simp only[app]at hS)
 refine zm hv ?_
 repeat first|refine Gp ?_|refine Gw λw hS=>?_|refine Gb λb w hS=>?_
 refine za (λh0=>?_) (λh0=>?_)
 ·refine Cg (Zj) λw hS=>?_
  exact⟨_,⟨rfl,H,[],aW.le_refl H,rfl⟩,aR hS⟩
 have dV:min (l.length:Int) 4=((min l.length 4:Nat):Int):=by omega
 rw[dV]at h0 ⊢
 have mY:min l.length 4<=l.length:=Nat.min_le_left _ _
 have n4:min l.length 4<=4:=Nat.min_le_right _ _
 generalize min l.length 4=n at *
 have n1:1<=n:=by omega
 refine yr rfl ?_
 have hc:vf n ⟨n,0,1000,0,1,0,0,0,0,0⟩:=⟨rfl,n1,by omega,(show (64:Int)<=1000 by decide),(show (1000:Int)<=65536 by decide),(show (0:Int)<=0 by decide),Int.pow_pos (by decide),(show (1:Int)<=1 by decide),(show (1:Int)<=64 by decide)⟩
 refine Cc (Zk H ⟨n,0,1000,0,1,0,0,0,0,0⟩ n hc) ?_;clear hS
 rintro _ post ⟨x,H1,d_,rfl,rfl⟩ w hS
 try simp only[app]at hS
 repeat first|refine Gp ?_|refine Gw λw hS=>?_|refine Gb λb w hS=>?_
 refine zq ?_
 repeat first|refine Gp ?_|refine Gw λw hS=>?_|refine Gb λb w hS=>?_
 refine Cc (Zj) ?_;clear hS
 (rintro v post ⟨rfl,rfl⟩ w hS;(try simp only[app]at hS);(repeat (first|refine Gp ?_|refine Gw λw hS=>?_|refine Gb λb w hS=>?_)))
 refine zq ?_
 refine AM hS (Nat.le_refl _) (by omega) (by omega) λwb w hS=>?_
 rw[Td]at hS
 have hS:SL W (lS wb (List.replicate n 0)::app (kQ x H1 ⟨lN n 1000,⟨n,0,0,[],gl 1⟩,gu,1⟩) F) w:=SL.b6 hS (t:=lS wb (List.replicate n 0)::app (kQ x H1 (tu n ⟨n,0,1000,0,1,0,0,0,0,0⟩)) F) Xi
 generalize N5:(λt=>1+md (l.getD t 0) 8:Nat->Nat)=Wt at *
 have s9:∀t,t<n->1<=Wt t/\Wt t<=8:=λt _=>by have:=F7 (l.getD t 0) 8 (by decide);rw[<- N5];simp only;omega
 rw[<- a_y n λt=>(Wt t:Int)]at hS
 have hR:=F7 rows 12 (by decide)
 generalize N0:md rows 12=R at *
 have NU:=lz.init (n:=n) Wt n1 (show n<=8 by omega) (size:=1000) (by decide) (by decide)
 have NT:=mg.init R
 refine⟨λus w=>∃(t:Nat) (AL:List cW) (k:du) (H2:aW),us=[.int .i64 (ik Wt t:Nat),.int .i64 t]/\t<=n/\lz n (t*R) Wt 0 AL k (2000*(t*R)) (3*(t*R))/\mg R t 0 AL/\H1.le H2/\SL W (lS wb (gr n (λt=>(Wt t:Int)) t)::app (kQ x H2 ⟨k,⟨n,0,0,[],gl 1⟩,gu,1⟩) F) w,
  λus _=>match us with|[_,.int _ t]=>(n-t).toNat|_=>0,⟨0,[],_,H1,rfl,Nat.zero_le _,by rw[Nat.zero_mul];exact NU,NT,aW.le_refl H1,hS⟩,?_⟩
 clear hS NU NT
 rintro v8 v9 w ⟨t,AL,k,H2,da,ht,hI,hF,eh,hS⟩
 cases da
 try simp only[app]at hS
 repeat first|refine Gp ?_|refine Gw λw hS=>?_|refine Gb λb w hS=>?_
 refine za (λha=>?_) (λha=>?_)
 ·have r8:t<n:=by omega
  have pr:t<l.length:=by omega
  have gv:=aW.le_trans d_ eh
  refine yH hS Xh (hv.mono gv) pr (u:=.int .i64 l[t]) (by simp[pr]) ?_
  have B_:(1:Int)+(md l[t] 8:Nat)=(Wt t:Int):=by rw[<- N5];simp[pr]
  have Pb:=s9 t r8
  refine Cc (ZX l[t] 8 (by decide) (by decide)) ?_;clear hS
  (rintro v post ⟨rfl,rfl⟩ w hS;(try simp only[app]at hS);(repeat (first|refine Gp ?_|refine Gw λw hS=>?_|refine Gb λb w hS=>?_)))
  rw[B_]
  have ix:((gr n (λt=>(Wt t:Int)) t).map λa:Int=>Value.int .i64 a)[0+t*1]?=some (.int .i64 0):=by simp[gr,r8]
  refine zB r8 ?_
  refine y2 hS Xu ix rfl λw hS=>?_
  have Br:((gr n (λt=>(Wt t:Int)) t).map λa:Int=>Value.int .i64 a).set (0+t*1) (.int .i64 (Wt t:Int))=(gr n (λt=>(Wt t:Int)) (t+1)).map λa:Int=>Value.int .i64 a:=by
   rw[Nat.zero_add,Nat.mul_one,<- a_x r8,List.map_set]
  rw[Br]at hS
  have Oj:((gr n (λt=>(Wt t:Int)) (t+1)).map λa:Int=>Value.int .i64 a)[0+t*1]?=some (.int .i64 (Wt t:Int)):=by rw[Nat.zero_add,Nat.mul_one,List.getElem?_map,CZ r8 (Nat.lt_succ_self t)];rfl
  refine zB r8 ?_
  refine zX hS Xh Oj ?_
  have r7:ik Wt t<=t*8:=CR t λs hs=>(s9 s (by omega)).2
  repeat first|refine Gp ?_|refine Gw λw hS=>?_|refine Gb λb w hS=>?_
  refine⟨λus w=>∃(i:Nat) (AL:List cW) (k:du) (H3:aW),us=[.int .i64 i]/\i<=R/\lz n (t*R+i) Wt 0 AL k (2000*(t*R+i)) (3*(t*R+i))/\mg R t i AL/\H2.le H3/\SL W (lS wb (gr n (λt=>(Wt t:Int)) (t+1))::app (kQ x H3 ⟨k,⟨n,0,0,[],gl 1⟩,gu,1⟩) F) w,
   λus _=>match us with|[.int _ i]=>(R-i).toNat|_=>0,⟨0,AL,k,H2,rfl,Nat.zero_le _,hI,hF,aW.le_refl H2,aR hS⟩,?_⟩
  clear hS hI hF ix Oj Br
  rintro v10 w ⟨i,AL,k,H3,da,hi,hI,hF,gE,hS⟩
  cases da
  try simp only[app]at hS
  have hmul:t*R<=3*R:=Nat.mul_le_mul_right R (by omega)
  refine Cc (ZX rows 12 (by decide) (by decide)) ?_;clear hS
  rw[N0]
  (rintro v post ⟨rfl,rfl⟩ w hS;(try simp only[app]at hS);(repeat (first|refine Gp ?_|refine Gw λw hS=>?_|refine Gb λb w hS=>?_)))
  refine za (λhb=>?_) (λhb=>?_)
  ·have hiR:i<R:=by omega
   repeat first|refine Gp ?_|refine Gw λw hS=>?_|refine Gb λb w hS=>?_
   obtain⟨H4,kT,EJ,hS⟩:=SL.AJ (sz:=4) (H:=H3) hS Xp rfl
   have EJ:dy H4 4 (.slice (some ⟨_,0,none⟩) 1 1) 1 ([sK t i].map gi).flatten:=EJ
   have hS:=dr.gC (mp:=x.mp) (wp:=x.wp) (m:=⟨n,0,0,[],gl 1⟩) kT hS Xr
   have eJ:=hI.ops
   refine Cc (yQ x.sp x.tp x.dp x.lp k H4 (.slice none 0 0) (.slice (some ⟨_,0,none⟩) 1 1) [] [sK t i] (dy.nil _ _) EJ (show 1<=140737488351232 by decide) hI.ok (by omega) (by omega)) ?_;clear hS
   rintro _ post ⟨rfl,rfl⟩ w hS
   obtain⟨k',e,EG⟩:=hI.oU (c:=sK t i) (Ut (by omega) (by omega)) (Us r8) (by omega) (by rw[hF.l4];exact Nat.le_refl _)
   have VT:=hF.step (((t*R+i:Nat):Int)+1)
   rw[e]at hS ⊢
   simp only at hS ⊢
   try simp only[app]at hS
   repeat first|refine Gp ?_|refine Gw λw hS=>?_|refine Gb λb w hS=>?_
   refine za (λh=>absurd rfl h) (λ_=>?_)
   repeat first|refine Gp ?_|refine Gw λw hS=>?_|refine Gb λb w hS=>?_
   exact⟨⟨i+1,_,k',H4,rfl,by omega,EG,VT,aW.le_trans gE kT,aR hS⟩,by dsimp only;omega⟩
  have WO:i=R:=by omega
  subst WO
  repeat first|refine Gp ?_|refine Gw λw hS=>?_|refine Gb λb w hS=>?_
  refine⟨⟨t+1,AL,k,H3,rfl,by omega,by rw[Nat.succ_mul];exact hI,hF.next,aW.le_trans eh gE,aR hS⟩,by dsimp only;omega⟩
 have r8:t=n:=by omega
 subst r8
 have gv:=aW.le_trans d_ eh
 have BM:t*R<=4*R:=Nat.mul_le_mul_right R n4
 generalize hB:t*R=B at *
 have Oc:B<=44:=by omega
 clear ha ht
 refine⟨λus w=>∃(s:Nat) (AL:List cW) (k:du) (H4:aW),us=[.int .i64 s]/\s<=t/\lz t B Wt s AL k (2000*(B+s)) (3*(B+s))/\mg R t 0 AL/\H2.le H4/\SL W (lS wb (gr t (λt=>(Wt t:Int)) t)::app (kQ x H4 ⟨k,⟨t,0,0,[],gl 1⟩,gu,1⟩) F) w,
  λus _=>match us with|[.int _ s]=>(t-s).toNat|_=>0,⟨0,AL,k,H2,rfl,by omega,hI,hF,aW.le_refl H2,aR hS⟩,?_⟩
 clear hS hI hF
 rintro lu w ⟨s,AL,k,H4,da,hs,hI,hF,Ew,hS⟩
 cases da
 try simp only[app]at hS
 repeat first|refine Gp ?_|refine Gw λw hS=>?_|refine Gb λb w hS=>?_
 refine za (λha=>?_) (λha=>?_)
 ·have m0:s<t:=by omega
  have Pb:=s9 s m0
  repeat first|refine Gp ?_|refine Gw λw hS=>?_|refine Gb λb w hS=>?_
  refine zM ?_
  have ix:((gr t (λt=>(Wt t:Int)) t).map λa:Int=>Value.int .i64 a)[0+s*1]?=some (.int .i64 (Wt s:Int)):=by rw[Nat.zero_add,Nat.mul_one,List.getElem?_map,CZ m0 m0];rfl
  refine zB m0 ?_
  refine zX hS Xh ix ?_
  repeat first|refine Gp ?_|refine Gw λw hS=>?_|refine Gb λb w hS=>?_
  refine zM ?_
  have U6:Value.int .u8 (IntKind.u8.wrap (48+(s:Int)))=cI (UInt8.ofNat (48+s)):=by
   unfold cI
   rw[UInt8.toNat_ofNat',IntKind.wrap_u8]
   congr 1
  have U7:Value.int .u8 (IntKind.u8.wrap (48+(Wt s:Int)))=cI (UInt8.ofNat (48+Wt s)):=by
   unfold cI
   rw[UInt8.toNat_ofNat',IntKind.wrap_u8]
   congr 1
  have U8:Value.int .u8 32=cI 32:=rfl
  rw[U6,U7,U8]
  refine zy hS (cells:=([UInt8.ofNat (48+s),32,UInt8.ofNat (48+Wt s)]:List UInt8).map cI) (by rfl) λb1 w hS=>?_
  repeat first|refine Gp ?_|refine Gw λw hS=>?_|refine Gb λb w hS=>?_
  refine Zg (bs:=[UInt8.ofNat (48+s),32,UInt8.ofNat (48+Wt s)]) ⟨_,_,_,rfl⟩ (iP hS Xh rfl) Tryz.underlying62 Tryz.underlying9 Tryz.underlying5 ?_
  refine aWc (show 9+3<=1000000 by decide) ?_
  have Vi:(⟨#[115,110,97,112,115,104,111,116,32]⟩:ByteArray)++eM [UInt8.ofNat (48+s),32,UInt8.ofNat (48+Wt s)]=mH s (Wt s):=by
   apply ByteArray.ext
   simp[mH,ni,eM]
  rw[Vi]
  refine zy hS (cells:=[.string (mH s (Wt s))]) (by rfl) λb2 w hS=>?_
  obtain⟨H5,oh,VY,hS⟩:=SL.AJ (sz:=1) (H:=H4) (b:=b2) hS Xp rfl
  have hS:=dr.gC (mp:=x.mp) (wp:=x.wp) (m:=⟨t,0,0,[],gl 1⟩) oh hS Xr
  repeat first|refine Gp ?_|refine Gw λw hS=>?_|refine Gb λb w hS=>?_
  have eJ:=hI.ops
  have WD:=hF.l4
  refine Cc (yQ x.sp x.tp x.dp x.lp k H5 (.slice (some ⟨b2,0,none⟩) 1 1) (.slice none 0 0) [mH s (Wt s)] [] VY (dy.nil _ _) (by decide) hI.ok (by omega) (by omega)) ?_;clear hS
  rintro _ post ⟨rfl,rfl⟩ w hS
  obtain⟨k',e,EG⟩:=hI.a7r (by omega) (by omega) (by rw[WD];omega)
  rw[e]at hS ⊢
  simp only at hS ⊢
  try simp only[app]at hS
  repeat first|refine Gp ?_|refine Gw λw hS=>?_|refine Gb λb w hS=>?_
  refine za (λh=>absurd rfl h) (λ_=>?_)
  repeat first|refine Gp ?_|refine Gw λw hS=>?_|refine Gb λb w hS=>?_
  exact⟨⟨s+1,_,k',H5,rfl,by omega,by rw[show 2000*(B+(s+1))=2000*(B+s)+2000 by omega,show 3*(B+(s+1))=3*(B+s)+3 by omega];exact EG,hF.sig rfl,aW.le_trans Ew oh,aR hS⟩,by dsimp only;omega⟩
 have m0:s=t:=by omega
 subst m0
 have hI:lz s B Wt s AL k 200000 1000:=⟨hI.ks,hI.len,hI.xa,hI.sig,hI.ok.mono (by omega),by have:=hI.ops;omega⟩
 have ug:=aW.le_trans gv Ew
 clear ha hs
 have em:mF s 0 1 B Wt 0=⟨s,0,0,[],gl 1⟩:=by unfold mF g_;rw[Nat.zero_sub];rfl
 generalize Pa:lS wb (gr s (λt=>(Wt t:Int)) s)=WC at hS
 refine⟨λus w=>us=[]/\∃H5:aW,H4.le H5/\SL W (WC::app (kQ x H5 ⟨k,mF s 0 1 B Wt (B+s),gu,1⟩) F) w,?_,?_⟩
 ·have hS:SL W (WC::app (kQ x H4 ⟨k,mF s 0 1 B Wt 0,gu,1⟩) F) w:=by rw[em];exact hS
  refine⟨λus w=>∃(i:Nat) (H5:aW),us=[.int .i64 i]/\i<=B+s/\H4.le H5/\SL W (WC::app (kQ x H5 ⟨k,mF s 0 1 B Wt i,gu,1⟩) F) w,
   λus _=>match us with|[.int _ i]=>(100-i).toNat|_=>0,⟨0,H4,rfl,Nat.zero_le _,aW.le_refl H4,hS⟩,?_⟩
  clear hS
  rintro wK w ⟨i,H5,da,hi,oh,hS⟩
  cases da
  try simp only[app]at hS
  repeat first|refine Gp ?_|refine Gw λw hS=>?_|refine Gb λb w hS=>?_
  refine za (λ_=>?_) (λh=>absurd (by omega) h)
  have hg:(⟨k,mF s 0 1 B Wt i,gu,1⟩:dA).Good 200000:=NF hI 0 (C:=1) (by decide) n1 (by omega) (by omega) s9 hi
  obtain⟨m,hm⟩:∃m,m=mF s 0 1 B Wt i:=⟨_,rfl⟩
  have fD:m.at_=i:=by rw[hm]
  rw[<- hm]at hg hS
  have b5:=hg.tf (by decide)
  have FO:0<=m.b8.id/\m.b8.id<=64:=hg.wid
  have hlen:=hI.len
  have q_:=hI.ok.g
  have jI:∃re,k.fp (m.at_+1)=re:=⟨_,rfl⟩
  obtain⟨re,jI⟩:=jI
  refine⟨λus w=>∃(ub:Nat) (H6:aW) (xt:jq),us=[dg ub,.int .i64 (GF re)]/\H5.le H6/\gO H6 xt (GG re)/\SL W (.pt ub (eI xt) 39::WC::app (kQ x H6 ⟨k,m,gu,1⟩) F) w,?_,?_⟩
  ·repeat first|refine Gp ?_|refine Gw λw hS=>?_|refine Gb λb w hS=>?_
   refine⟨?_,?_⟩
   ·refine Cc (Zl x.mp x.wp H5 m) ?_;clear hS
    (rintro v post ⟨rfl,rfl⟩ w hS;(try simp only[app]at hS);(repeat (first|refine Gp ?_|refine Gw λw hS=>?_|refine Gb λb w hS=>?_)))
    refine⟨?_,?_⟩
    ·refine Cc (zY x.sp x.tp x.dp x.lp k q_ (by omega) H5 (m.at_+1) (by omega)) ?_;clear hS
     rintro r post hq w hS
     obtain⟨x1,H6,mR,rfl,gL,rfl⟩:=hq.all
     rw[jI]at gL ⊢
     clear hq
     try simp only[app]at hS
     refine Gp ?_
     refine zI hS λb1 w hS=>?_
     refine zz (vs:=eI x1) hS Xu rfl rfl (mo (aI:=x1.aI) (kind:=x1.kind) (mark:=x1.mark) gL.cv.one gL.sv.one) λw hS=>?_
     have hS:=dr.gC (mp:=x.mp) (wp:=x.wp) (m:=m) mR hS Xr
     exact⟨_,_,_,rfl,mR,gL,aR hS⟩
    ·refine Gb λb1 w hS=>?_
     refine Cc (zY x.sp x.tp x.dp x.lp k q_ (by omega) H5 (m.at_+1) (by omega)) ?_;clear hS
     rintro r post hq w hS
     obtain⟨x1,H6,mR,rfl,gL,rfl⟩:=hq.all
     rw[jI]at gL ⊢
     clear hq
     try simp only[app]at hS
     refine Gp ?_
     refine zz (vs:=eI x1) hS Xu rfl rfl (mo (aI:=x1.aI) (kind:=x1.kind) (mark:=x1.mark) gL.cv.one gL.sv.one) λw hS=>?_
     have hS:=dr.gC (mp:=x.mp) (wp:=x.wp) (m:=m) mR hS Xr
     exact⟨_,_,_,rfl,mR,gL,aR hS⟩
   ·refine Gb λb1 w hS=>?_
    refine Cc (Zl x.mp x.wp H5 m) ?_;clear hS
    (rintro v post ⟨rfl,rfl⟩ w hS;(try simp only[app]at hS);(repeat (first|refine Gp ?_|refine Gw λw hS=>?_|refine Gb λb w hS=>?_)))
    refine Cc (zY x.sp x.tp x.dp x.lp k q_ (by omega) H5 (m.at_+1) (by omega)) ?_;clear hS
    rintro r post hq w hS
    obtain⟨x1,H6,mR,rfl,gL,rfl⟩:=hq.all
    rw[jI]at gL ⊢
    clear hq
    try simp only[app]at hS
    refine Gp ?_
    refine zz (vs:=eI x1) hS Xu rfl rfl (mo (aI:=x1.aI) (kind:=x1.kind) (mark:=x1.mark) gL.cv.one gL.sv.one) λw hS=>?_
    have hS:=dr.gC (mp:=x.mp) (wp:=x.wp) (m:=m) mR hS Xr
    exact⟨_,_,_,rfl,mR,gL,aR hS⟩
  clear hS
  rintro AX C2 w ⟨ub,H6,xt,da,mR,hx,hS⟩
  cases da
  have NH:=aW.le_trans oh mR
  try simp only[app]at hS
  repeat first|refine Gp ?_|refine Gw λw hS=>?_|refine Gb λb w hS=>?_
  refine za (λhe=>?_) (λhe=>?_)
  ·have iW:i=B+s:=by
    rcases Nat.lt_or_ge i (B+s) with h|h
    ·rw[fD,hI.ks.read (j:=i) (by omega)]at jI
     rw[<- jI]at he
     exact absurd rfl he
    ·omega
   subst iW
   rw[hm]at hS
   exact⟨rfl,H6,NH,aR hS⟩
  have bW:i<AL.length:=by
   rcases Nat.lt_or_ge i (B+s) with h|h
   ·omega
   ·have iW:i=AL.length:=by omega
    rw[fD,iW,hI.ks.CF]at jI
    rw[<- jI]at he
    exact absurd (show (5:Int)≠0 by decide) he
  rw[fD,hI.ks.read bW]at jI
  subst jI
  have hx:gO H6 xt AL[i]:=hx
  obtain⟨t1,t2,t3,t4⟩:=hI.take 0 1 (by omega) (Nat.le_refl s) (by omega) s9 bW
  rw[<- hm]at t1 t2
  generalize AL[i]=tx at *
  have jG:∀{w:World} {H7:aW} {l:List Chunk},H6.le H7->SL W (WC::app (kQ x H7 ⟨k,(m.take tx).1,gu,1⟩) F) w->∃(i':Nat) (H5:aW),([.int .i64 ((i:Int)+1)]:List Value)=[.int .i64 (i':Int)]/\i'<=B+s/\H4.le H5/\SL W (WC::app (kQ x H5 ⟨k,mF s 0 1 B Wt i',gu,1⟩) F) w:=λhh hS=>⟨i+1,_,rfl,by omega,aW.le_trans NH hh,by rw[<- t1];exact hS⟩
  repeat first|refine Gp ?_|refine Gw λw hS=>?_|refine Gb λb w hS=>?_
  refine⟨?_,?_⟩
  ·refine Cc (yj x.mp x.wp H6 m b5.m xt tx hx (by omega)) ?_;clear hS
   rintro r post ⟨xi,H7,rO,rfl,pw,rfl⟩ w hS
   rw[t2]
   try simp only[app]at hS
   refine Gp ?_
   refine zI hS λb1 w hS=>?_
   refine zz (vs:=kC xi) hS Xu rfl rfl (rJ pw) λw hS=>?_
   repeat first|refine Gp ?_|refine Gw λw hS=>?_|refine Gb λb w hS=>?_
   refine za (λh=>absurd rfl h) (λ_=>?_)
   repeat first|refine Gp ?_|refine Gw λw hS=>?_|refine Gb λb w hS=>?_
   exact⟨jG (l:=[]) rO (aR hS),by dsimp only;omega⟩
  ·refine Gb λb1 w hS=>?_
   repeat first|refine Gp ?_|refine Gw λw hS=>?_|refine Gb λb w hS=>?_
   refine Cc (yj x.mp x.wp H6 m b5.m xt tx hx (by omega)) ?_;clear hS
   rintro r post ⟨xi,H7,rO,rfl,pw,rfl⟩ w hS
   rw[t2]
   try simp only[app]at hS
   refine Gp ?_
   refine zz (vs:=kC xi) hS Xu rfl rfl (rJ pw) λw hS=>?_
   repeat first|refine Gp ?_|refine Gw λw hS=>?_|refine Gb λb w hS=>?_
   refine za (λh=>absurd rfl h) (λ_=>?_)
   repeat first|refine Gp ?_|refine Gw λw hS=>?_|refine Gb λb w hS=>?_
   exact⟨jG (l:=[]) rO (aR hS),by dsimp only;omega⟩
 clear hS em
 rintro w ⟨_,H5,oh,hS⟩
 have VL:=aW.le_trans ug oh
 clear d_ eh gv Ew ug oh
 refine AM hS (Nat.le_refl _) (by omega) (by omega) λlb w hS=>?_
 rw[Td]at hS
 generalize hT:(λt:Nat=>gY (t:Int) AL)=T
 have kU:∀t,t<s->(T t).length=R:=λt ht=>by rw[<- hT,hF.len t,if_pos ht]
 have N4:oN s B R T Wt 0 ⟨k,mF s 0 1 B Wt (B+s),gu,1⟩ (λ_=>0) 0:=oN.start (late:=0) hI n1 n4 Oc s9 λt _=>by rw[<- hT]
 have r7:ik Wt s<=s*8:=CR s λt ht=>(s9 t ht).2
 clear hI hF hT
 generalize (⟨k,mF s 0 1 B Wt (B+s),gu,1⟩:dA)=p0 at *
 have hS:SL W (lS lb (gr s (λ_=>0) s)::WC::app (kQ x H5 p0) F) w:=by
  rw[show gr s (λ_=>(0:Int)) s=List.replicate s 0 from List.ext_getElem (by simp[gr]) λi h1 h2=>by simp[gr]]
  exact aR hS
 refine⟨λus w=>∃(i:Nat) (p:dA) (last:Nat->Int) (ck:Int) (H6:aW),us=[.int .i64 ck,.int .i64 i]/\oN s B R T Wt i p last ck/\H5.le H6/\SL W (lS lb (gr s last s)::WC::app (kQ x H6 p) F) w,
  λus _=>match us with|[_,.int _ i]=>(1000-i).toNat|_=>0,⟨0,p0,_,0,H5,rfl,N4,aW.le_refl H5,hS⟩,?_⟩
 clear hS N4
 rintro v22 v23 w ⟨i,p,last,ck,H6,da,hW,mR,hS⟩
 cases da
 obtain⟨hi,hg,eJ,x',Om,nF⟩:=hW.next n1 n4 Oc (by omega) kU
 clear hW
 have b5:=hg.tf (by decide)
 have Fx:=hg.reqs.1
 try simp only[app]at hS
 repeat first|refine Gp ?_|refine Gw λw hS=>?_|refine Gb λb w hS=>?_
 refine za (λ_=>?_) (λh=>absurd (by omega) h)
 repeat first|refine Gp ?_|refine Gw λw hS=>?_|refine Gb λb w hS=>?_
 refine Cc (yh x.sp x.mp x.wp x.pp x.gp p.n H6 p.m (by omega)) ?_;clear hS
 rcases nF with ⟨dE,vT,ES⟩|⟨dE,p',d,gK,EY,W_,nF⟩
 ·rw[dE]
  (rintro v post ⟨rfl,rfl⟩ w hS;(try simp only[app]at hS);(repeat (first|refine Gp ?_|refine Gw λw hS=>?_|refine Gb λb w hS=>?_)))
  refine Cc (yE x.mp x.wp H6 p.m (by omega)) ?_;clear hS
  rintro u post rfl w hS
  try simp only[app]at hS
  refine zr hS (v:=u) (t:=125) (sz:=7) (n:=p.m.reqs.length) (cells:=(p.m.reqs.map gX).flatten) Xh ?_
  repeat first|refine Gp ?_|refine Gw λw hS=>?_|refine Gb λb w hS=>?_
  refine za (λ_=>?_) (λh=>absurd (by rw[vT]) h)
  repeat first|refine Gp ?_|refine Gw λw hS=>?_|refine Gb λb w hS=>?_
  refine Cc (yh x.sp x.mp x.wp x.pp x.gp p.n H6 p.m (by omega)) ?_;clear hS
  rw[dE]
  (rintro v post ⟨rfl,rfl⟩ w hS;(try simp only[app]at hS);(repeat (first|refine Gp ?_|refine Gw λw hS=>?_|refine Gb λb w hS=>?_)))
  refine zw ?_
  refine Cc (ZX rows 12 (by decide) (by decide)) ?_;clear hS
  rw[N0]
  (rintro v post ⟨rfl,rfl⟩ w hS;(try simp only[app]at hS);(repeat (first|refine Gp ?_|refine Gw λw hS=>?_|refine Gb λb w hS=>?_)))
  have OS:s*(R+1)<=4*(R+1):=Nat.mul_le_mul_right _ n4
  have Oh:(s:Int)*((R+1:Nat):Int)=((s*(R+1):Nat):Int):=by push_cast;rfl
  refine GV (by rw[Oh];omega) ?_
  rw[Oh]
  repeat first|refine Gp ?_|refine Gw λw hS=>?_|refine Gb λb w hS=>?_
  rw[decide_eq_true ES]
  exact⟨_,⟨rfl,H6,[],aW.le_trans VL mR,rfl⟩,aR hS⟩
 rw[dE]
 (rintro v post ⟨rfl,rfl⟩ w hS;(try simp only[app]at hS);(repeat (first|refine Gp ?_|refine Gw λw hS=>?_|refine Gb λb w hS=>?_)))
 refine Cc (yt x.sp x.tp x.dp x.lp x.mp x.wp x.pp x.gp H6 p b5 (by omega)) ?_;clear hS
 rintro _ post ⟨H7,rO,rfl,rfl⟩ w hS
 rw[gK]at hS ⊢
 simp only at hS ⊢
 try simp only[app]at hS
 repeat first|refine Gp ?_|refine Gw λw hS=>?_|refine Gb λb w hS=>?_
 refine za (λh=>absurd rfl h) (λ_=>?_)
 have nF:∃(sL:Int) (m8:Nat->Int),((d=3/\∃t,t<s/\p'.m.b8.table=(t:Int)/\ck-last t<=(ik Wt s:Nat)-Wt t/\sL=ck+1/\m8=λj=>if j=t then ck+1 else last j)\/(d≠3/\sL=ck/\m8=last)) /\
   ((d≠5/\oN s B R T Wt (i+1) p' m8 sL)\/(d=5/\∃p4 p5 l h,HK s B R T Wt (i+1) p' p4 p5 l h m8 sL)):=by
  rcases nF with ⟨rfl,t,g1,g2,g3,g4⟩|⟨rfl,g1⟩|⟨rfl,g1⟩
  ·exact⟨_,_,.inl ⟨rfl,t,g1,g2,g3,rfl,rfl⟩,.inl ⟨by decide,g4⟩⟩
  ·exact⟨_,_,.inr ⟨by decide,rfl,rfl⟩,.inl ⟨by decide,g1⟩⟩
  ·exact⟨_,_,.inr ⟨by decide,rfl,rfl⟩,.inr ⟨rfl,g1⟩⟩
 obtain⟨sL,m8,E4,nF⟩:=nF
 have Ey:=aW.le_trans mR rO
 refine⟨λus w=>us=[.int .i64 sL]/\SL W (lS lb (gr s m8 s)::WC::app (kQ x H7 p') F) w,?_,?_⟩
 ·repeat first|refine Gp ?_|refine Gw λw hS=>?_|refine Gb λb w hS=>?_
  refine za (λhd=>?_) (λhd=>?_)
  ·rcases E4 with ⟨_,t,ht,XB,b8b,rfl,rfl⟩|⟨EV,_⟩
   ·have dZ:=x' t
    have B_:=s9 t ht
    obtain⟨rv,hr,hS⟩:=dr.iff.1 (SL.b6 hS (t:=.ob (dr x.mp x.wp H7 p'.m)::lS lb (gr s last s)::WC::sx x::.pt x.pp (jc x.sp x.mp x.wp x.gp p'.n) 201::.ob (fA x.gp p'.d)::.ob (dU x.sp x.tp x.dp x.lp p'.k)::.ob (b_ x.dp p'.k.d)::.mem H7::F) Xi)
    repeat first|refine Gp ?_|refine Gw λw hS=>?_|refine Gb λb w hS=>?_
    refine Z8 (vs:=[dg x.wp]) hS Xh rfl (λj v e=>by
     match j,e with
     | 0,e=>exact e) ?_
    refine Cc (Zv x.wp) ?_;clear hS
    (rintro v post ⟨rfl,rfl⟩ w hS;(try simp only[app]at hS);(repeat (first|refine Gp ?_|refine Gw λw hS=>?_|refine Gb λb w hS=>?_)))
    refine Cc (ZM x.wp p'.m.b8) ?_;clear hS
    rw[XB]
    (rintro v post ⟨rfl,rfl⟩ w hS;(try simp only[app]at hS);(repeat (first|refine Gp ?_|refine Gw λw hS=>?_|refine Gb λb w hS=>?_)))
    have hS:=dr.put p'.m rv hr hS Xp
    repeat first|refine Gp ?_|refine Gw λw hS=>?_|refine Gb λb w hS=>?_
    refine za (λh=>absurd h (by omega)) (λ_=>?_)
    repeat first|refine Gp ?_|refine Gw λw hS=>?_|refine Gb λb w hS=>?_
    refine za (λh=>absurd h (by omega)) (λ_=>?_)
    have fW:((gr s last s).map λa:Int=>Value.int .i64 a)[0+t*1]?=some (.int .i64 (last t)):=by rw[Nat.zero_add,Nat.mul_one,List.getElem?_map,CZ ht ht];rfl
    have jl:((gr s (λt=>(Wt t:Int)) s).map λa:Int=>Value.int .i64 a)[0+t*1]?=some (.int .i64 (Wt t:Int)):=by rw[Nat.zero_add,Nat.mul_one,List.getElem?_map,CZ ht ht];rfl
    rw[<- Pa]at hS
    refine zB ht ?_
    refine zX hS Xh fW ?_
    repeat first|refine Gp ?_|refine Gw λw hS=>?_|refine Gb λb w hS=>?_
    refine zB ht ?_
    refine zX hS Xh jl ?_
    repeat first|refine Gp ?_|refine Gw λw hS=>?_|refine Gb λb w hS=>?_
    refine za (λh=>absurd h (by omega)) (λ_=>?_)
    refine zB ht ?_
    refine y2 hS Xu fW rfl λw hS=>?_
    have Br:((gr s last s).map λa:Int=>Value.int .i64 a).set (0+t*1) (.int .i64 (ck+1))=(gr s (λj=>if j=t then ck+1 else last j) s).map λa:Int=>Value.int .i64 a:=by
     rw[Nat.zero_add,Nat.mul_one,<- VF (ck+1) ht,List.map_set]
    rw[Br]at hS
    rw[<- Pa]
    exact⟨rfl,aR hS⟩
   ·exact absurd hd EV
  ·rcases E4 with ⟨EV,_⟩|⟨_,rfl,rfl⟩
   ·exact absurd EV hd
   ·exact⟨rfl,aR hS⟩
 clear hS E4
 rintro v22 w ⟨da,hS⟩
 cases da
 rcases nF with ⟨Wg,jH⟩|⟨rfl,p4,p5,tl,th,hM⟩
 ·refine⟨λus w=>us=[]/\SL W (lS lb (gr s m8 s)::WC::app (kQ x H7 p') F) w,λ_ _=>0,⟨rfl,hS⟩,?_⟩
  clear hS
  rintro w ⟨_,hS⟩
  try simp only[app]at hS
  repeat first|refine Gp ?_|refine Gw λw hS=>?_|refine Gb λb w hS=>?_
  refine za (λh=>absurd h Wg) (λ_=>?_)
  repeat first|refine Gp ?_|refine Gw λw hS=>?_|refine Gb λb w hS=>?_
  exact⟨⟨i+1,p',m8,sL,H7,rfl,jH,Ey,aR hS⟩,by dsimp only;omega⟩
 obtain⟨r3,t3,e4,r4,t4,e5,r5,g4,g5,jH⟩:=hM
 have gK:∀q:dA,(q=p'\/q=p4\/q=p5)->q.Good 800000000/\q.k.d.ops<=80000/\p'.m.at_<=q.m.at_/\q.m.at_<=p'.m.at_+2 /\
   ((∃t,q.k.fp (q.m.at_+1)= .ok t/\(q.m.take t).2.2=0/\q.m.at_<=p'.m.at_+1/\(q.m.take t).1.at_=q.m.at_+1/\(({q with m:=(q.m.take t).1}:dA)=p4\/({q with m:=(q.m.take t).1}:dA)=p5))\/(q=p5/\q.k.fp (q.m.at_+1)= .error 5)):=by
  have a4:p4.m.at_=p'.m.at_+1:=by rw[e4];exact CY t3
  have a5:p5.m.at_=p4.m.at_+1:=by rw[e5];exact CY t4
  rintro q (rfl|rfl|rfl)
  ·exact⟨EY,W_,by omega,by omega,.inl ⟨tl,r3,t3,by omega,CY t3,.inl e4.symm⟩⟩
  ·exact⟨g4.1,g4.2,by omega,by omega,.inl ⟨th,r4,t4,by omega,CY t4,.inr e5.symm⟩⟩
  ·exact⟨g5.1,g5.2,by omega,by omega,.inr ⟨rfl,r5⟩⟩
 clear r3 t3 e4 r4 t4 e5 r5 g4 g5
 refine⟨λus w=>us=[]/\∃(q:dA) (H8:aW),(q=p'\/q=p4\/q=p5)/\H7.le H8/\SL W (lS lb (gr s m8 s)::WC::app (kQ x H8 q) F) w,
  λ_ w=>match w.cell? ⟨x.mp,3,none⟩ with|some (.int _ a)=>(p'.m.at_+5-a).toNat|_=>0,⟨rfl,p',H7,.inl rfl,aW.le_refl H7,hS⟩,?_⟩
 clear hS
 rintro w ⟨_,q,H8,hq,Ez,hS⟩
 obtain⟨BW,b8y,b77,b78,nF⟩:=gK q hq
 have gj:=dr.cellAt (SL.b6 hS (t:=.ob (dr x.mp x.wp H8 q.m)::lS lb (gr s m8 s)::WC::sx x::.pt x.pp (jc x.sp x.mp x.wp x.gp q.n) 201::.ob (fA x.gp q.d)::.ob (dU x.sp x.tp x.dp x.lp q.k)::.ob (b_ x.dp q.k.d)::.mem H8::F) Xi)
 have OY:=BW.tf (by decide)
 have q_:=BW.src.g
 have FO:=BW.wid
 have h58:=aW.le_trans Ey Ez
 have b79:=BW.jB
 try simp only[app]at hS
 repeat first|refine Gp ?_|refine Gw λw hS=>?_|refine Gb λb w hS=>?_
 refine za (λ_=>?_) (λh=>absurd rfl h)
 have jI:∃re,q.k.fp (q.m.at_+1)=re:=⟨_,rfl⟩
 obtain⟨re,jI⟩:=jI
 refine⟨λus w=>∃(ub:Nat) (H6:aW) (xt:jq),us=[dg ub,.int .i64 (GF re)]/\H8.le H6/\gO H6 xt (GG re)/\SL W (.pt ub (eI xt) 39::lS lb (gr s m8 s)::WC::app (kQ x H6 q) F) w,?_,?_⟩
 ·repeat first|refine Gp ?_|refine Gw λw hS=>?_|refine Gb λb w hS=>?_
  refine⟨?_,?_⟩
  ·refine Cc (Zl x.mp x.wp H8 q.m) ?_;clear hS
   (rintro v post ⟨rfl,rfl⟩ w hS;(try simp only[app]at hS);(repeat (first|refine Gp ?_|refine Gw λw hS=>?_|refine Gb λb w hS=>?_)))
   refine⟨?_,?_⟩
   ·refine Cc (zY x.sp x.tp x.dp x.lp q.k q_ (by omega) H8 (q.m.at_+1) (by omega)) ?_;clear hS
    rintro r post hq w hS
    obtain⟨x1,H9,o9,rfl,gL,rfl⟩:=hq.all
    rw[jI]at gL ⊢
    clear hq
    try simp only[app]at hS
    refine Gp ?_
    refine zI hS λb1 w hS=>?_
    refine zz (vs:=eI x1) hS Xu rfl rfl (mo (aI:=x1.aI) (kind:=x1.kind) (mark:=x1.mark) gL.cv.one gL.sv.one) λw hS=>?_
    have hS:=dr.gC (mp:=x.mp) (wp:=x.wp) (m:=q.m) o9 hS Xr
    exact⟨_,_,_,rfl,o9,gL,aR hS⟩
   ·refine Gb λb1 w hS=>?_
    refine Cc (zY x.sp x.tp x.dp x.lp q.k q_ (by omega) H8 (q.m.at_+1) (by omega)) ?_;clear hS
    rintro r post hq w hS
    obtain⟨x1,H9,o9,rfl,gL,rfl⟩:=hq.all
    rw[jI]at gL ⊢
    clear hq
    try simp only[app]at hS
    refine Gp ?_
    refine zz (vs:=eI x1) hS Xu rfl rfl (mo (aI:=x1.aI) (kind:=x1.kind) (mark:=x1.mark) gL.cv.one gL.sv.one) λw hS=>?_
    have hS:=dr.gC (mp:=x.mp) (wp:=x.wp) (m:=q.m) o9 hS Xr
    exact⟨_,_,_,rfl,o9,gL,aR hS⟩
  ·refine Gb λb1 w hS=>?_
   refine Cc (Zl x.mp x.wp H8 q.m) ?_;clear hS
   (rintro v post ⟨rfl,rfl⟩ w hS;(try simp only[app]at hS);(repeat (first|refine Gp ?_|refine Gw λw hS=>?_|refine Gb λb w hS=>?_)))
   refine Cc (zY x.sp x.tp x.dp x.lp q.k q_ (by omega) H8 (q.m.at_+1) (by omega)) ?_;clear hS
   rintro r post hq w hS
   obtain⟨x1,H9,o9,rfl,gL,rfl⟩:=hq.all
   rw[jI]at gL ⊢
   clear hq
   try simp only[app]at hS
   refine Gp ?_
   refine zz (vs:=eI x1) hS Xu rfl rfl (mo (aI:=x1.aI) (kind:=x1.kind) (mark:=x1.mark) gL.cv.one gL.sv.one) λw hS=>?_
   have hS:=dr.gC (mp:=x.mp) (wp:=x.wp) (m:=q.m) o9 hS Xr
   exact⟨_,_,_,rfl,o9,gL,aR hS⟩
 clear hS
 rintro AX C2 w ⟨ub,H9,xt,da,o9,hx,hS⟩
 cases da
 have NK:=aW.le_trans Ez o9
 try simp only[app]at hS
 repeat first|refine Gp ?_|refine Gw λw hS=>?_|refine Gb λb w hS=>?_
 refine za (λhe=>?_) (λhe=>?_)
 ·rcases nF with ⟨t,ht,_⟩|⟨rfl,_⟩
  ·rw[ht]at jI
   rw[<- jI]at he
   exact absurd rfl he
  ·repeat first|refine Gp ?_|refine Gw λw hS=>?_|refine Gb λb w hS=>?_
   exact⟨⟨i+1,q,m8,sL,H9,rfl,jH,aW.le_trans Ey NK,aR hS⟩,by dsimp only;omega⟩
 obtain⟨tx,Xg,ra,rP,kW,Fp⟩:∃t,q.k.fp (q.m.at_+1)= .ok t/\(q.m.take t).2.2=0/\q.m.at_<=p'.m.at_+1/\(q.m.take t).1.at_=q.m.at_+1/\(({q with m:=(q.m.take t).1}:dA)=p4\/({q with m:=(q.m.take t).1}:dA)=p5):=by
  rcases nF with h|⟨_,h⟩
  ·exact h
  ·rw[h]at jI
   rw[<- jI]at he
   exact absurd (show (5:Int)≠0 by decide) he
 rw[Xg]at jI
 subst jI
 have hx:gO H9 xt tx:=hx
 have jG:∀{w1 w2:World} {tJ:aW},w1.cell? ⟨x.mp,3,none⟩=some (.int .i64 q.m.at_)->H9.le tJ->SL W (.ob (dr x.mp x.wp tJ (q.m.take tx).1)::lS lb (gr s m8 s)::WC::sx x::.pt x.pp (jc x.sp x.mp x.wp x.gp q.n) 201::.ob (fA x.gp q.d)::.ob (dU x.sp x.tp x.dp x.lp q.k)::.ob (b_ x.dp q.k.d)::.mem tJ::F) w2 ->
   (([]:List Value)=[]/\∃(q:dA) (H8:aW),(q=p'\/q=p4\/q=p5)/\H7.le H8/\SL W (lS lb (gr s m8 s)::WC::app (kQ x H8 q) F) w2) /\
   (match w2.cell? ⟨x.mp,3,none⟩ with|some (.int _ a)=>(p'.m.at_+5-a).toNat|_=>0)<(match w1.cell? ⟨x.mp,3,none⟩ with|some (.int _ a)=>(p'.m.at_+5-a).toNat|_=>0):=λ{w1 w2 tJ} hc hh hS=>by
  have jl:=dr.cellAt hS
  rw[hc,jl]
  simp only
  rw[kW]
  exact⟨⟨trivial,_,tJ,.inr Fp,aW.le_trans NK hh,aR hS⟩,by omega⟩
 repeat first|refine Gp ?_|refine Gw λw hS=>?_|refine Gb λb w hS=>?_
 refine⟨?_,?_⟩
 ·refine Cc (yj x.mp x.wp H9 q.m OY.m xt tx hx (by omega)) ?_;clear hS
  rintro r post ⟨xi,tJ,EC,rfl,pw,rfl⟩ w hS
  rw[ra]
  try simp only[app]at hS
  refine Gp ?_
  refine zI hS λb1 w hS=>?_
  refine zz (vs:=kC xi) hS Xu rfl rfl (rJ pw) λw hS=>?_
  repeat first|refine Gp ?_|refine Gw λw hS=>?_|refine Gb λb w hS=>?_
  refine za (λh=>absurd rfl h) (λ_=>?_)
  exact jG gj EC (aR hS)
 ·refine Gb λb1 w hS=>?_
  repeat first|refine Gp ?_|refine Gw λw hS=>?_|refine Gb λb w hS=>?_
  refine Cc (yj x.mp x.wp H9 q.m OY.m xt tx hx (by omega)) ?_;clear hS
  rintro r post ⟨xi,tJ,EC,rfl,pw,rfl⟩ w hS
  rw[ra]
  try simp only[app]at hS
  refine Gp ?_
  refine zz (vs:=kC xi) hS Xu rfl rfl (rJ pw) λw hS=>?_
  repeat first|refine Gp ?_|refine Gw λw hS=>?_|refine Gb λb w hS=>?_
  refine za (λh=>absurd rfl h) (λ_=>?_)
  exact jG gj EC (aR hS)
theorem b9z(l:List Int)(rows:Int)(hl:l.length<=140737488351232)(v:Value)(w:World)(h:iq (nR .i64) w jn l v):
  Calls Tryz.prog 8 #[v,.int .i64 rows] w λe w'=>e= .returned (.bool true)/\Below w.heap.size w w':=
 (Y5 (Yc (aW.of w) v l rows h.ints hl)).calls
end Go.Proofs.YtfenmffiidchcaaGreat
