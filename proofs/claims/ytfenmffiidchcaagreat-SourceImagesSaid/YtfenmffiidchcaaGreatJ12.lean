/-
  Texts of the proof, joined: Own, OpT, CellsN, TxT, TxL, PlaySig, TxnsS, BytesT, Law12K, Law12I.
-/
import Derived.Test.YtfenmffiidchcaaGreatJ11
import Derived.Test.YtfenmffiidchcaaGreatRows
namespace Go.Proofs.YtfenmffiidchcaaGreat
set_option linter.unusedVariables false
theorem Tryz.own:ownKnob Tryz.prog.godebug=none:=by kernel_rfl
theorem Tryz.laidOut:laidOutB Tryz.prog=true:=by kernel_rfl
end Go.Proofs.YtfenmffiidchcaaGreat
namespace Go.Proofs.YtfenmffiidchcaaGreat
set_option linter.unusedVariables false
set_option maxRecDepth 100000
open Go.ChangeShapes Go.WideShapes Go.ChangeAt Go.RowKit
theorem RdS.cells1{α:Type}{T:GoT α}(hT:T.n=1){w:World}{xs:List α}{v:Value}(h:RdS T w Nob xs v):
  ∃vs:List Value,vs.length=xs.length∧RdSl (Heap.of w) 1 v xs.length vs∧∀i (h:i<xs.length) (h':i<vs.length),T.rd w Nob xs[i] [vs[i]]:=by
 obtain⟨a,cap,rfl,hc,hx⟩:=h.out
 have hex:∀i,∃u,∀h:i<xs.length,T.rd w Nob xs[i] [u]∧∃b off,a=some ⟨b,off,none⟩∧w.cell? ⟨b,off+i,none⟩=some u:=λi=>by
  by_cases hi:i<xs.length
  ·obtain⟨b,off,cs,ha,hr,hat⟩:=hx i hi
   have hl:=T.len hr
   rw[hT]at hl
   match cs,hl with
   | [u],_=>
    refine⟨u,λ_=>⟨hr,b,off,ha,?_⟩⟩
    have:=hat.2 0 u rfl
    rw[hT]at this
    simpa using this
  ·exact⟨undef,λh=>absurd h hi⟩
 obtain⟨f,hf⟩:=Classical.axiomOfChoice hex
 refine⟨(List.range xs.length).map f,by simp,⟨by simp,a,cap,rfl,hc,?_⟩,λi hi hi'=>?_⟩
 ·rcases Nat.eq_zero_or_pos xs.length with h0|h0
  ·exact .inl h0
  ·right
   obtain⟨_,b,off,rfl,_⟩:=hf 0 h0
   refine⟨b,off,rfl,λj u hu=>?_⟩
   have hj:j<xs.length:=by have:=(List.getElem?_eq_some_iff.1 hu).1;simpa using this
   have hu':f j=u:=by simpa [hj] using hu
   obtain⟨_,b',off',hab,hcell⟩:=hf j hj
   simp at hab
   obtain⟨rfl,rfl⟩:=hab
   rw[hu']at hcell
   unfold World.cell? at hcell
   unfold Heap.cell Heap.of
   simp only at hcell ⊢
   split at hcell
   ·rename_i c t f he';rw[he'];simpa using hcell
   ·cases hcell
 ·simpa using (hf i hi).1
theorem RdS.rows{α:Type}{T:GoT α}{enc:α→List Value}{w:World}{xss:List (List α)}{v:Value}(h:RdS (tSlice T) w Nob xss v)(he:∀{M x cs},T.rd w M x cs→cs=enc x)(hn:∀x,(enc x).length=T.n):
  ∃vs:List Value,vs.length=xss.length∧RdSl (Heap.of w) 1 v xss.length vs∧∀i (h:i<xss.length) (h':i<vs.length),RdSl (Heap.of w) T.n vs[i] xss[i].length (xss[i].map enc).flatten:=by
 obtain⟨vs,h1,h2,h3⟩:=RdS.cells1 rfl h
 refine⟨vs,h1,h2,λi hi hi'=>?_⟩
 obtain⟨u,hu,hr⟩:=h3 i hi hi'
 have:vs[i]=u:=by simpa using hu
 rw[this]
 exact hr.flat he hn
theorem RdS.cellsN{α:Type}{T:GoT α}{w:World}{xs:List α}{v:Value}(h:RdS T w Nob xs v)(hT:0<T.n):
  ∃css:List (List Value),css.length=xs.length∧RdSl (Heap.of w) T.n v xs.length css.flatten∧∀i (h:i<xs.length) (h':i<css.length),T.rd w Nob xs[i] css[i]:=by
 obtain⟨a,cap,rfl,hc,hx⟩:=h.out
 have hex:∀i,∃cs:List Value,cs.length=T.n∧∀h:i<xs.length,T.rd w Nob xs[i] cs∧∃b off,a=some ⟨b,off,none⟩∧At w Nob b (off+i*T.n) cs:=λi=>by
  by_cases hi:i<xs.length
  ·obtain⟨b,off,cs,ha,hr,hat⟩:=hx i hi
   exact⟨cs,T.len hr,λ_=>⟨hr,b,off,ha,hat⟩⟩
  ·exact⟨List.replicate T.n undef,by simp,λh=>absurd h hi⟩
 obtain⟨f,hf⟩:=Classical.axiomOfChoice hex
 have hlen:∀x∈(List.range xs.length).map f,x.length=T.n:=λx hx=>by
  obtain⟨i,_,rfl⟩:=List.mem_map.1 hx;exact (hf i).1
 have hfl:((List.range xs.length).map f).flatten.length=xs.length*T.n:=by rw[flatten_length (n:=T.n) _ hlen];simp
 refine⟨(List.range xs.length).map f,by simp,⟨hfl,a,cap,rfl,hc,?_⟩,λi hi hi'=>?_⟩
 ·rcases Nat.eq_zero_or_pos xs.length with h0|h0
  ·exact .inl h0
  ·right
   obtain⟨_,b,off,rfl,_⟩:=(hf 0).2 h0
   refine⟨b,off,rfl,λj u hu=>?_⟩
   have hj:=(List.getElem?_eq_some_iff.1 hu).1
   rw[hfl]at hj
   have hi:j / T.n<xs.length:=(Nat.div_lt_iff_lt_mul hT).2 hj
   obtain⟨_,b',off',hab,hat⟩:=(hf (j / T.n)).2 hi
   simp at hab
   obtain⟨rfl,rfl⟩:=hab
   have hmod:j % T.n<(f (j / T.n)).length:=by rw[(hf _).1];exact Nat.mod_lt _ hT
   have hg:=flatten_get (n:=T.n) ((List.range xs.length).map f) hlen (j / T.n) (j % T.n) (by simpa using hi) ((f (j / T.n))[j % T.n]'hmod) (by simp[List.getElem?_eq_getElem hmod])
   have hdm:j / T.n*T.n+j % T.n=j:=by rw[Nat.mul_comm];exact Nat.div_add_mod j T.n
   rw[hdm,hu]at hg
   have hu':u=(f (j / T.n))[j % T.n]:=Option.some.inj hg
   have:=hat.2 (j % T.n) u (by rw[hu'];exact List.getElem?_eq_getElem hmod)
   rw[show off+j / T.n*T.n+j % T.n=off+j by omega]at this
   unfold World.cell? at this
   unfold Heap.cell Heap.of
   simp only at this ⊢
   split at this
   ·rename_i c t f he';rw[he'];simpa using this
   ·cases this
 ·simpa using ((hf i).2 hi).1
def tChg:GoT Chg:=(tPair (tInt .i64) (tPair (tInt .i64) (tPair tBool (tPair tStr tUnit)))).via λo=>(o.table,o.key,o.gone,o.val,())
theorem tChg_rd{w:World}{M:MS}{o:Chg}{cs:List Value}(h:tChg.rd w M o cs):cs=encChg o:=by
 obtain⟨c1,c2,rfl,h1,c3,c4,rfl,h3,c5,c6,rfl,h5,c7,c8,rfl,h7,h8⟩:=h
 have h1':c1=[.int .i64 o.table]:=h1
 have h3':c3=[.int .i64 o.key]:=h3
 have h5':c5=[.bool o.gone]:=h5
 have h7':c7=[.string o.val]:=h7
 have h8':c8=[]:=h8
 subst h1' h3' h5' h7' h8'
 rfl
def tTxn:GoT TxnD:=(tPair (tInt .i64) (tPair (tInt .i64) (tPair (tSlice tChg) (tPair (tSlice tStr) (tPair (tInt .i64) tUnit))))).via λt=>(t.lsn,t.kind,t.changes,t.signals,t.mark,())
theorem tTxn_rd{w:World}{t:TxnD}{cs:List Value}(h:tTxn.rd w Nob t cs):∃x:TxV,cs=encTx x∧TxIs (Heap.of w) x t:=by
 obtain⟨c1,c2,rfl,h1,c3,c4,rfl,h3,c5,c6,rfl,h5,c7,c8,rfl,h7,c9,c10,rfl,h9,h10⟩:=h
 have h1':c1=[.int .i64 t.lsn]:=h1
 have h3':c3=[.int .i64 t.kind]:=h3
 obtain⟨cv,h5',hcv⟩:∃v,c5=[v]∧RdS tChg w Nob t.changes v:=h5
 obtain⟨sv,h7',hsv⟩:∃v,c7=[v]∧RdS tStr w Nob t.signals v:=h7
 have h9':c9=[.int .i64 t.mark]:=h9
 have h10':c10=[]:=h10
 subst h1' h3' h5' h7' h9' h10'
 refine⟨⟨t.lsn,t.kind,cv,sv,t.mark⟩,rfl,rfl,rfl,rfl,hcv.flat tChg_rd (λ_=>rfl),?_⟩
 have:=hsv.flat (enc:=λs=>[.string s]) (λh=>h) (λ_=>rfl)
 have e:(t.signals.map λs=>[Value.string s]).flatten=t.signals.map Value.string:=by
  induction t.signals with
  | nil=>rfl
  | cons a l ih=>simp[ih]
 rw[e]at this
 exact this
theorem RdTx.of{w:World}{l:List TxnD}{v:Value}(h:RdS tTxn w Nob l v):RdTx (Heap.of w) v l:=by
 obtain⟨css,h1,h2,h3⟩:=RdS.cellsN h (by decide)
 have hex:∀i,∃x:TxV,∀(h:i<l.length) (h':i<css.length),css[i]=encTx x∧TxIs (Heap.of w) x l[i]:=λi=>by
  by_cases hi:i<l.length
  ·obtain⟨x,e,hx⟩:=tTxn_rd (h3 i hi (by omega))
   exact⟨x,λ_ _=>⟨e,hx⟩⟩
  ·exact⟨⟨0,0,.slice none 0 0,.slice none 0 0,0⟩,λh=>absurd h hi⟩
 obtain⟨f,hf⟩:=Classical.axiomOfChoice hex
 refine⟨(List.range l.length).map f,by simp,?_,λi hi hi'=>by simpa using (hf i hi (by omega)).2⟩
 have e:css=((List.range l.length).map f).map encTx:=List.ext_getElem (by simp[h1]) λi g1 g2=>by simpa using (hf i (by omega) g1).1
 rw[e]at h2
 exact h2
def okChgA(c:Chg):Prop:=inK .i64 c.key
theorem Qt:Opens Tryz.prog 82 tChg okChgA:=
 ZP (Zw (λo:Chg=>(o.table,o.key,o.gone,o.val,())) (λx=>⟨x.1,x.2.1,x.2.2.1,x.2.2.2.1⟩) (λ_=>rfl)
  (yE Tryz.underlying82 (by kernel_rfl) (fields_cons (opens_int Tryz.underlying3 (by kernel_rfl)) rfl (fields_cons (opens_int Tryz.underlying2 (by kernel_rfl)) rfl (fields_cons (qm Tryz.underlying4 (by kernel_rfl)) rfl (fields_cons (Zv Tryz.underlying9 (by kernel_rfl)) rfl (fields_nil _ _))))))) (λo h=>h.2.1)
def okTxnA(t:TxnD):Prop:=inI64 t.kind∧t.changes.length≤140737488351232∧t.signals.length≤140737488351232∧∀c∈t.changes,inI64 c.key
theorem txnOpens:Opens Tryz.prog 39 tTxn okTxnA:=
 ZP (Zw (λt:TxnD=>(t.lsn,t.kind,t.changes,t.signals,t.mark,())) (λx=>⟨x.1,x.2.1,x.2.2.1,x.2.2.2.1,x.2.2.2.2.1⟩) (λ_=>rfl)
  (yE Tryz.underlying39 (by kernel_rfl) (fields_cons (opens_int Tryz.underlying2 (by kernel_rfl)) rfl (fields_cons (opens_int Tryz.underlying3 (by kernel_rfl)) rfl
   (fields_cons (opens_slice (b:=40) Qt Tryz.underlying35 (by kernel_rfl) (by kernel_rfl) (by decide)) rfl (fields_cons (opens_slice (b:=16) (Zv Tryz.underlying9 (by kernel_rfl)) Tryz.underlying37 (by kernel_rfl) (by kernel_rfl) (by decide)) rfl
    (fields_cons (opens_int Tryz.underlying2 (by kernel_rfl)) rfl (fields_nil _ _)))))))) (λt h=>by
   have h2:=h.2.2.1
   have h3:=h.2.2.2.1
   exact⟨inK_i64 h.2.1,by have:=h2.1;simp only at this;omega,by have:=h3.1;simp only at this;omega,λc hc=>inK_i64 (h2.2 c hc)⟩)
end Go.Proofs.YtfenmffiidchcaaGreat
namespace Go.Proofs.YtfenmffiidchcaaGreat
set_option linter.unusedVariables false
set_option maxRecDepth 100000
open Go.RowKit
theorem signal_spec2(s:ByteArray)(k:Nat)(h1:0<k)(h2:k≤8):SP 108 [.string s,.int .i64 k] [] (λv post=>∃r,v= .string r∧r.size≤40∧post=[]):=by
 intro W F w hS;apply vc108;unfold Vc108;(try simp only[app]at hS)
 refine Gp ?_
 refine zc (λh=>⟨_,⟨_,rfl,by decide,rfl⟩,hS⟩) (λh=>?_)
 have hsz:0<s.size:=by
  rcases Nat.eq_zero_or_pos s.size with h0|h0
  ·refine absurd ?_ h
   obtain⟨⟨l⟩⟩:=s
   have:l=[]:=List.eq_nil_of_length_eq_zero h0
   subst this;rfl
  ·exact h0
 refine s_strAt (j:=0) Tryz.underlying9 hsz ?_
 generalize s[0]=b
 have hb:b.toNat<256:=b.toNat_lt
 generalize b.toNat=n at hb
 refine ye (by omega) ?_
 refine ZE (by decide) ?_
 refine Gp ?_
 refine zc (λh3=>?_) (λh3=>?_)
 ·refine Cg (YM s 40) λw hS=>?_
  exact⟨_,⟨_,rfl,by unfold cutOf;rw[ByteArray.size_extract];omega,rfl⟩,hS⟩
 ·refine QE (by decide) (by rw[Int.tdiv_eq_ediv_of_nonneg (by omega)];omega) ?_
  rw[show (n:Int).tdiv 4=((n / 4:Nat):Int) by rw[Int.tdiv_eq_ediv_of_nonneg (by omega)];omega]
  refine QF h1 ?_
  have hk:n / 4 % k<8:=Nat.lt_of_lt_of_le (Nat.mod_lt _ h1) h2
  refine Gp ?_
  refine zI ?_
  generalize hx:IntKind.u8.wrap (48+((n / 4 % k:Nat):Int))=x
  refine zx hS (cells:=[.int .u8 x]) (by simp[fillL,zrow,Value.cells]) ?_
  clear hS;intro b1 w hS
  refine Yl hS .hd Tryz.underlying62 Tryz.underlying9 Tryz.underlying5 ?_
  generalize hA:(⟨#[UInt8.ofNat x.toNat]⟩:ByteArray)=A
  have hAs:A.size=1:=by rw[← hA];rfl
  refine qE (by rw[hAs];decide) ?_
  generalize hB:(⟨#[115,110,97,112,115,104,111,116,32]⟩:ByteArray)++A=B
  have hBs:B.size≤10:=by rw[← hB,ByteArray.size_append,hAs];decide
  refine ZE (by decide) ?_
  refine Gp ?_
  refine zc (λh4=>?_) (λh4=>⟨_,⟨_,rfl,by omega,rfl⟩,SL.into hS Xi⟩)
  refine qE (Nat.le_trans (Nat.add_le_add_right hBs _) (by decide)) ?_
  generalize hC:B++(⟨#[32]⟩:ByteArray)=C
  have hCs:C.size≤11:=by rw[← hC,ByteArray.size_append];exact Nat.add_le_add_right hBs _
  refine QE (by decide) (by rw[Int.tdiv_eq_ediv_of_nonneg (by omega)];omega) ?_
  rw[show (n:Int).tdiv 16=((n / 16:Nat):Int) by rw[Int.tdiv_eq_ediv_of_nonneg (by omega)];omega]
  refine ZE (by decide) ?_
  rw[show ((n / 16:Nat):Int).tmod 8=((n / 16 % 8:Nat):Int) by rw[Int.tmod_eq_emod_of_nonneg (by omega)];omega]
  refine Gp ?_
  refine zI ?_
  generalize IntKind.u8.wrap (49+((n / 16 % 8:Nat):Int))=y
  refine zx hS (cells:=[.int .u8 y]) (by simp[fillL,zrow,Value.cells]) ?_
  clear hS;intro b2 w hS
  refine Yl hS .hd Tryz.underlying62 Tryz.underlying9 Tryz.underlying5 ?_
  refine qE (Nat.le_trans (Nat.add_le_add_right hCs _) (by show 11+1≤1000000;decide)) ?_
  exact⟨_,⟨_,rfl,by rw[ByteArray.size_append];show C.size+1≤40;omega,rfl⟩,SL.into hS Xi⟩
theorem signals_spec2(H:Heap)(v:Value)(l:List ByteArray)(k most:Nat)(hv:RdSl H 1 v l.length (l.map Value.string))(h1:0<k)(h2:k≤8)(hm:most≤1000)(hn:l.length≤140737488351232):
  SP 38 [v,.int .i64 k,.int .i64 most] [.mem H] (λu post=>∃(H':Heap) (rs:List ByteArray),H.le H'∧rs.length≤most∧(∀s∈rs,s.size≤40)∧RdSl H' 1 u rs.length (rs.map Value.string)∧post=[.mem H']):=by
 intro W F w hS;apply vc38;unfold Vc38;(try simp only[app]at hS)
 refine⟨λus w=>∃(m:Nat) (u:Value) (rs:List ByteArray),us=[u,.int .i64 m]∧m≤l.length∧rs.length=m∧m≤most∧(∀s∈rs,s.size≤40)∧SL W (.ob (OwnSl u 9 1 m (rs.map Value.string))::.mem H::F) w,
  λus _=>match us with|[_,.int _ m]=>(l.length-m).toNat|_=>0,⟨0,_,[],rfl,by omega,rfl,by omega,by simp,OwnSl.nil hS⟩,?_⟩
 clear hS
 rintro v7 v8 w ⟨m,u,rs,hus,hml,hrs,hmm,h40,hS⟩
 cases hus
 have hend:∀w,SL W (.ob (OwnSl v7 9 1 m (rs.map Value.string))::.mem H::F) w →
   ∃post,(∃(H':Heap) (rs:List ByteArray),H.le H'∧rs.length≤most∧(∀s∈rs,s.size≤40)∧RdSl H' 1 v7 rs.length (rs.map Value.string)∧post=[.mem H'])∧SL W (app post F) w:=λw hS=>by
  obtain⟨H2,h12,hR,hS⟩:=zz (H:=H) (v:=v7) hS Xp
  rw[← hrs]at hR
  exact⟨_,⟨H2,rs,h12,by omega,h40,hR,rfl⟩,hS⟩
 refine zm hv ?_
 refine Gp ?_
 refine zc (λh=>?_) (λh=>hend w hS)
 refine Gp ?_
 refine zc (λh3=>?_) (λh3=>hend w hS)
 clear hend
 have hil:m<l.length:=by omega
 refine yL hS Xh hv hil (u:=.string l[m]) (by simp[hil]) ?_
 (refine Cc (signal_spec2 l[m] k h1 h2) ?_;clear hS)
 rintro v26 post ⟨r,rfl,hr40,rfl⟩ w hS
 refine Gm λb w hS=>?_
 refine zw (n:=m) (m:=1) hS Xr (src_pt0 (cs:=[.string r]) hS .hd rfl) rfl rfl (by simp[Value.oneCell']) (by omega) (by omega) ?_
 clear hS;intro u' w hS
 refine Gp ?_
 refine⟨⟨m+1,u',rs++[r],rfl,(by omega),(by simp[hrs]),(by omega),(λs hs=>by
  rcases List.mem_append.1 hs with hs|hs
  ·exact h40 s hs
  ·rw[List.mem_singleton.1 hs];exact hr40),(by rw[List.map_append,List.map_cons,List.map_nil];exact SL.into hS Xi)⟩,(by dsimp only;omega)⟩
def okTx(k:Nat)(t:TxnD):Prop:=t.changes.length≤5∧t.signals.length≤2∧∀c∈t.changes,1≤c.key∧c.key≤1099511627776∧0≤c.table∧c.table<k∧c.val.size≤32
def okTx2(k:Nat)(t:TxnD):Prop:=okTx k t∧(t.kind=1→t.mark=0)∧(∀c∈t.changes,c.gone=true→c.val=⟨#[]⟩)∧∀g∈t.signals,g.size≤40
theorem chOf_ok(c:Chg)(k:Nat)(h:0<k):1≤(chOf c k).key∧(chOf c k).key≤1099511627776∧0≤(chOf c k).table∧(chOf c k).table<k∧(chOf c k).val.size≤32:=by
 have h1:=md_lt c.key 1099511627776 (by decide)
 have h2:=md_lt c.key 12 (by decide)
 have h3:=md_lt c.table k h
 have h4:(chOf c k).val.size≤32:=by
  unfold chOf
  simp only
  split
  ·simp[ByteArray.size]
  ·unfold cutOf;rw[ByteArray.size_extract];omega
 refine⟨?_,?_,?_,?_,h4⟩<;>(unfold chOf;simp only;try split)<;>omega
theorem encTx_one{H:Heap}{x:TxV}{t:TxnD}(h:TxIs H x t):∀v∈encTx x,v.oneCell'=true:=by
 have h1:=h.cv.one
 have h2:=h.sv.one
 intro v hv
 simp only[encTx,List.mem_cons,List.mem_nil_iff,or_false]at hv
 rcases hv with rfl|rfl|rfl|rfl|rfl
 ·rfl
 ·rfl
 ·exact h1
 ·exact h2
 ·rfl
theorem fill_tx(x:TxV)(z:List Value)(hz:z.length=5):fillL (zrow z 1) [(0,5,agg (encTx x))]=some (encTx x):=by
 simp[fillL,zrow,Value.cells,encTx,hz]
theorem txns_spec2(H:Heap)(v:Value)(l:List TxnD)(k most:Nat)(hl:RdTx H v l)(h1:0<k)(h2:k≤8)(hm:most≤1000)(hn:l.length≤140737488351232)(hc:∀t∈l,t.changes.length≤140737488351232∧t.signals.length≤140737488351232∧inI64 t.kind):
  SP 29 [v,.int .i64 k,.int .i64 most] [.mem H] (λu post=>∃(H':Heap) (ts:List TxnD),H.le H'∧RdTx H' u ts∧ts.length=min l.length most∧(∀t∈ts,okTx2 k t)∧post=[.mem H']):=by
 intro W F w hS;apply vc29;unfold Vc29;(try simp only[app]at hS)
 obtain⟨xs,hxl,hxv,hxs⟩:=hl
 refine⟨λus w=>∃(m:Nat) (u:Value) (ys:List TxV) (ts:List TxnD) (H2:Heap),us=[u,.int .i64 m]∧m≤l.length∧m≤most∧ys.length=m∧ts.length=m∧H.le H2∧(∀i (h:i<ts.length) (h':i<ys.length),TxIs H2 ys[i] ts[i])∧(∀t∈ts,okTx2 k t) ∧
   SL W (.ob (OwnSl u 39 5 m ((ys.map encTx).flatten))::.mem H2::F) w,
  λus _=>match us with|[_,.int _ m]=>(l.length-m).toNat|_=>0,⟨0,_,[],[],H,rfl,by omega,by omega,rfl,rfl,Heap.le_refl H,λi h=>by simp at h,by simp,OwnSl.nil hS⟩,?_⟩
 clear hS
 rintro v7 v8 w ⟨m,u,ys,ts,H2,hus,hml,hmm,hys,hts,hH,hall,hok,hS⟩
 cases hus
 have hend:∀w,m=min l.length most→SL W (.ob (OwnSl v7 39 5 m ((ys.map encTx).flatten))::.mem H2::F) w →
   ∃post,(∃(H':Heap) (ts:List TxnD),H.le H'∧RdTx H' v7 ts∧ts.length=min l.length most∧(∀t∈ts,okTx2 k t)∧post=[.mem H'])∧SL W (app post F) w:=λw he hS=>by
  obtain⟨H3,h23,hR,hS⟩:=zz (H:=H2) (v:=v7) hS Xp
  exact⟨_,⟨H3,ts,Heap.le_trans hH h23,⟨ys,by omega,by rw[hts];exact hR,λi h h'=>(hall i h h').mono h23⟩,by omega,hok,rfl⟩,hS⟩
 refine zm hxv ?_
 refine Gp ?_
 refine zc (λh=>?_) (λh=>hend w (by omega) hS)
 refine Gp ?_
 refine zc (λh3=>?_) (λh3=>hend w (by omega) hS)
 clear hend
 have hil:m<l.length:=by omega
 have hix:m<xs.length:=by omega
 have hxm:=(hxs m hil hix).mono hH
 have hcm:=hc _ (List.getElem_mem hil)
 have hxi:xs[m]?=some xs[m]:=by simp[hix]
 have hxv2:=hxv.mono hH
 generalize xs[m]=x at hxm hxi
 generalize l[m]=t at hxm hcm
 obtain⟨tl,tk,tc,tsg,tm⟩:=t
 refine Gm λb w hS=>?_
 refine⟨λus w=>us=[]∧∃(y:TxV) (t':TxnD) (H3:Heap),H2.le H3∧TxIs H3 y t'∧okTx2 k t'∧SL W (.pt b (encTx y) 39::.ob (OwnSl v7 39 5 m ((ys.map encTx).flatten))::.mem H3::F) w,?_,?_⟩
 ·refine zH hS Xh encTx_len hxv2 hxi hil (i:=1) rfl ?_
  have e1:=hxm.kind
  have e2:=hxm.mark
  simp only at e1 e2
  rw[e1]
  refine Cg (yR tk 9 (by decide) (by decide)) λw hS=>?_
  refine zc (λh4=>?_) (λh4=>?_)
  ·refine zH hS Xh encTx_len hxv2 hxi hil (i:=1) rfl ?_
   rw[e1]
   have hk:=hcm.2.2
   unfold inI64 at hk
   simp only at hk
   have hq : -9223372036854775808≤tk.tdiv 9∧tk.tdiv 9≤9223372036854775807:=by
    by_cases h0:0≤tk
    ·rw[Int.tdiv_eq_ediv_of_nonneg h0];omega
    ·have e:=Int.neg_tdiv (-tk) 9
     rw[Int.neg_neg,Int.tdiv_eq_ediv_of_nonneg (a:=-tk) (by omega)]at e
     rw[e];omega
   refine QE (by decide) hq ?_
   have hm2:=md_lt (tk.tdiv 9) 2 (by decide)
   refine Cg (yR (tk.tdiv 9) 2 (by decide) (by decide)) λw hS=>?_
   refine zH hS Xh encTx_len hxv2 hxi hil (i:=4) rfl ?_
   rw[e2]
   have hm3:=md_lt tm 20 (by decide)
   refine Cg (yt tm 20 (by decide) (by decide)) λw hS=>?_
   refine⟨⟨(m:Int)+1,2+(md (tk.tdiv 9) 2:Nat),.slice none 0 0,.slice none 0 0,1+(md tm 20:Nat)⟩,⟨(m:Int)+1,2+(md (tk.tdiv 9) 2:Nat),[],[],1+(md tm 20:Nat)⟩,H2,Heap.le_refl H2,⟨rfl,rfl,rfl,RdSl.nil _ _,RdSl.nil _ _⟩,⟨⟨by simp,by simp,by simp⟩,λh=>by have h:(2:Int)+(md (tk.tdiv 9) 2:Nat)=1:=h;omega,by simp,by simp⟩,?_⟩
   simp only[encTx]
   exact SL.into hS Xi
  ·refine zH hS Xh encTx_len hxv2 hxi hil (i:=2) rfl ?_
   have hcv:=hxm.cv
   have hsv:=hxm.sv
   simp only at hcv hsv
   (refine Cc (Ys H2 x.cv tc k 5 hcv h1 h2 (by decide) hcm.1) ?_;clear hS)
   rintro u1 post ⟨H3,h23,hR,rfl⟩ w hS
   (try simp only[app]at hS)
   have o1:=hR.one
   refine Gn λw hS=>?_
   refine zH hS Xh encTx_len (hxv2.mono h23) hxi hil (i:=3) rfl ?_
   (refine Cc (signals_spec2 H3 x.sv tsg k 2 (hsv.mono h23) h1 h2 (by decide) hcm.2.1) ?_;clear hS)
   rintro u2 post ⟨H4,rs,h34,hrl,hr40,hR2,rfl⟩ w hS
   (try simp only[app]at hS)
   have o2:=hR2.one
   refine Gn λw hS=>?_
   refine⟨⟨(m:Int)+1,1,u1,u2,0⟩,⟨(m:Int)+1,1,(tc.take 5).map (chOf · k),rs,0⟩,H4,Heap.le_trans h23 h34,⟨rfl,rfl,rfl,hR.mono h34,hR2⟩,⟨⟨by simp only[List.length_map,List.length_take];omega,hrl,λc hc=>?_⟩,λ_=>rfl,λc hc hg=>?_,hr40⟩,?_⟩
   ·obtain⟨d,_,rfl⟩:=List.mem_map.1 hc
    exact chOf_ok d k h1
   ·obtain⟨d,_,rfl⟩:=List.mem_map.1 hc
    have hg:d.gone=true:=hg
    show (if d.gone then (⟨#[]⟩:ByteArray) else cutOf d.val 32)=⟨#[]⟩
    rw[if_pos hg]
   ·simp only[encTx]
    exact SL.into hS Xi
 ·clear hS
  rintro w ⟨-,y,t',H3,h23,hy,hyok,hS⟩
  have hone:=encTx_one hy
  refine yg hS Xh rfl ?_
  refine zx hS (fill_tx y [.int .i64 0,.int .i64 0,.slice none 0 0,.slice none 0 0,.int .i64 0] rfl) ?_
  clear hS;intro b2 w hS
  refine zw (n:=m) (m:=1) hS Xr (src_pt0 (cs:=encTx y) hS .hd rfl) rfl rfl hone (by omega) (by omega) ?_
  clear hS;intro u' w hS
  refine Gp ?_
  refine⟨⟨m+1,u',ys++[y],ts++[t'],H3,rfl,(by omega),(by omega),(by simp[hys]),(by simp[hts]),Heap.le_trans hH h23,λi hi hi'=>?_,λt ht=>?_,(by rw[flat_snoc];exact SL.into hS Xi)⟩,(by dsimp only;omega)⟩
  ·rcases Nat.lt_or_ge i m with him|him
   ·rw[List.getElem_append_left (by omega),List.getElem_append_left (by omega)];exact (hall i (by omega) (by omega)).mono h23
   ·have:i=m:=by simp at hi;omega
    subst this
    rw[List.getElem_append_right (by omega),List.getElem_append_right (by omega)];simpa using hy
  ·rcases List.mem_append.1 ht with ht|ht
   ·exact hok t ht
   ·simp at ht;subst ht;exact hyok
end Go.Proofs.YtfenmffiidchcaaGreat
namespace Go.Proofs.YtfenmffiidchcaaGreat
set_option linter.unusedVariables false
open Go.ChangeShapes Go.WideShapes Go.ChangeAt Go.RowKit
theorem flat_val{α:Type}(f:α→Value):∀l:List α,(l.map λx=>[f x]).flatten=l.map f
 | []=>rfl
 | x::l=>by simp only[List.map_cons,List.flatten_cons,flat_val f l];rfl
theorem RdS.ints{k:IntKind}{w:World}{l:List Int}{v:Value}(h:RdS (tInt k) w Nob l v):RdSl (Heap.of w) 1 v l.length (l.map (Value.int k)):=by
 have h2:=h.flat (enc:=λx=>[.int k x]) (λh=>h) (λ_=>rfl)
 rw[flat_val]at h2
 exact h2
def toB(x:Int):UInt8:=UInt8.ofNat x.toNat
theorem toB_c{x:Int}(h:inK .u8 x):u8c (toB x)= .int .u8 x:=by
 have:=inK_u8 h
 unfold u8c toB
 congr 1
 rw[UInt8.toNat_ofNat']
 omega
theorem toB_map:∀{l:List Int},(∀x∈l,inK .u8 x)→l.map (Value.int .u8)=(l.map toB).map u8c
 | [],_=>rfl
 | x::l,h=>by
  simp only[List.map_cons,toB_c (h x (.head _))]
  rw[toB_map λy hy=>h y (.tail _ hy)]
theorem RdSl.toB{H:Heap}{v:Value}{l:List Int}(h:RdSl H 1 v l.length (l.map (Value.int .u8)))(hok:∀x∈l,inK .u8 x):RdSl H 1 v (l.map toB).length ((l.map toB).map u8c):=by
 rw[toB_map hok]at h
 rw[List.length_map];exact h
end Go.Proofs.YtfenmffiidchcaaGreat
namespace Go.Proofs.YtfenmffiidchcaaGreat
set_option linter.unusedVariables false
set_option maxRecDepth 100000
open Go.RowKit
theorem may_client{c:List Chg}{sg:List ByteArray}{lsn:Int}(h1:1≤lsn∧lsn≤1099511627776)(h2:c.length≤16)(h3:∀x∈c,mayCh x 8=true)(h4:sg.length≤2)(h5:∀s∈sg,s.size≤40):mayTx ⟨lsn,1,c,sg,0⟩=true:=mayTx_iff.2 ⟨h1,.inl ⟨rfl,rfl,h2,h4,h3,h5⟩⟩
end Go.Proofs.YtfenmffiidchcaaGreat
namespace Go.Proofs.YtfenmffiidchcaaGreat
set_option linter.unusedVariables false
set_option maxRecDepth 100000
open Go.ChangeShapes Go.WideShapes Go.ChangeAt Go.RowKit
theorem RDO.new12{W w:World}{l:List Chunk}{H:Heap}{xp:Nat}(hS:SL W (.pt xp [.slice none 0 0,.int .i64 0,.bool false,.int .i64 0] 66::l) w):SL W (.ob (RDO H xp s00)::l) w:=by
 have hS:SL W (.ob (OwnSl (.slice none 0 0) 186 3 0 [])::.pt xp [.slice none 0 0,.int .i64 0,.bool false,.int .i64 0] 66::l) w:=OwnSl.nil hS
 exact (RDO.iff (H:=H) (s:=s00)).2 ⟨Value.slice none 0 0,[],⟨rfl,λy hy=>by cases hy⟩,SL.into hS (t:=.pt xp [.slice none 0 0,.int .i64 0,.bool false,.int .i64 0] 66::.ob (OwnSl (.slice none 0 0) 186 3 0 [])::l) Xi⟩
theorem Zp(H:Heap)(v0 v1 v2 v5:Value)(n lsn:Int)(l:List TxnD)(xa xb:List UInt8)(rows:List (List Row))(hl:RdTx H v0 l)(hA:RdSl H 1 v1 xa.length (xa.map u8c))(hB:RdSl H 1 v2 xb.length (xb.map u8c))(hT:RdTs H v5 rows)
  (hln:l.length≤140737488351232) (hlc:∀t∈l,t.changes.length≤140737488351232∧t.signals.length≤140737488351232∧inI64 t.kind) (hAn:xa.length≤140737488351232) (hBn:xb.length≤140737488351232) (hTn:rows.length≤140737488351232) (hTc:∀C∈rows,C.length≤140737488351232) :
  SP 5 [v0,v1,v2,.int .i64 n,.int .i64 lsn,v5] [.mem H] (λv post=>v= .bool true∧∃H' l,H.le H'∧post= .mem H'::l):=by
 intro W F w hS;apply vc5;unfold Vc5;(try simp only[app]at hS)
 have sz0:(64:Int)≤300:=by decide
 have sz1:(300:Int)≤65536:=by decide
 have e1:openS s00 2 300=(s00,.ok (k00 2 300)):=(sopen00 (n:=2) (by decide) (by decide) sz0 sz1).1
 have hng:∀d' g,openG s00 16 300=(d',.ok g)→(entsG g.segs).length≤50000:=λd' g h=>by rw[open00 (by decide) (by decide) sz0 sz1]at h;cases h;exact Nat.zero_le _
 (refine Cc (Yg) ?_;clear hS)
 rintro v post ⟨dp,rfl,rfl⟩ w hS
 (try simp only[app]at hS)
 refine y7 rfl ?_
 refine⟨_,rfl,zT hS ?_⟩
 clear hS;intro xp w hS
 have hS:=RDO.new12 (H:=H) hS
 refine Cg (Yr) λw hS=>?_
 refine zo ?_
 refine Gp ?_
 refine zo ?_
 (refine Cc (txns_spec2 H v0 l 2 8 hl (by decide) (by decide) (by decide) hln hlc) ?_;clear hS)
 rintro tv post ⟨H1,ts,h01,hts,htl,hto,rfl⟩ w hS
 (try simp only[app]at hS)
 have hS:=RDO.monoP (xp:=xp) h01 hS Xr
 (refine Cc (yX H1 xp s00 2 300 (N:=0) (s00_ok 0) (by decide) (λx hx=>by cases hx) (by decide) (by decide) hng) ?_;clear hS)
 rintro r post hq w hS
 rw[e1]at hq
 obtain⟨kp,rlp,rp,H2,h12,rfl,rfl⟩:=hq
 (try simp only[app]at hS);refine Gp ?_
 (refine Cc (Z1 H2 dp s00 2 300 (s00_ok 0) (by decide) (by decide) hng) ?_;clear hS)
 rintro r post hq w hS
 rw[e1]at hq
 obtain⟨sp,tp,lp,H3,h23,rfl,rfl⟩:=hq
 (try simp only[app]at hS)
 have hS:=RSrcO.monoP (k:=k00 2 300) h23 hS Xr
 have hS:=RDO.monoP (xp:=xp) h23 hS Xr
 refine Gp ?_
 refine zo ?_
 refine Gp ?_
 refine zc (λh=>absurd rfl h) (λ_=>?_)
 have hK0:=KIm.init sz0 sz1
 have h03:=Heap.le_trans h01 (Heap.le_trans h12 h23)
 have hS:SL W (.ob (SrcO sp tp dp lp (k00 2 300))::.ob (DskO dp (k00 2 300).d)::.ob (RSrcO kp xp rlp rp H3 (k00 2 300))::.ob (RDO H3 xp (k00 2 300).d)::.mem H3::F) w:=SL.into hS (t:=.ob (SrcO sp tp dp lp (k00 2 300))::.ob (DskO dp s00)::.ob (RSrcO kp xp rlp rp H3 (k00 2 300))::.ob (RDO H3 xp s00)::.mem H3::F) Xi
 generalize k00 2 300=k0 at *
 have hts:=hts.mono (Heap.le_trans h12 h23)
 obtain⟨xs0,hx0l,hx0,hx0s⟩:=hts
 have hA:=hA.mono h03
 have hB:=hB.mono h03
 have hT:=hT.mono h03
 refine⟨λus w=>∃(i j:Nat) (AL:List TxnD) (k:PSrc) (H4:Heap),us=[.int .i64 i]∧i≤ts.length∧j≤i∧KIm j AL k∧(AL.flatMap (·.changes)).length≤5*j∧H3.le H4∧SL W (.ob (SrcO sp tp dp lp k)::.ob (DskO dp k.d)::.ob (RSrcO kp xp rlp rp H4 k)::.ob (RDO H4 xp k.d)::.mem H4::F) w,
  λus _=>match us with|[.int _ i]=>(ts.length-i).toNat|_=>0,⟨0,0,[],k0,H3,rfl,by omega,by omega,hK0,by simp,Heap.le_refl _,hS⟩,?_⟩
 clear hS hK0 e1
 rintro v20 w ⟨i,j,AL,k,H4,hus,hi,hji,hK,hch,h34,hS⟩
 cases hus
 have hAl:=hK.len
 refine zm (hx0.mono h34) ?_
 refine Gp ?_
 refine zc (λhc=>?_) (λhc=>?_)
 ·have hil:i<ts.length:=by omega
  have hix:i<xs0.length:=by omega
  have hxi:=(hx0s i hil hix).mono h34
  have hok:=hto _ (List.getElem_mem hil)
  obtain⟨⟨k1,k2,k3⟩,k4,k5,k6⟩:=hok
  refine zH hS Xh encTx_len (hx0.mono h34) (x:=xs0[i]) (by simp[hix]) hil (i:=1) rfl ?_
  rw[hxi.kind]
  refine Gp ?_
  refine zc (λhk=>?_) (λhk=>?_)
  ·refine Gp ?_
   exact⟨⟨i+1,j,AL,k,H4,rfl,by omega,by omega,hK,hch,h34,hS⟩,by dsimp only;omega⟩
  ·generalize ts[i]=t at *
   have hcm:∀c∈t.changes,mayCh c 8=true:=λc hc=>by
    obtain⟨a1,a2,a3,a4,a5⟩:=k3 c hc
    exact mayCh_iff.2 ⟨a3,by omega,a1,a2,a5,k5 c hc⟩
   have hct:∀c∈t.changes,chgIn 2 c=true:=λc hc=>by
    obtain⟨a1,a2,a3,a4,a5⟩:=k3 c hc
    exact decide_eq_true ⟨a3,a4⟩
   have hmay:mayTx ⟨1,1,t.changes,t.signals,0⟩=true:=may_client ⟨by decide,by decide⟩ (by omega) hcm k2 k6
   have hfew:=hK.few.app (t:=⟨(j:Int)+1,1,t.changes,t.signals,0⟩) (may_client ⟨by omega,by omega⟩ (by omega) hcm k2 k6) (by show (j:Int)+1=_;omega) hct (by omega) (by show _+t.changes.length≤1000;omega)
   refine Gn λw hS=>?_
   refine yN (hx0.mono h34) hil λb o hb=>zO ?_
   refine y8 hS Xh (hb 3 xs0[i].sv (by omega) (flat_at encTx_len xs0 i 3 xs0[i] _ (List.getElem?_eq_getElem hix) rfl)) ?_
   refine yN (hx0.mono h34) hil λb o hb=>zO ?_
   refine y8 hS Xh (hb 2 xs0[i].cv (by omega) (flat_at encTx_len xs0 i 2 xs0[i] _ (List.getElem?_eq_getElem hix) rfl)) ?_
   (refine Cc (Z7 kp xp rlp rp k H4 xs0[i].sv xs0[i].cv t.signals t.changes hxi.sv hxi.cv (by omega) hK.ok (by omega) (by have:=hK.ops;omega)) ?_;clear hS)
   rintro r post ⟨m,H5,h45,rfl,rfl⟩ w hS
   (try simp only[app]at hS)
   have hxi:=hxi.mono h45
   have h35:=Heap.le_trans h34 h45
   refine Gn λw hS=>?_
   refine yN (hx0.mono h35) hil λb o hb=>zO ?_
   refine y8 hS Xh (hb 3 xs0[i].sv (by omega) (flat_at encTx_len xs0 i 3 xs0[i] _ (List.getElem?_eq_getElem hix) rfl)) ?_
   refine yN (hx0.mono h35) hil λb o hb=>zO ?_
   refine y8 hS Xh (hb 2 xs0[i].cv (by omega) (flat_at encTx_len xs0 i 2 xs0[i] _ (List.getElem?_eq_getElem hix) rfl)) ?_
   (refine Cc (Zo sp tp dp lp k H5 xs0[i].sv xs0[i].cv t.signals t.changes hxi.sv hxi.cv (by omega) hK.ok (by omega) (by have:=hK.ops;omega)) ?_;clear hS)
   rintro r post ⟨rfl,rfl⟩ w hS
   obtain⟨k',e,hK'⟩:=hK.commit (by omega) hmay hct hfew
   rw[e]at hS ⊢
   simp only at hS ⊢
   (try simp only[app]at hS);refine Gp ?_
   refine zc (λh=>absurd rfl h) (λ_=>?_)
   have hch2:((AL++[(⟨(j:Int)+1,1,t.changes,t.signals,0⟩:TxnD)]).flatMap (·.changes)).length≤5*(j+1):=by
    rw[List.flatMap_append,List.length_append]
    have:([(⟨(j:Int)+1,1,t.changes,t.signals,0⟩:TxnD)].flatMap (·.changes)).length=t.changes.length:=by simp
    omega
   refine Gp ?_
   exact⟨⟨i+1,j+1,_,k',H5,rfl,by omega,by omega,hK',hch2,h35,SL.into hS Xi⟩,by dsimp only;omega⟩
 ·have hj8:j≤8:=by omega
  have hA:=hA.mono h34
  have hB:=hB.mono h34
  have hT:=hT.mono h34
  have h04:=Heap.le_trans h03 h34
  clear hts hx0 hx0s hlc hto htl hc hl
  refine Cg (yt lsn 12 (by decide) (by decide)) λw hS=>?_
  (refine Cc (Y3 H4 v5 (md lsn 12) rows hT hTn hTc) ?_;clear hS)
  rintro r post hq w hS
  obtain⟨mv,H5,mb,me,h45,rfl,hM,hMn,hS⟩:∃mv H5 mb me,H4.le H5∧r= .tuple #[mv,.int .i64 me]∧RdSl H5 1 mv (List.length mb) (mb.map u8c)∧mb.length≤140737488351232∧SL W (.mem H5::.ob (SrcO sp tp dp lp k)::.ob (DskO dp k.d)::.ob (RSrcO kp xp rlp rp H5 k)::.ob (RDO H5 xp k.d)::F) w:=by
   unfold EncImQ at hq
   split at hq
   ·rename_i e _
    obtain⟨rfl,rfl⟩:=hq
    (try simp only[app]at hS)
    exact⟨_,H4,[],e,Heap.le_refl _,rfl,RdSl.nil _ _,by decide,SL.into hS Xi⟩
   ·rename_i bs hbs
    obtain⟨u,rfl,rfl⟩:=hq
    (try simp only[app]at hS)
    obtain⟨H5,h45,hR,hS⟩:=zz (H:=H4) (v:=u) hS Xp
    have hS:=RSrcO.monoP (k:=k) h45 hS Xr
    have hS:=RDO.monoP (xp:=xp) h45 hS Xr
    refine⟨u,H5,bs,0,h45,rfl,hR,?_,SL.into hS Xi⟩
    unfold encImg at hbs
    split at hbs
    ·rename_i hm
     cases hbs
     rw[recB_len];have:=imgB_len hm;omega
    ·cases hbs
  refine Gp ?_
  have hA:=hA.mono h45
  have hB:=hB.mono h45
  have h05:=Heap.le_trans h04 h45
  clear hq
  refine⟨λus w=>∃(va:Value) (ba:List UInt8),us=[va]∧RdSl H5 1 va ba.length (ba.map u8c)∧ba.length≤140737488351232∧SL W (.mem H5::.ob (SrcO sp tp dp lp k)::.ob (DskO dp k.d)::.ob (RSrcO kp xp rlp rp H5 k)::.ob (RDO H5 xp k.d)::F) w,?_,?_⟩
  ·refine Gp ?_
   refine zc (λ_=>?_) (λ_=>⟨v1,xa,rfl,hA,hAn,hS⟩)
   refine ZE (by decide) ?_
   refine Gp ?_
   exact zc (λ_=>⟨mv,mb,rfl,hM,hMn,hS⟩) (λ_=>⟨v1,xa,rfl,hA,hAn,hS⟩)
  clear hS
  rintro va w ⟨va,ba,hus,hRa,hba,hS⟩
  cases hus
  refine⟨λus w=>∃(vb:Value) (bb:List UInt8),us=[vb]∧RdSl H5 1 vb bb.length (bb.map u8c)∧bb.length≤140737488351232∧SL W (.mem H5::.ob (SrcO sp tp dp lp k)::.ob (DskO dp k.d)::.ob (RSrcO kp xp rlp rp H5 k)::.ob (RDO H5 xp k.d)::F) w,?_,?_⟩
  ·refine Gp ?_
   refine zc (λ_=>?_) (λ_=>⟨v2,xb,rfl,hB,hBn,hS⟩)
   refine ZE (by decide) ?_
   refine Gp ?_
   exact zc (λ_=>⟨mv,mb,rfl,hM,hMn,hS⟩) (λ_=>⟨v2,xb,rfl,hB,hBn,hS⟩)
  clear hS
  rintro vb w ⟨vb,bb,hus,hRb,hbb,hS⟩
  cases hus
  obtain⟨hP,f0,hP1,hP2,hP3,hP4,hP5⟩:=hK.pw (by omega)
  have hdk:=hK.ok.d
  have hop:=hK.ops
  have ha1:=hRa.one
  have hb1:=hRb.one
  have e0:fillL (zrow [.slice none 0 0] 2) [(0,1,va),(1,1,vb)]=some [va,vb]:=by
   simp[fillL,zrow,one_cells ha1,one_cells hb1]
  refine zx hS e0 ?_
  clear hS;intro lb w hS
  refine Gp ?_
  refine⟨λus w=>∃(i:Nat) (d:DS) (H6:Heap),us=[.int .i64 i]∧i≤2∧PW i k.g.segs d∧d.Ok 140737488351232∧d.ops≤80+i∧H5.le H6∧SL W (.ob (DskO dp d)::.ob (RDO H6 xp d)::.pt lb [va,vb] 62::.mem H6::F) w,
   λus _=>match us with|[.int _ i]=>(2-i).toNat|_=>0,⟨0,k.d,H5,rfl,by omega,hP,hdk.mono (by omega),by omega,Heap.le_refl _,SL.into hS Xi⟩,?_⟩
  clear hS hP hdk hop
  rintro v9 w ⟨i,d,H6,hus,hi,hP,hdk,hop,h56,hS⟩
  cases hus
  refine Gp ?_
  have hng2:∀d' g,openG d 16 300=(d',.ok g)→(entsG g.segs).length≤50000:=λd' g h=>by
   rw[hP.open hP1 hP2 hP3 hP4]at h;cases h;show (entsG k.g.segs).length≤_;omega
  refine zc (λhc2=>?_) (λhc2=>?_)
  ·obtain⟨cv,cb,hcv,hrc,hcl⟩:∃(cv:Value) (cb:List UInt8),[va,vb][i]?=some cv∧RdSl H5 1 cv cb.length (cb.map u8c)∧cb.length≤140737488351232:=by
    match i,(show i<2 by omega) with
    | 0,_=>exact⟨va,ba,rfl,hRa,hba⟩
    | 1,_=>exact⟨vb,bb,rfl,hRb,hbb⟩
   refine zG (show i<2 by omega) ?_
   rw[Nat.zero_add,Nat.mul_one]
   refine yb hS Xh hcv ?_
   refine Cg (yR n 7 (by decide) (by decide)) λw hS=>?_
   refine zc (λ_=>?_) (λ_=>?_)
   ·refine Gp ?_
    have hgn:=hP.get (f:=(0:Int)+i) (by omega) (by omega)
    have hb0:((getK PF.id d.R ((0:Int)+i)).getD (newF ((0:Int)+i))).b.length+cb.length≤140737488351232:=by
     rw[hgn]
     show (newF ((0:Int)+i)).b.length+cb.length≤_
     have:(newF ((0:Int)+i)).b.length=0:=rfl
     omega
    refine Cg (appendD_specF H6 dp d _ hdk (by omega) ((0:Int)+i) cv cb (hrc.mono h56) (by omega)) λw hS=>?_
    (refine Cc (rappend_specF H6 xp d _ hdk (by omega) (by have:=hdk.rlen;omega) ((0:Int)+i) cv cb (hrc.mono h56) (by omega)) ?_;clear hS)
    rintro _ post ⟨rfl,H7,h67,rfl⟩ w hS
    (try simp only[app]at hS);refine Gp ?_
    have hP2:=hP.append (f:=(0:Int)+i) (by omega) (by omega) cb
    have hP3:PW ((i+1:Nat):Int) k.g.segs (d.append ((0:Int)+i) cb).1:=by
     have e:(0:Int)+i+1=((i+1:Nat):Int):=by omega
     rw[← e];exact hP2
    have hops2:(d.append ((0:Int)+i) cb).1.ops≤d.ops+1:=by
     unfold DS.append
     split
     ·exact Nat.le_succ _
     ·exact Nat.le_refl _
    exact⟨⟨i+1,_,H7,rfl,by omega,hP3,hdk.appendF hb0,by omega,Heap.le_trans h56 h67,SL.into hS Xi⟩,by dsimp only;omega⟩
   ·refine Gp ?_
    exact⟨⟨i+1,d,H6,rfl,by omega,hP.mono (by omega) (by omega),hdk,by omega,h56,SL.into hS Xi⟩,by dsimp only;omega⟩
  ·have hwin:WinLe d.R 16 100000:=λx hx h1 h2=>by
    obtain⟨I,hI,hR⟩:=hP.ex
    rw[hR]at hx
    rcases List.mem_append.1 hx with hx|hx
    ·have:=hI x hx;have:=hP.n16;omega
    ·exact (hP.seg x hx).2.2
   have h06:=Heap.le_trans h05 h56
   (refine Cc (sopen_specW H6 dp d 2 300 hdk (by decide) hwin (by decide) (by omega) hng2) ?_;clear hS)
   rintro r post hq w hS
   have hdk2:(openS d 2 300).1=d:=by
    unfold openS
    rw[if_neg (by decide),hP.open hP1 hP2 hP3 hP4]
    simp only
    split
    ·rfl
    ·split
     ·rfl
     ·rfl
   have hR1:=hdk.rlen
   unfold OpenSQ at hq
   rw[hdk2]at hq
   cases hy:(openS d 2 300).2 with
   | error e=>
    rw[hy]at hq
    obtain⟨he,H7,h67,rfl,rfl⟩:=hq
    (try simp only[app]at hS)
    have hS:=RDO.monoP (xp:=xp) h67 hS Xr
    refine Gp ?_
    (refine Cc (yX H7 xp d 2 300 hdk (by decide) hwin (by decide) (by omega) hng2) ?_;clear hS)
    rintro r post hq w hS
    unfold ROpenSQ at hq
    rw[hdk2,hy]at hq
    obtain⟨_,H8,h78,rfl,rfl⟩:=hq
    (try simp only[app]at hS);refine Gp ?_
    refine zc (λh=>absurd rfl h) (λ_=>?_)
    refine Gp ?_
    refine zc (λh=>absurd rfl h) (λ_=>?_)
    (refine Cc (Zi H8 dp xp d _ hdk (by decide) (by omega)) ?_;clear hS)
    rintro _ post ⟨rfl,H9,h89,rfl⟩ w hS
    (try simp only[app]at hS);refine Gp ?_
    refine zo ?_
    refine Gp ?_
    refine zu ?_
    exact⟨_,⟨rfl,H9,[],Heap.le_trans h06 (Heap.le_trans h67 (Heap.le_trans h78 h89)),rfl⟩,SL.into hS Xi⟩
   | ok k2=>
    rw[hy]at hq
    obtain⟨sp2,tp2,lp2,H7,h67,rfl,rfl⟩:=hq
    (try simp only[app]at hS)
    have hS:=RDO.monoP (xp:=xp) h67 hS Xr
    refine Gp ?_
    (refine Cc (yX H7 xp d 2 300 hdk (by decide) hwin (by decide) (by omega) hng2) ?_;clear hS)
    rintro r post hq w hS
    unfold ROpenSQ at hq
    rw[hdk2,hy]at hq
    obtain⟨kp2,rlp2,rp2,H8,h78,rfl,rfl⟩:=hq
    (try simp only[app]at hS);refine Gp ?_
    refine zc (λh=>absurd rfl h) (λ_=>?_)
    refine Gp ?_
    refine zc (λh=>absurd rfl h) (λ_=>?_)
    (refine Cc (Zi H8 dp xp d _ hdk (by decide) (by omega)) ?_;clear hS)
    rintro _ post ⟨rfl,H9,h89,rfl⟩ w hS
    (try simp only[app]at hS)
    have hS:=RSrcO.monoP (k:=k2) h89 hS Xr
    refine Gp ?_
    refine zo ?_
    refine Gp ?_
    refine zo ?_
    have hoS:openS d ((2:Nat):Int) 300=((openS d 2 300).1,.ok k2):=by rw[← hy];rfl
    obtain⟨hl2,hr2⟩:=openS_rows hoS
    have hg2:=openS_g hoS
    rw[hP.open hP1 hP2 hP3 hP4]at hg2
    have hg3:k2.g=⟨k.g.segs,16,300,none⟩:=by simp only[Prod.mk.injEq,Except.ok.injEq]at hg2;exact hg2.2.symm
    have hgok:=openG_GOkW hwin (by omega) (openS_g hoS)
    have hen:(entsG k2.g.segs).length≤1000:=by rw[hg3];exact hP4
    (refine Cc (Yp sp2 tp2 dp lp2 kp2 xp rlp2 rp2 H9 k2 hgok (by decide) (λC hC=>(hr2 C hC).1.sorted) (λC hC=>by have:=(hr2 C hC).2;omega)) ?_;clear hS)
    rintro _ post ⟨rfl,HA,h9A,rfl⟩ w hS
    (try simp only[app]at hS)
    exact⟨_,⟨rfl,HA,[],Heap.le_trans h06 (Heap.le_trans h67 (Heap.le_trans h78 (Heap.le_trans h89 h9A))),rfl⟩,SL.into hS Xi⟩
def tRow:GoT Row:=(tPair (tInt .i64) (tPair tStr tUnit)).via λr=>(r.key,r.val,())
theorem tRow_rd{w:World}{M:MS}{r:Row}{cs:List Value}(h:tRow.rd w M r cs):cs=encRow r:=by
 obtain⟨c1,c2,rfl,h1,c3,c4,rfl,h3,h4⟩:=h
 have h1':c1=[.int .i64 r.key]:=h1
 have h3':c3=[.string r.val]:=h3
 have h4':c4=[]:=h4
 subst h1' h3' h4'
 rfl
theorem rowOpens:Opens Tryz.prog 52 tRow (λ_=>True):=
 ZP (Zw (λr:Row=>(r.key,r.val,())) (λx=>⟨x.1,x.2.1⟩) (λ_=>rfl)
  (yE Tryz.underlying52 (by kernel_rfl) (fields_cons (opens_int Tryz.underlying2 (by kernel_rfl)) rfl (fields_cons (Zv Tryz.underlying9 (by kernel_rfl)) rfl (fields_nil _ _))))) (λ_ _=>trivial)
theorem RdTs.of{w:World}{l:List (List Row)}{v:Value}(h:RdS (tSlice tRow) w Nob l v):RdTs (Heap.of w) v l:=by
 obtain⟨vs,h1,h2,h3⟩:=RdS.rows (enc:=encRow) h tRow_rd (λ_=>rfl)
 refine⟨vs,h2,h1,λi u C hu hC=>?_⟩
 obtain⟨hi,rfl⟩:=List.getElem?_eq_some_iff.1 hu
 obtain⟨hi2,rfl⟩:=List.getElem?_eq_some_iff.1 hC
 exact h3 i hi2 hi
theorem sourceImages_law(l:List TxnD)(xa xb:List Int)(n lsn:Int)(rows:List (List Row))(ok:∀t∈l,okTxnA t)(okl:l.length≤140737488351232)(oka:∀x∈xa,inK .u8 x)(okb:∀x∈xb,inK .u8 x)(na:xa.length≤140737488351232)(nb:xb.length≤140737488351232)(nr:rows.length≤140737488351232)(nc:∀C∈rows,C.length≤140737488351232)
  (v0 v1 v2 v5:Value) (w:World) (hl:RdS tTxn w Nob l v0) (ha:RdS (tInt .u8) w Nob xa v1) (hb:RdS (tInt .u8) w Nob xb v2) (hr:RdS (tSlice tRow) w Nob rows v5) :
  Calls Tryz.prog 5 #[v0,v1,v2,.int .i64 n,.int .i64 lsn,v5] w λe w'=>e= .returned (.bool true)∧Below w.heap.size w w':=
 (YR (Zp (Heap.of w) v0 v1 v2 v5 n lsn l (xa.map toB) (xb.map toB) rows (RdTx.of hl) (ha.ints.toB oka) (hb.ints.toB okb) (RdTs.of hr) okl (λt ht=>⟨(ok t ht).2.1,(ok t ht).2.2.1,(ok t ht).1⟩) (by rw[List.length_map];exact na) (by rw[List.length_map];exact nb) nr nc)).calls
end Go.Proofs.YtfenmffiidchcaaGreat
