/-
  Texts of the proof, joined: Own, OpT, CellsN, TxT, TxL, PlaySig, TxnsS, BytesT, Law12K, Law12C, Law12F.
-/
import Derived.Test.YtfenmffiidchcaaGreatJ10
import Derived.Test.YtfenmffiidchcaaGreatRows
namespace Go.Proofs.YtfenmffiidchcaaGreat
set_option linter.unusedVariables false
theorem Tryz.own:ownKnob Tryz.prog.godebug=none:=by kernel_rfl
theorem Tryz.laidOut:laidOutB Tryz.prog=true:=by kernel_rfl
end Go.Proofs.YtfenmffiidchcaaGreat
namespace Go.Proofs.YtfenmffiidchcaaGreat
set_option linter.unusedVariables false
set_option maxRecDepth 100000
open Go.ChangeShapes Go.WideShapes Go.ChangeAt Go.RowKit
theorem RdS.cells1{α:Type}{T:GoT α}(hT:T.n=1){w:World}{xs:List α}{v:Value}(h:RdS T w Nob xs v):
  ∃vs:List Value,vs.length=xs.length∧RdSl (Heap.of w) 1 v xs.length vs∧∀i (h:i<xs.length) (h':i<vs.length),T.rd w Nob xs[i] [vs[i]]:=by
 obtain⟨a,cap,rfl,hc,hx⟩:=h.out
 have hex:∀i,∃u,∀h:i<xs.length,T.rd w Nob xs[i] [u]∧∃b off,a=some ⟨b,off,none⟩∧w.cell? ⟨b,off+i,none⟩=some u:=λi=>by
  by_cases hi:i<xs.length
  ·obtain⟨b,off,cs,ha,hr,hat⟩:=hx i hi
   have hl:=T.len hr
   rw[hT]at hl
   match cs,hl with
   | [u],_=>
    refine⟨u,λ_=>⟨hr,b,off,ha,?_⟩⟩
    have:=hat.2 0 u rfl
    rw[hT]at this
    simpa using this
  ·exact⟨undef,λh=>absurd h hi⟩
 obtain⟨f,hf⟩:=Classical.axiomOfChoice hex
 refine⟨(List.range xs.length).map f,by simp,⟨by simp,a,cap,rfl,hc,?_⟩,λi hi hi'=>?_⟩
 ·rcases Nat.eq_zero_or_pos xs.length with h0|h0
  ·exact .inl h0
  ·right
   obtain⟨_,b,off,rfl,_⟩:=hf 0 h0
   refine⟨b,off,rfl,λj u hu=>?_⟩
   have hj:j<xs.length:=by have:=(List.getElem?_eq_some_iff.1 hu).1;simpa using this
   have hu':f j=u:=by simpa [hj] using hu
   obtain⟨_,b',off',hab,hcell⟩:=hf j hj
   simp at hab
   obtain⟨rfl,rfl⟩:=hab
   rw[hu']at hcell
   unfold World.cell? at hcell
   unfold Heap.cell Heap.of
   simp only at hcell ⊢
   split at hcell
   ·rename_i c t f he';rw[he'];simpa using hcell
   ·cases hcell
 ·simpa using (hf i hi).1
theorem RdS.rows{α:Type}{T:GoT α}{enc:α→List Value}{w:World}{xss:List (List α)}{v:Value}(h:RdS (tSlice T) w Nob xss v)(he:∀{M x cs},T.rd w M x cs→cs=enc x)(hn:∀x,(enc x).length=T.n):
  ∃vs:List Value,vs.length=xss.length∧RdSl (Heap.of w) 1 v xss.length vs∧∀i (h:i<xss.length) (h':i<vs.length),RdSl (Heap.of w) T.n vs[i] xss[i].length (xss[i].map enc).flatten:=by
 obtain⟨vs,h1,h2,h3⟩:=RdS.cells1 rfl h
 refine⟨vs,h1,h2,λi hi hi'=>?_⟩
 obtain⟨u,hu,hr⟩:=h3 i hi hi'
 have:vs[i]=u:=by simpa using hu
 rw[this]
 exact hr.flat he hn
theorem RdS.cellsN{α:Type}{T:GoT α}{w:World}{xs:List α}{v:Value}(h:RdS T w Nob xs v)(hT:0<T.n):
  ∃css:List (List Value),css.length=xs.length∧RdSl (Heap.of w) T.n v xs.length css.flatten∧∀i (h:i<xs.length) (h':i<css.length),T.rd w Nob xs[i] css[i]:=by
 obtain⟨a,cap,rfl,hc,hx⟩:=h.out
 have hex:∀i,∃cs:List Value,cs.length=T.n∧∀h:i<xs.length,T.rd w Nob xs[i] cs∧∃b off,a=some ⟨b,off,none⟩∧At w Nob b (off+i*T.n) cs:=λi=>by
  by_cases hi:i<xs.length
  ·obtain⟨b,off,cs,ha,hr,hat⟩:=hx i hi
   exact⟨cs,T.len hr,λ_=>⟨hr,b,off,ha,hat⟩⟩
  ·exact⟨List.replicate T.n undef,by simp,λh=>absurd h hi⟩
 obtain⟨f,hf⟩:=Classical.axiomOfChoice hex
 have hlen:∀x∈(List.range xs.length).map f,x.length=T.n:=λx hx=>by
  obtain⟨i,_,rfl⟩:=List.mem_map.1 hx;exact (hf i).1
 have hfl:((List.range xs.length).map f).flatten.length=xs.length*T.n:=by rw[flatten_length (n:=T.n) _ hlen];simp
 refine⟨(List.range xs.length).map f,by simp,⟨hfl,a,cap,rfl,hc,?_⟩,λi hi hi'=>?_⟩
 ·rcases Nat.eq_zero_or_pos xs.length with h0|h0
  ·exact .inl h0
  ·right
   obtain⟨_,b,off,rfl,_⟩:=(hf 0).2 h0
   refine⟨b,off,rfl,λj u hu=>?_⟩
   have hj:=(List.getElem?_eq_some_iff.1 hu).1
   rw[hfl]at hj
   have hi:j / T.n<xs.length:=(Nat.div_lt_iff_lt_mul hT).2 hj
   obtain⟨_,b',off',hab,hat⟩:=(hf (j / T.n)).2 hi
   simp at hab
   obtain⟨rfl,rfl⟩:=hab
   have hmod:j % T.n<(f (j / T.n)).length:=by rw[(hf _).1];exact Nat.mod_lt _ hT
   have hg:=flatten_get (n:=T.n) ((List.range xs.length).map f) hlen (j / T.n) (j % T.n) (by simpa using hi) ((f (j / T.n))[j % T.n]'hmod) (by simp[List.getElem?_eq_getElem hmod])
   have hdm:j / T.n*T.n+j % T.n=j:=by rw[Nat.mul_comm];exact Nat.div_add_mod j T.n
   rw[hdm,hu]at hg
   have hu':u=(f (j / T.n))[j % T.n]:=Option.some.inj hg
   have:=hat.2 (j % T.n) u (by rw[hu'];exact List.getElem?_eq_getElem hmod)
   rw[show off+j / T.n*T.n+j % T.n=off+j by omega]at this
   unfold World.cell? at this
   unfold Heap.cell Heap.of
   simp only at this ⊢
   split at this
   ·rename_i c t f he';rw[he'];simpa using this
   ·cases this
 ·simpa using ((hf i).2 hi).1
def tChg:GoT Chg:=(tPair (tInt .i64) (tPair (tInt .i64) (tPair tBool (tPair tStr tUnit)))).via λo=>(o.table,o.key,o.gone,o.val,())
theorem tChg_rd{w:World}{M:MS}{o:Chg}{cs:List Value}(h:tChg.rd w M o cs):cs=encChg o:=by
 obtain⟨c1,c2,rfl,h1,c3,c4,rfl,h3,c5,c6,rfl,h5,c7,c8,rfl,h7,h8⟩:=h
 have h1':c1=[.int .i64 o.table]:=h1
 have h3':c3=[.int .i64 o.key]:=h3
 have h5':c5=[.bool o.gone]:=h5
 have h7':c7=[.string o.val]:=h7
 have h8':c8=[]:=h8
 subst h1' h3' h5' h7' h8'
 rfl
def tTxn:GoT TxnD:=(tPair (tInt .i64) (tPair (tInt .i64) (tPair (tSlice tChg) (tPair (tSlice tStr) (tPair (tInt .i64) tUnit))))).via λt=>(t.lsn,t.kind,t.changes,t.signals,t.mark,())
theorem tTxn_rd{w:World}{t:TxnD}{cs:List Value}(h:tTxn.rd w Nob t cs):∃x:TxV,cs=encTx x∧TxIs (Heap.of w) x t:=by
 obtain⟨c1,c2,rfl,h1,c3,c4,rfl,h3,c5,c6,rfl,h5,c7,c8,rfl,h7,c9,c10,rfl,h9,h10⟩:=h
 have h1':c1=[.int .i64 t.lsn]:=h1
 have h3':c3=[.int .i64 t.kind]:=h3
 obtain⟨cv,h5',hcv⟩:∃v,c5=[v]∧RdS tChg w Nob t.changes v:=h5
 obtain⟨sv,h7',hsv⟩:∃v,c7=[v]∧RdS tStr w Nob t.signals v:=h7
 have h9':c9=[.int .i64 t.mark]:=h9
 have h10':c10=[]:=h10
 subst h1' h3' h5' h7' h9' h10'
 refine⟨⟨t.lsn,t.kind,cv,sv,t.mark⟩,rfl,rfl,rfl,rfl,hcv.flat tChg_rd (λ_=>rfl),?_⟩
 have:=hsv.flat (enc:=λs=>[.string s]) (λh=>h) (λ_=>rfl)
 have e:(t.signals.map λs=>[Value.string s]).flatten=t.signals.map Value.string:=by
  induction t.signals with
  | nil=>rfl
  | cons a l ih=>simp[ih]
 rw[e]at this
 exact this
theorem RdTx.of{w:World}{l:List TxnD}{v:Value}(h:RdS tTxn w Nob l v):RdTx (Heap.of w) v l:=by
 obtain⟨css,h1,h2,h3⟩:=RdS.cellsN h (by decide)
 have hex:∀i,∃x:TxV,∀(h:i<l.length) (h':i<css.length),css[i]=encTx x∧TxIs (Heap.of w) x l[i]:=λi=>by
  by_cases hi:i<l.length
  ·obtain⟨x,e,hx⟩:=tTxn_rd (h3 i hi (by omega))
   exact⟨x,λ_ _=>⟨e,hx⟩⟩
  ·exact⟨⟨0,0,.slice none 0 0,.slice none 0 0,0⟩,λh=>absurd h hi⟩
 obtain⟨f,hf⟩:=Classical.axiomOfChoice hex
 refine⟨(List.range l.length).map f,by simp,?_,λi hi hi'=>by simpa using (hf i hi (by omega)).2⟩
 have e:css=((List.range l.length).map f).map encTx:=List.ext_getElem (by simp[h1]) λi g1 g2=>by simpa using (hf i (by omega) g1).1
 rw[e]at h2
 exact h2
def okChgA(c:Chg):Prop:=inK .i64 c.key
theorem chgOpens:Opens Tryz.prog 82 tChg okChgA:=
 ZR (Zq (λo:Chg=>(o.table,o.key,o.gone,o.val,())) (λx=>⟨x.1,x.2.1,x.2.2.1,x.2.2.2.1⟩) (λ_=>rfl)
  (yC Tryz.underlying82 (by kernel_rfl) (fields_cons (opens_int Tryz.underlying3 (by kernel_rfl)) rfl (fields_cons (opens_int Tryz.underlying2 (by kernel_rfl)) rfl (fields_cons (Ye Tryz.underlying4 (by kernel_rfl)) rfl (fields_cons (Zp Tryz.underlying9 (by kernel_rfl)) rfl (fields_nil _ _))))))) (λo h=>h.2.1)
def okTxnA(t:TxnD):Prop:=inI64 t.kind∧t.changes.length≤140737488351232∧t.signals.length≤140737488351232∧∀c∈t.changes,inI64 c.key
theorem txnOpens:Opens Tryz.prog 39 tTxn okTxnA:=
 ZR (Zq (λt:TxnD=>(t.lsn,t.kind,t.changes,t.signals,t.mark,())) (λx=>⟨x.1,x.2.1,x.2.2.1,x.2.2.2.1,x.2.2.2.2.1⟩) (λ_=>rfl)
  (yC Tryz.underlying39 (by kernel_rfl) (fields_cons (opens_int Tryz.underlying2 (by kernel_rfl)) rfl (fields_cons (opens_int Tryz.underlying3 (by kernel_rfl)) rfl
   (fields_cons (opens_slice (b:=40) chgOpens Tryz.underlying35 (by kernel_rfl) (by kernel_rfl) (by decide)) rfl (fields_cons (opens_slice (b:=16) (Zp Tryz.underlying9 (by kernel_rfl)) Tryz.underlying37 (by kernel_rfl) (by kernel_rfl) (by decide)) rfl
    (fields_cons (opens_int Tryz.underlying2 (by kernel_rfl)) rfl (fields_nil _ _)))))))) (λt h=>by
   have h2:=h.2.2.1
   have h3:=h.2.2.2.1
   exact⟨inK_i64 h.2.1,by have:=h2.1;simp only at this;omega,by have:=h3.1;simp only at this;omega,λc hc=>inK_i64 (h2.2 c hc)⟩)
end Go.Proofs.YtfenmffiidchcaaGreat
namespace Go.Proofs.YtfenmffiidchcaaGreat
set_option linter.unusedVariables false
set_option maxRecDepth 100000
open Go.RowKit
def RdCs(H:Heap)(v:Value)(ls:List (List Chg)):Prop:=∃vs:List Value,vs.length=ls.length∧RdSl H 1 v ls.length vs∧∀i (h:i<ls.length) (h':i<vs.length),RdSl H 4 vs[i] ls[i].length (ls[i].map encChg).flatten
theorem RdCs.mono{H H':Heap}(hh:H.le H'){v:Value}{ls:List (List Chg)}(h:RdCs H v ls):RdCs H' v ls:=by
 obtain⟨vs,h1,h2,h3⟩:=h
 exact⟨vs,h1,h2.mono hh,λi hi hi'=>(h3 i hi hi').mono hh⟩
theorem s_lenCs{H:Heap}{v:Value}{ls:List (List Chg)}{K:Value→Prop}(h:RdCs H v ls)(k:K (.int .i64 ls.length)):zh v K:=by
 obtain⟨vs,_,h1,_⟩:=h
 exact zp h1 k
theorem s_getCs{W w:World}{l:List Chunk}{H:Heap}{v:Value}{ls:List (List Chg)}{j:Nat}{k:IntKind}{K:Value→Prop}(hS:SL W l w)(hm:Has (.mem H) l)(h:RdCs H v ls)(hj:j<ls.length)
  (hK:∀u,RdSl H 4 u ls[j].length (ls[j].map encChg).flatten→K u):zj 1 v (.int k (j:Int)) λp=>HLd p w K:=by
 obtain⟨vs,hl,h1,h2⟩:=h
 have hu:vs[j]?=some (vs[j]'(by omega)):=List.getElem?_eq_getElem (by omega)
 exact Zb hS hm h1 hj hu (hK _ (h2 j hj (by omega)))
def TxsIs(H:Heap)(xs:List TxV)(l:List TxnD):Prop:=xs.length=l.length∧∀i (h:i<l.length) (h':i<xs.length),TxIs H xs[i] l[i]
theorem TxsIs.nil(H:Heap):TxsIs H [] []:=⟨rfl,λi h=>by simp at h⟩
theorem TxsIs.mono{H H':Heap}(hh:H.le H'){xs:List TxV}{l:List TxnD}(h:TxsIs H xs l):TxsIs H' xs l:=⟨h.1,λi h1 h2=>(h.2 i h1 h2).mono hh⟩
theorem TxsIs.snoc{H:Heap}{xs:List TxV}{l:List TxnD}(h:TxsIs H xs l){x:TxV}{t:TxnD}(hx:TxIs H x t):TxsIs H (xs++[x]) (l++[t]):=by
 have hl:=h.1
 refine⟨by rw[List.length_append,List.length_append,hl];rfl,λi h1 h2=>?_⟩
 rcases Nat.lt_or_ge i xs.length with hi|hi
 ·rw[List.getElem_append_left hi,List.getElem_append_left (by omega)]
  exact h.2 i (by omega) hi
 ·have hie:i=xs.length:=by rw[List.length_append,List.length_singleton]at h2;omega
  subst hie
  rw[List.getElem_append_right (Nat.le_refl _),List.getElem_append_right (by omega)]
  simp only[Nat.sub_self,show xs.length-l.length=0 by omega,List.getElem_singleton]
  exact hx
theorem TxsIs.rd{H:Heap}{v:Value}{xs:List TxV}{l:List TxnD}(h:TxsIs H xs l)(hv:RdSl H 5 v xs.length (xs.map encTx).flatten):RdTx H v l:=⟨xs,h.1,by rw[← h.1];exact hv,h.2⟩
abbrev TxO(v:Value)(xs:List TxV):Chunk:=.ob (OwnSl v 39 5 xs.length (xs.map encTx).flatten)
theorem s_appTx{W w:World}{l F:List Chunk}{v:Value}{xs:List TxV}{x:TxV}{b:Nat}{K:Value→World→Prop}(hS:SL W l w)(hr:Rem (TxO v xs) l F)(hm:Has (.pt b (encTx x) 39) l)(h1:∀v∈encTx x,v.oneCell'=true)(hn:xs.length≤1000000)
  (h:∀v' w',SL W (TxO v' (xs++[x])::F) w'→K v' w'):zt 5 72 [.int .i64 0,.int .i64 0,.slice none 0 0,.slice none 0 0,.int .i64 0] 39 v (.slice (some ⟨b,0,none⟩) 1 1) w K:=by
 refine zE (n:=xs.length) (m:=1) hS hr (src_pt0 hS hm rfl) rfl rfl h1 (by omega) (by omega) λv' w' hS=>h v' w' ?_
 have e:(xs.map encTx).flatten++encTx x=((xs++[x]).map encTx).flatten:=by simp
 rw[e]at hS
 exact hS.snocL
theorem RdCs.of{w:World}{l:List (List Chg)}{v:Value}(h:RdS (tSlice tChg) w Nob l v):RdCs (Heap.of w) v l:=RdS.rows (enc:=encChg) h tChg_rd (λ_=>rfl)
theorem signal_spec2(s:ByteArray)(k:Nat)(h1:0<k)(h2:k≤8):SP 108 [.string s,.int .i64 k] [] (λv post=>∃r,v= .string r∧r.size≤40∧post=[]):=by
 intro W F w hS;apply vc108;unfold Vc108;(try simp only[app]at hS)
 repeat first|refine Gp ?_|refine Gw λw hS=>?_|refine Gb λb w hS=>?_
 refine zd (λh=>⟨_,⟨_,rfl,by decide,rfl⟩,hS⟩) (λh=>?_)
 have hsz:0<s.size:=by
  rcases Nat.eq_zero_or_pos s.size with h0|h0
  ·refine absurd ?_ h
   obtain⟨⟨l⟩⟩:=s
   have:l=[]:=List.eq_nil_of_length_eq_zero h0
   subst this;rfl
  ·exact h0
 refine s_strAt (j:=0) Tryz.underlying9 hsz ?_
 generalize s[0]=b
 have hb:b.toNat<256:=b.toNat_lt
 generalize b.toNat=n at hb
 refine zZ (by omega) ?_
 refine Zs (by decide) ?_
 repeat first|refine Gp ?_|refine Gw λw hS=>?_|refine Gb λb w hS=>?_
 refine zd (λh3=>?_) (λh3=>?_)
 ·(apply za (ZK s 40) hS;exact Xp;clear hS)
  (rintro v post ⟨rfl,rfl⟩ w hS;(try simp only[app]at hS);(repeat (first|refine Gp ?_|refine Gw λw hS=>?_|refine Gb λb w hS=>?_)))
  exact⟨_,⟨_,rfl,by unfold cutOf;rw[ByteArray.size_extract];omega,rfl⟩,hS⟩
 ·refine s_quo (by decide) (by rw[Int.tdiv_eq_ediv_of_nonneg (by omega)];omega) ?_
  rw[show (n:Int).tdiv 4=((n / 4:Nat):Int) by rw[Int.tdiv_eq_ediv_of_nonneg (by omega)];omega]
  refine Y7 h1 ?_
  have hk:n / 4 % k<8:=Nat.lt_of_lt_of_le (Nat.mod_lt _ h1) h2
  repeat first|refine Gp ?_|refine Gw λw hS=>?_|refine Gb λb w hS=>?_
  refine zF ?_
  generalize hx:IntKind.u8.wrap (48+((n / 4 % k:Nat):Int))=x
  refine zy hS (cells:=[.int .u8 x]) (by simp[fillL,zrow,Value.cells]) ?_
  clear hS;intro b1 w hS
  refine Zr hS .hd Tryz.underlying62 Tryz.underlying9 Tryz.underlying5 ?_
  generalize hA:(⟨#[UInt8.ofNat x.toNat]⟩:ByteArray)=A
  have hAs:A.size=1:=by rw[← hA];rfl
  refine Yn (by rw[hAs];decide) ?_
  generalize hB:(⟨#[115,110,97,112,115,104,111,116,32]⟩:ByteArray)++A=B
  have hBs:B.size≤10:=by rw[← hB,ByteArray.size_append,hAs];decide
  refine Zs (by decide) ?_
  repeat first|refine Gp ?_|refine Gw λw hS=>?_|refine Gb λb w hS=>?_
  refine zd (λh4=>?_) (λh4=>⟨_,⟨_,rfl,by omega,rfl⟩,SL.into hS Xi⟩)
  refine Yn (Nat.le_trans (Nat.add_le_add_right hBs _) (by decide)) ?_
  generalize hC:B++(⟨#[32]⟩:ByteArray)=C
  have hCs:C.size≤11:=by rw[← hC,ByteArray.size_append];exact Nat.add_le_add_right hBs _
  refine s_quo (by decide) (by rw[Int.tdiv_eq_ediv_of_nonneg (by omega)];omega) ?_
  rw[show (n:Int).tdiv 16=((n / 16:Nat):Int) by rw[Int.tdiv_eq_ediv_of_nonneg (by omega)];omega]
  refine Zs (by decide) ?_
  rw[show ((n / 16:Nat):Int).tmod 8=((n / 16 % 8:Nat):Int) by rw[Int.tmod_eq_emod_of_nonneg (by omega)];omega]
  repeat first|refine Gp ?_|refine Gw λw hS=>?_|refine Gb λb w hS=>?_
  refine zF ?_
  generalize IntKind.u8.wrap (49+((n / 16 % 8:Nat):Int))=y
  refine zy hS (cells:=[.int .u8 y]) (by simp[fillL,zrow,Value.cells]) ?_
  clear hS;intro b2 w hS
  refine Zr hS .hd Tryz.underlying62 Tryz.underlying9 Tryz.underlying5 ?_
  refine Yn (Nat.le_trans (Nat.add_le_add_right hCs _) (by show 11+1≤1000000;decide)) ?_
  exact⟨_,⟨_,rfl,by rw[ByteArray.size_append];show C.size+1≤40;omega,rfl⟩,SL.into hS Xi⟩
theorem signals_spec2(H:Heap)(v:Value)(l:List ByteArray)(k most:Nat)(hv:RdSl H 1 v l.length (l.map Value.string))(h1:0<k)(h2:k≤8)(hm:most≤1000)(hn:l.length≤140737488351232):
  SP 38 [v,.int .i64 k,.int .i64 most] [.mem H] (λu post=>∃(H':Heap) (rs:List ByteArray),H.le H'∧rs.length≤most∧(∀s∈rs,s.size≤40)∧RdSl H' 1 u rs.length (rs.map Value.string)∧post=[.mem H']):=by
 intro W F w hS;apply vc38;unfold Vc38;(try simp only[app]at hS)
 refine⟨λus w=>∃(m:Nat) (u:Value) (rs:List ByteArray),us=[u,.int .i64 m]∧m≤l.length∧rs.length=m∧m≤most∧(∀s∈rs,s.size≤40)∧SL W (.ob (OwnSl u 9 1 m (rs.map Value.string))::.mem H::F) w,
  λus _=>match us with|[_,.int _ m]=>(l.length-m).toNat|_=>0,⟨0,_,[],rfl,by omega,rfl,by omega,by simp,OwnSl.nil hS⟩,?_⟩
 clear hS
 rintro v7 v8 w ⟨m,u,rs,hus,hml,hrs,hmm,h40,hS⟩
 cases hus
 have hend:∀w,SL W (.ob (OwnSl v7 9 1 m (rs.map Value.string))::.mem H::F) w →
   ∃post,(∃(H':Heap) (rs:List ByteArray),H.le H'∧rs.length≤most∧(∀s∈rs,s.size≤40)∧RdSl H' 1 v7 rs.length (rs.map Value.string)∧post=[.mem H'])∧SL W (app post F) w:=λw hS=>by
  obtain⟨H2,h12,hR,hS⟩:=zw (H:=H) (v:=v7) hS Xp
  rw[← hrs]at hR
  exact⟨_,⟨H2,rs,h12,by omega,h40,hR,rfl⟩,hS⟩
 refine zp hv ?_
 repeat first|refine Gp ?_|refine Gw λw hS=>?_|refine Gb λb w hS=>?_
 refine zd (λh=>?_) (λh=>hend w hS)
 repeat first|refine Gp ?_|refine Gw λw hS=>?_|refine Gb λb w hS=>?_
 refine zd (λh3=>?_) (λh3=>hend w hS)
 clear hend
 have hil:m<l.length:=by omega
 refine Zb hS Xh hv hil (u:=.string l[m]) (by simp[hil]) ?_
 (apply za (signal_spec2 l[m] k h1 h2) hS;exact Xp;clear hS)
 rintro v26 post ⟨r,rfl,hr40,rfl⟩ w hS
 (try simp only[app]at hS)
 repeat first|refine Gp ?_|refine Gw λw hS=>?_|refine Gb λb w hS=>?_
 refine zE (n:=m) (m:=1) hS Xr (src_pt0 (cs:=[.string r]) hS .hd rfl) rfl rfl (by simp[Value.oneCell']) (by omega) (by omega) ?_
 clear hS;intro u' w hS
 repeat first|refine Gp ?_|refine Gw λw hS=>?_|refine Gb λb w hS=>?_
 refine⟨⟨m+1,u',rs++[r],rfl,(by omega),(by simp[hrs]),(by omega),(λs hs=>by
  rcases List.mem_append.1 hs with hs|hs
  ·exact h40 s hs
  ·rw[List.mem_singleton.1 hs];exact hr40),(by rw[List.map_append,List.map_cons,List.map_nil];exact SL.into hS Xi)⟩,(by dsimp only;omega)⟩
theorem chOf_ok(c:Chg)(k:Nat)(h:0<k):1≤(chOf c k).key∧(chOf c k).key≤1099511627776∧0≤(chOf c k).table∧(chOf c k).table<k∧(chOf c k).val.size≤32:=by
 have h1:=md_lt c.key 1099511627776 (by decide)
 have h2:=md_lt c.key 12 (by decide)
 have h3:=md_lt c.table k h
 have h4:(chOf c k).val.size≤32:=by
  unfold chOf
  simp only
  split
  ·simp[ByteArray.size]
  ·unfold cutOf;rw[ByteArray.size_extract];omega
 refine⟨?_,?_,?_,?_,h4⟩<;>(unfold chOf;simp only;try split)<;>omega
theorem fill_tx(x:TxV)(z:List Value)(hz:z.length=5):fillL (zrow z 1) [(0,5,agg (encTx x))]=some (encTx x):=by
 simp[fillL,zrow,Value.cells,encTx,hz]
end Go.Proofs.YtfenmffiidchcaaGreat
namespace Go.Proofs.YtfenmffiidchcaaGreat
set_option linter.unusedVariables false
open Go.ChangeShapes Go.WideShapes Go.ChangeAt Go.RowKit
end Go.Proofs.YtfenmffiidchcaaGreat
namespace Go.Proofs.YtfenmffiidchcaaGreat
set_option linter.unusedVariables false
set_option maxRecDepth 100000
open Go.RowKit
def chsK(k most:Nat)(l:List Chg):List Chg:=(l.take most).map (chOf · k)
theorem chsK_ok(k most:Nat)(h0:0<k)(h8:k≤8)(l:List Chg):(chsK k most l).length≤most∧(∀c∈chsK k most l,mayCh c 8=true)∧∀c∈chsK k most l,chgIn k c=true:=by
 unfold chsK
 refine⟨by rw[List.length_map,List.length_take];omega,λc hc=>?_,λc hc=>?_⟩
 ·obtain⟨x,_,rfl⟩:=List.mem_map.1 hc
  obtain⟨h1,h2,h3,h4,h5⟩:=chOf_ok x k h0
  refine mayCh_iff.2 ⟨h3,by omega,h1,h2,h5,λhg=>?_⟩
  have hg:x.gone=true:=hg
  show (if x.gone then (⟨#[]⟩:ByteArray) else cutOf x.val 32)=emp
  rw[if_pos hg];rfl
 ·obtain⟨x,_,rfl⟩:=List.mem_map.1 hc
  obtain⟨_,_,h3,h4,_⟩:=chOf_ok x k h0
  exact decide_eq_true ⟨h3,h4⟩
theorem may_client{c:List Chg}{sg:List ByteArray}{lsn:Int}(h1:1≤lsn∧lsn≤1099511627776)(h2:c.length≤16)(h3:∀x∈c,mayCh x 8=true)(h4:sg.length≤2)(h5:∀s∈sg,s.size≤40):mayTx ⟨lsn,1,c,sg,0⟩=true:=mayTx_iff.2 ⟨h1,.inl ⟨rfl,rfl,h2,h4,h3,h5⟩⟩
theorem RdRows.get{H:Heap}{v:Value}{Ts:List (List Row)}{us:List Value}(h:RdRows H v Ts us)(i:Nat)(hi:i<Ts.length):∃u,us[i]?=some u∧RdSl H 2 u Ts[i].length (Ts[i].map encRow).flatten:=by
 have hi':i<us.length:=by rw[h.len];exact hi
 exact⟨us[i],List.getElem?_eq_getElem hi',h.each i hi hi'⟩
theorem flat_app2{α:Type}(enc:α→List Value)(xs ys:List α):((xs++ys).map enc).flatten=(xs.map enc).flatten++(ys.map enc).flatten:=by simp
def keyAt(C:List Row)(m:Nat):Int:=if h:0<m∧m≤C.length then (C[m-1]'(by omega)).key else 0
theorem afterR_at{C:List Row}(hs:SortedR C)(hp:∀r∈C,1≤r.key){m:Nat}(hm:m≤C.length)(n:Int):afterR C (keyAt C m) n=(C.drop m).take n.toNat:=by
 unfold afterR
 rw[filter_drop C (keyAt C m) m (λj hj hjm=>?_) (λj hj hjm=>?_)]
 ·unfold keyAt
  rw[dif_pos ⟨by omega,hm⟩]
  rcases Nat.lt_or_ge j (m-1) with h|h
  ·have:=List.pairwise_iff_getElem.1 hs j (m-1) hj (by omega) h
   omega
  ·have:j=m-1:=by omega
   subst this
   exact Int.le_refl _
 ·unfold keyAt
  split
  ·exact List.pairwise_iff_getElem.1 hs (m-1) j (by omega) hj (by omega)
  ·have:=hp _ (List.getElem_mem hj)
   omega
theorem yG(H:Heap)(n:Int)(v0:Value)(ls:List (List Chg))(h1:RdCs H v0 ls)(hll:∀l∈ls,l.length≤140737488351232):
  SP 4 [v0,.int .i64 n] [.mem H] (λv post=>v= .bool true∧∃H' l,H.le H'∧post= .mem H'::l):=by
 intro W F w hS;apply vc4;unfold Vc4;(try simp only[app]at hS)
 have sz0:(64:Int)≤1000:=by decide
 have sz1:(1000:Int)≤65536:=by decide
 (apply za (yL) hS;exact Xp;clear hS)
 rintro v post ⟨dp,rfl,rfl⟩ w hS
 (try simp only[app]at hS)
 (apply za (yy H dp s00 1 1000 (s00_ok 0) (by decide) (by decide) (λd' g h=>by rw[open00 (by decide) (by decide) sz0 sz1]at h;cases h;exact Nat.zero_le _)) hS;exact Xp;clear hS)
 rintro r post hq w hS
 have e1:openS s00 1 1000=(s00,.ok (k00 1 1000)):=(sopen00 (n:=1) (by decide) (by decide) sz0 sz1).1
 rw[e1]at hq
 obtain⟨sp,tp,lp,H1,h01,rfl,rfl⟩:=hq
 (try simp only[app]at hS)
 repeat first|refine Gp ?_|refine Gw λw hS=>?_|refine Gb λb w hS=>?_
 (apply za (yA) hS;exact Xp;clear hS)
 (rintro v post ⟨rfl,rfl⟩ w hS;(try simp only[app]at hS);(repeat (first|refine Gp ?_|refine Gw λw hS=>?_|refine Gb λb w hS=>?_)))
 refine zo ?_
 repeat first|refine Gp ?_|refine Gw λw hS=>?_|refine Gb λb w hS=>?_
 refine zo ?_
 repeat first|refine Gp ?_|refine Gw λw hS=>?_|refine Gb λb w hS=>?_
 refine zd (λh=>absurd rfl h) (λ_=>?_)
 repeat first|refine Gp ?_|refine Gw λw hS=>?_|refine Gb λb w hS=>?_
 have hK0:=KL.init0 (n:=1) (by decide) (by decide) sz0 sz1
 have ha0:(k00 1 1000).d.arm=0:=rfl
 have hS:SL W (.ob (SrcO sp tp dp lp (k00 1 1000))::.ob (DskO dp (k00 1 1000).d)::.mem H1::F) w:=SL.into hS (t:=.ob (SrcO sp tp dp lp (k00 1 1000))::.ob (DskO dp s00)::.mem H1::F) Xi
 generalize k00 1 1000=k0 at *
 refine⟨λus w=>∃(i:Nat) (AL:List TxnD) (k:PSrc) (H2:Heap),us=[]∧i≤20∧KL 1 i 0 (i*2000) (i*2) AL k∧(AL.flatMap (·.changes)).length≤8*i∧H.le H2∧SL W (.ob (SrcO sp tp dp lp k)::.mem H2::F) w,?_,?_⟩
 ·refine⟨λus w=>∃(i:Nat) (AL:List TxnD) (k:PSrc) (H2:Heap),us=[.int .i64 i]∧i≤20∧KL 1 i 0 (i*2000) (i*2) AL k∧k.d.arm=0∧(AL.flatMap (·.changes)).length≤8*i∧H.le H2∧SL W (.ob (SrcO sp tp dp lp k)::.ob (DskO dp k.d)::.mem H2::F) w,
   λus _=>match us with|[.int _ i]=>(20-i).toNat|_=>0,⟨0,[],k0,H1,rfl,by omega,hK0,ha0,by simp,h01,SL.into hS Xi⟩,?_⟩
  clear hS hK0
  rintro v7 w ⟨i,AL,k,H2,hus,hi,hK,ha,hch,hh,hS⟩
  cases hus
  have hAl:=hK.len
  refine s_lenCs h1 ?_
  repeat first|refine Gp ?_|refine Gw λw hS=>?_|refine Gb λb w hS=>?_
  refine zd (λhc=>?_) (λhc=>⟨i,AL,k,H2,rfl,hi,hK,hch,hh,SL.into hS Xi⟩)
  have hil:i<ls.length:=by omega
  repeat first|refine Gp ?_|refine Gw λw hS=>?_|refine Gb λb w hS=>?_
  refine zd (λhd=>?_) (λhd=>⟨i,AL,k,H2,rfl,hi,hK,hch,hh,SL.into hS Xi⟩)
  have hi2:i<20:=by omega
  refine s_getCs hS Xh (h1.mono hh) hil λu hu=>?_
  (apply za (yB H2 u ls[i] 1 8 hu (by decide) (by decide) (by decide) (hll _ (List.getElem_mem hil))) hS;exact Xp;clear hS)
  rintro u2 post ⟨H3,h23,hR,rfl⟩ w hS
  (try simp only[app]at hS)
  have hR:RdSl H3 4 u2 (chsK 1 8 ls[i]).length ((chsK 1 8 ls[i]).map encChg).flatten:=hR
  obtain⟨c4,cm,ct⟩:=chsK_ok 1 8 (by decide) (by decide) ls[i]
  generalize chsK 1 8 ls[i]=c at *
  have h03:=Heap.le_trans hh h23
  have hmay:mayTx ⟨1,1,c,[],0⟩=true:=may_client ⟨by decide,by decide⟩ (by omega) cm (by simp) (by simp)
  have hfew:=hK.few.app (t:=⟨(i:Int)+1,1,c,[],0⟩) (may_client ⟨by omega,by omega⟩ (by omega) cm (by simp) (by simp)) (by show (i:Int)+1=_;omega) ct (by omega) (by show _+c.length≤1000;omega)
  (apply za (zT sp tp dp lp k H3 (.slice none 0 0) u2 [] c (RdSl.nil _ _) hR (by omega) hK.ok (by omega) (by have:=hK.ops;omega)) hS;exact Xp;clear hS)
  rintro r post ⟨rfl,rfl⟩ w hS
  rcases hK.commit (by omega) (by omega) hmay ct hfew with ⟨k',e,hK',ha'⟩|⟨_,_,_,h0⟩
  ·rw[e]at hS ⊢
   simp only at hS ⊢
   (try simp only[app]at hS)
   repeat first|refine Gp ?_|refine Gw λw hS=>?_|refine Gb λb w hS=>?_
   refine zd (λh=>absurd rfl h) (λ_=>?_)
   repeat first|refine Gp ?_|refine Gw λw hS=>?_|refine Gb λb w hS=>?_
   have hch2:((AL++[(⟨(i:Int)+1,1,c,[],0⟩:TxnD)]).flatMap (·.changes)).length≤8*(i+1):=by
    rw[List.flatMap_append,List.length_append]
    have:([(⟨(i:Int)+1,1,c,[],0⟩:TxnD)].flatMap (·.changes)).length=c.length:=by simp
    omega
   exact⟨⟨i+1,_,k',H3,rfl,by omega,hK'.mono (by omega) (by omega),ha' ha,hch2,h03,SL.into hS Xi⟩,by dsimp only;omega⟩
  ·exact absurd ha h0
 ·clear hS hK0
  rintro w ⟨i,AL,k,H2,-,hi,hK,hch,hh,hS⟩
  have hf:=hK.few
  obtain⟨I,d0,f,lo,m0,hL⟩:=hK.live
  have hts:k.ts.length=1:=by rw[hL.ts,tabsN_len]
  have hC:∃C,k.ts[0]'(by omega)=C∧SortedR C∧(∀r∈C,1≤r.key)∧C.length≤160:=by
   have hm:k.ts[0]'(by omega)∈k.ts:=List.getElem_mem _
   have hr:=hK.ok.rows _ hm
   refine⟨_,rfl,hr.sorted,λr h=>(hr.rows r h).1,?_⟩
   have e:k.ts[0]'(by omega)=foldR ((0:Nat):Int) AL:=by
    have:=tabAt_tabsN (n:=1) AL 0 (by decide)
    rw[← hL.ts]at this
    rw[← this]
    exact (tabAt_nat k.ts 0 (by omega)).symm
   rw[e]
   have:=fold_len' AL ((0:Nat):Int) AL.length
   rw[List.take_length]at this
   omega
  obtain⟨C,hC0,hCs,hCp,hCl⟩:=hC
  have hn6:∀D∈k.ts,D.length≤1000000:=λD hD=>by have:=hK.ok.len D hD;omega
  have hst:∀D∈k.ts,SortedR D:=λD hD=>(hK.ok.rows D hD).sorted
  have hTab:tabAt k.ts 0=C:=by rw[← hC0];exact tabAt_nat k.ts 0 (by omega)
  have hmd:=md_lt n 5 (by decide)
  (apply za (y3 n 5 (by decide) (by decide)) hS;exact Xp;clear hS)
  (rintro v post ⟨rfl,rfl⟩ w hS;(try simp only[app]at hS);(repeat (first|refine Gp ?_|refine Gw λw hS=>?_|refine Gb λb w hS=>?_)))
  rw[show (1+(md n 5:Nat):Int)=((1+md n 5:Nat):Int) by omega]
  generalize hq:1+md n 5=q
  have hq5:1≤q∧q≤5:=by omega
  clear hq hmd
  have hend:∀{w:World} {v:Value} {D:List Row},D=C→SL W (RwO v D::.ob (SrcO sp tp dp lp k)::.mem H2::F) w →
    zf (ptrA sp) λv82=>ze 0 v82 λv83=>HLd v83 w λv84=>HCl 27 [v84,.int .i64 0] w λv85 w_12=>HCl 26 [v,v85] w_12 λv86 w_13=>
     (λv w'=>∃post,(λv post=>v=Value.bool true∧∃H' l,H.le H'∧post=Chunk.mem H'::l) v post∧SL W (app post F) w') v86 w_13:=λ{w v D} hD hS=>by
   subst hD
   obtain⟨H3,h23,hv0,hS⟩:=zw (H:=H2) (v:=v) hS Xp
   have hS:=SrcO.iff.1 (SL.into hS (t:=.ob (SrcO sp tp dp lp k)::.mem H3::F) Xi)
   repeat first|refine Gp ?_|refine Gw λw hS=>?_|refine Gb λb w hS=>?_
   (apply za (yd tp k.ts 0 hn6) hS;exact Xp;clear hS)
   rintro u1 post rfl w hS
   rw[hTab]at hS
   (try simp only[app]at hS)
   obtain⟨H4,h34,hv1,hS⟩:=zw (H:=H3) (v:=u1) hS Xp
   (apply za (plain_row H4 v u1 _ _ (hv0.mono h34) hv1 (by omega)) hS;exact Xp;clear hS)
   (rintro v post ⟨rfl,rfl⟩ w hS;(try simp only[app]at hS);(repeat (first|refine Gp ?_|refine Gw λw hS=>?_|refine Gb λb w hS=>?_)))
   rw[decide_eq_true rfl]
   exact⟨_,⟨rfl,H4,[],Heap.le_trans hh (Heap.le_trans h23 h34),rfl⟩,SL.into hS Xi⟩
  have hS:SL W (RwO (.slice none 0 0) (C.take 0)::_) _:=OwnSl.nil hS
  rw[show C.take 0=C.take (q*0) by rw[Nat.mul_zero]]at hS
  refine⟨λus w=>∃(j:Nat) (v:Value),us=[v,.int .i64 (keyAt C (q*j)),.int .i64 j]∧j≤300∧q*j≤C.length∧SL W (RwO v (C.take (q*j))::.ob (SrcO sp tp dp lp k)::.mem H2::F) w,
   λus _=>match us with|[_,_,.int _ i]=>(300-i).toNat|_=>0,⟨0,_,rfl,by omega,by omega,SL.into hS Xi⟩,?_⟩
  clear hS
  rintro v11 v12 v13 w ⟨j,_,hus,hj,hjm,hS⟩
  cases hus
  have hjq:j≤q*j:=Nat.le_mul_of_pos_left j (by omega)
  repeat first|refine Gp ?_|refine Gw λw hS=>?_|refine Gb λb w hS=>?_
  refine zd (λh=>?_) (λh=>by omega)
  have hcs:k.chunkS 0 (keyAt C (q*j)) q=(C.drop (q*j)).take q:=by
   unfold PSrc.chunkS
   rw[hTab,afterR_at hCs hCp hjm,Int.toNat_natCast]
  repeat first|refine Gp ?_|refine Gw λw hS=>?_|refine Gb λb w hS=>?_
  (apply za (Z1 sp tp dp lp k 0 (keyAt C (q*j)) q hn6 hst (by omega) (by omega)) hS;exact Xp;clear hS)
  rintro u post rfl w hS
  rw[hcs]at hS
  (try simp only[app]at hS)
  have htl:(C.take (q*j)).length=q*j:=by rw[List.length_take];omega
  have hdl:((C.drop (q*j)).take q).length=min q (C.length-q*j):=by rw[List.length_take,List.length_drop]
  refine zE (n:=(C.take (q*j)).length) (m:=((C.drop (q*j)).take q).length) hS Xr (src_own hS Xh) (flat_len encRow_len _) rfl (recs_one encRow_one1 _) (by omega) (by omega) ?_
  clear hS;intro u5 w hS
  rw[← flat_app2,← List.length_append]at hS
  have hS:SL W (RwO u5 (C.take (q*j)++(C.drop (q*j)).take q)::_) _:=hS
  refine zz hS Xh ?_
  repeat first|refine Gp ?_|refine Gw λw hS=>?_|refine Gb λb w hS=>?_
  refine zd (λh2=>?_) (λh2=>?_)
  ·refine hend ?_ (SL.into hS Xi)
   rw[List.take_of_length_le (l:=C.drop (q*j)) (by rw[List.length_drop];omega),List.take_append_drop]
  ·refine zz hS Xh ?_
   repeat first|refine Gp ?_|refine Gw λw hS=>?_|refine Gb λb w hS=>?_
   refine zd (λh3=>by omega) (λh3=>?_)
   repeat first|refine Gp ?_|refine Gw λw hS=>?_|refine Gb λb w hS=>?_
   have hlt:q-1<((C.drop (q*j)).take q).length:=by omega
   rw[show (q:Int)-1=((q-1:Nat):Int) by omega]
   refine zR hS Xh encRow_len (x:=((C.drop (q*j)).take q)[q-1]) (List.getElem?_eq_getElem hlt) hlt (i:=0) rfl ?_
   repeat first|refine Gp ?_|refine Gw λw hS=>?_|refine Gb λb w hS=>?_
   have hk:((C.drop (q*j)).take q)[q-1].key=keyAt C (q*(j+1)):=by
    unfold keyAt
    have h1:q*(j+1)=q*j+q:=by rw[Nat.mul_add,Nat.mul_one]
    rw[dif_pos ⟨by omega,by omega⟩]
    rw[List.getElem_take,List.getElem_drop]
    congr 2
    omega
   have ht:C.take (q*j)++(C.drop (q*j)).take q=C.take (q*(j+1)):=by
    rw[Nat.mul_add,Nat.mul_one,List.take_add]
   rw[hk]
   rw[ht]at hS
   have h1:q*(j+1)=q*j+q:=by rw[Nat.mul_add,Nat.mul_one]
   exact⟨⟨j+1,u5,rfl,by omega,by omega,SL.into hS Xi⟩,by dsimp only;omega⟩
theorem sourceChunks_law(n:Int)(l:List (List Chg))(ok:∀x∈l,x.length≤140737488351232)(v0:Value)(w:World)(hl:RdS (tSlice tChg) w Nob l v0):
  Calls Tryz.prog 4 #[v0,.int .i64 n] w λe w'=>e= .returned (.bool true)∧Below w.heap.size w w':=
 (yV (yG (Heap.of w) n v0 l (RdCs.of hl) ok)).calls
theorem fill_tx2{lsn kind:Int}{cv sv:Value}(h:cv.oneCell'=true)(h2:sv.oneCell'=true):fillL [.int .i64 0,.int .i64 0,.slice none 0 0,.slice none 0 0,.int .i64 0] [(0,1,.int .i64 lsn),(1,1,.int .i64 kind),(2,1,cv),(3,1,sv)]=some (encTx ⟨lsn,kind,cv,sv,0⟩):=by
 simp[fillL,show ∀n,(Value.int .i64 n).cells = #[.int .i64 n] from λ_=>rfl,one_cells h,one_cells h2,encTx]
def badC:Chg:=⟨2,1,false,⟨#[]⟩⟩
theorem commit_bad{k:PSrc}(h:k.ts.length=2)(sg:List ByteArray)(l:List Chg):k.commitS sg (l++[badC])=(k,(0,1)):=by
 unfold PSrc.commitS
 rw[if_neg]
 rintro ⟨_,h2⟩
 have:=h2 badC (by simp)
 rw[h]at this
 exact absurd this (by decide)
theorem tabs_all{n:Nat}(n1:1≤n)(n8:n≤8)(AL:List TxnD){h:Int}(hh:h=AL.length):tabs n AL h=tabsN n AL:=by
 subst hh
 unfold tabs tabsN
 rw[if_neg (by omega),show heldN (AL.length:Int) AL.length=AL.length by unfold heldN;omega,List.take_length,Int.toNat_natCast]
theorem yS(H:Heap)(v0 v1:Value)(l:List TxnD)(bad:List Chg)(hl:RdTx H v0 l)(hbad:RdSl H 4 v1 bad.length (bad.map encChg).flatten)(hlc:∀t∈l,t.changes.length≤140737488351232∧t.signals.length≤140737488351232)(hbl:bad.length≤140737488351232):
  SP 6 [v0,v1] [.mem H] (λv post=>v= .bool true∧∃H' l,H.le H'∧post= .mem H'::l):=by
 intro W F w hS;apply vc6;unfold Vc6;(try simp only[app]at hS)
 have sz0:(64:Int)≤500:=by decide
 have sz1:(500:Int)≤65536:=by decide
 (apply za (yL) hS;exact Xp;clear hS)
 rintro v post ⟨dp,rfl,rfl⟩ w hS
 (try simp only[app]at hS)
 (apply za (yy H dp s00 2 500 (s00_ok 0) (by decide) (by decide) (λd' g h=>by rw[open00 (by decide) (by decide) sz0 sz1]at h;cases h;exact Nat.zero_le _)) hS;exact Xp;clear hS)
 rintro r post hq w hS
 have e1:openS s00 2 500=(s00,.ok (k00 2 500)):=(sopen00 (n:=2) (by decide) (by decide) sz0 sz1).1
 rw[e1]at hq
 obtain⟨sp,tp,lp,H1,h01,rfl,rfl⟩:=hq
 (try simp only[app]at hS)
 repeat first|refine Gp ?_|refine Gw λw hS=>?_|refine Gb λb w hS=>?_
 (apply za (yA) hS;exact Xp;clear hS)
 (rintro v post ⟨rfl,rfl⟩ w hS;(try simp only[app]at hS);(repeat (first|refine Gp ?_|refine Gw λw hS=>?_|refine Gb λb w hS=>?_)))
 refine zo ?_
 repeat first|refine Gp ?_|refine Gw λw hS=>?_|refine Gb λb w hS=>?_
 refine zo ?_
 repeat first|refine Gp ?_|refine Gw λw hS=>?_|refine Gb λb w hS=>?_
 refine zd (λh=>absurd rfl h) (λ_=>?_)
 repeat first|refine Gp ?_|refine Gw λw hS=>?_|refine Gb λb w hS=>?_
 have hK0:=KL.init0 (n:=2) (by decide) (by decide) sz0 sz1
 have ha0:(k00 2 500).d.arm=0:=rfl
 have hS:SL W (.ob (SrcO sp tp dp lp (k00 2 500))::.ob (DskO dp (k00 2 500).d)::.mem H1::F) w:=SL.into hS (t:=.ob (SrcO sp tp dp lp (k00 2 500))::.ob (DskO dp s00)::.mem H1::F) Xi
 generalize k00 2 500=k0 at *
 have hS:SL W (TxO (.slice none 0 0) []::_) _:=OwnSl.nil hS
 obtain⟨xs0,hx0l,hx0,hx0s⟩:=hl
 refine⟨λus w=>∃(i:Nat) (v:Value) (xs:List TxV) (AL:List TxnD) (k:PSrc) (H2:Heap),us=[v]∧i≤25∧KL 2 i 0 (i*2000) (i*2) AL k∧TxsIs H2 xs AL∧H.le H2∧SL W (TxO v xs::.ob (SrcO sp tp dp lp k)::.mem H2::F) w,?_,?_⟩
 ·refine⟨λus w=>∃(i:Nat) (v:Value) (xs:List TxV) (AL:List TxnD) (k:PSrc) (H2:Heap),us=[v,.int .i64 i]∧i≤25∧KL 2 i 0 (i*2000) (i*2) AL k∧k.d.arm=0∧(AL.flatMap (·.changes)).length≤6*i∧TxsIs H2 xs AL∧H.le H2∧SL W (TxO v xs::.ob (SrcO sp tp dp lp k)::.ob (DskO dp k.d)::.mem H2::F) w,
   λus _=>match us with|[_,.int _ i]=>(25-i).toNat|_=>0,⟨0,_,[],[],k0,H1,rfl,by omega,hK0,ha0,by simp,TxsIs.nil H1,h01,SL.into hS Xi⟩,?_⟩
  clear hS hK0
  rintro v7 v8 w ⟨i,v,xs,AL,k,H2,hus,hi,hK,ha,hch,hT,hh,hS⟩
  cases hus
  have hxl:=hT.1
  have hAl:=hK.len
  refine zp hx0 ?_
  repeat first|refine Gp ?_|refine Gw λw hS=>?_|refine Gb λb w hS=>?_
  refine zd (λhc=>?_) (λhc=>⟨i,_,xs,AL,k,H2,rfl,hi,hK,hT,hh,SL.into hS Xi⟩)
  have hil:i<l.length:=by omega
  repeat first|refine Gp ?_|refine Gw λw hS=>?_|refine Gb λb w hS=>?_
  refine zd (λhd=>?_) (λhd=>⟨i,_,xs,AL,k,H2,rfl,hi,hK,hT,hh,SL.into hS Xi⟩)
  have hi2:i<25:=by omega
  have hix:i<xs0.length:=by omega
  have hxi:=(hx0s i hil hix).mono hh
  obtain⟨hc1,hc2⟩:=hlc _ (List.getElem_mem hil)
  repeat first|refine Gp ?_|refine Gw λw hS=>?_|refine Gb λb w hS=>?_
  refine Y1 hS Xh encTx_len (hx0.mono hh) (x:=xs0[i]) (by simp[hix]) hil (i:=2) rfl ?_
  refine yQ (hx0.mono hh) hil λb o hb=>Za ?_
  have hcell:=hb 3 xs0[i].sv (by omega) (flat_at encTx_len xs0 i 3 xs0[i] _ (List.getElem?_eq_getElem hix) rfl)
  refine yX hS Xh hcell ?_
  (apply za (yB H2 xs0[i].cv l[i].changes 2 6 hxi.cv (by decide) (by decide) (by decide) hc1) hS;exact Xp;clear hS)
  rintro u2 post ⟨H3,h23,hR,rfl⟩ w hS
  (try simp only[app]at hS)
  refine yX hS Xh (Heap.cell_le h23 hcell) (ZC ?_)
  have hR:RdSl H3 4 u2 (chsK 2 6 l[i].changes).length ((chsK 2 6 l[i].changes).map encChg).flatten:=hR
  obtain⟨c4,cm,ct⟩:=chsK_ok 2 6 (by decide) (by decide) l[i].changes
  generalize chsK 2 6 l[i].changes=c at *
  (apply za (signals_spec2 H3 xs0[i].sv l[i].signals 2 2 (hxi.sv.mono h23) (by decide) (by decide) (by decide) hc2) hS;exact Xp;clear hS)
  rintro u3 post ⟨H4,sg,h34,hsg2,hsg40,hRs,rfl⟩ w hS
  (try simp only[app]at hS)
  have hR:=hR.mono h34
  have h04:=Heap.le_trans hh (Heap.le_trans h23 h34)
  have hmay:mayTx ⟨1,1,c,sg,0⟩=true:=may_client ⟨by decide,by decide⟩ (by omega) cm hsg2 hsg40
  have hfew:=hK.few.app (t:=⟨(i:Int)+1,1,c,sg,0⟩) (may_client ⟨by omega,by omega⟩ (by omega) cm hsg2 hsg40) (by show (i:Int)+1=_;omega) ct (by omega) (by show _+c.length≤1000;omega)
  (apply za (zT sp tp dp lp k H4 u3 u2 sg c hRs hR (by omega) hK.ok (by omega) (by have:=hK.ops;omega)) hS;exact Xp;clear hS)
  rintro r post ⟨rfl,rfl⟩ w hS
  rcases hK.commit (by omega) (by omega) hmay ct hfew with ⟨k',e,hK',ha'⟩|⟨_,_,_,h0⟩
  ·rw[e]at hS ⊢
   simp only at hS ⊢
   (try simp only[app]at hS)
   repeat first|refine Gp ?_|refine Gw λw hS=>?_|refine Gb λb w hS=>?_
   refine zd (λh=>absurd rfl h) (λ_=>?_)
   refine zz hS Xh ?_
   repeat first|refine Gp ?_|refine Gw λw hS=>?_|refine Gb λb w hS=>?_
   refine zd (λh=>absurd (by omega) h) (λ_=>?_)
   (repeat refine Gp ?_)
   refine yW (fill_tx2 hR.one hRs.one) ?_
   refine zy hS (fill_tx _ _ rfl) λxb w hS=>?_
   refine s_appTx hS Xr Xh (encTx_one1 hR.one hRs.one) (by omega) λv2 w hS=>?_
   have hx:TxIs H4 ⟨(i:Int)+1,1,u2,u3,0⟩ ⟨(i:Int)+1,1,c,sg,0⟩:=⟨rfl,rfl,rfl,hR,hRs⟩
   have hT2:=(hT.mono (Heap.le_trans h23 h34)).snoc hx
   have hch2:((AL++[(⟨(i:Int)+1,1,c,sg,0⟩:TxnD)]).flatMap (·.changes)).length≤6*(i+1):=by
    rw[List.flatMap_append,List.length_append]
    have:([(⟨(i:Int)+1,1,c,sg,0⟩:TxnD)].flatMap (·.changes)).length=c.length:=by simp
    omega
   (apply za (yq H4 v1 bad 2 3 (hbad.mono h04) (by decide) (by decide) (by decide) hbl) hS;exact Xp;clear hS)
   rintro u5 post rfl w hS
   (try simp only[app]at hS)
   have hb3:((bad.take 3).map (chOf · 2)).length≤3:=by rw[List.length_map,List.length_take];omega
   generalize (bad.take 3).map (chOf · 2)=bs at *
   (repeat refine Gp ?_)
   refine zy hS (fill_chg badC _ rfl) λyb w hS=>?_
   refine yP (n:=bs.length) (xs:=bs) (y:=badC) (enc:=encChg) hS Xr Xh encChg_len (λx=>encChg_one x) rfl (by omega) (by omega) λu6 w hS=>?_
   have hS:=hS.snocL (x:=badC)
   obtain⟨H5,h45,hR6,hS⟩:=zw (H:=H4) (v:=u6) hS Xp
   have hts:k'.ts.length=2:=by
    obtain⟨I,d0,f,lo,m,hL⟩:=hK'.live
    rw[hL.ts,tabsN_len]
   (apply za (zT sp tp dp lp k' H5 (.slice none 0 0) u6 [] (bs++[badC]) (RdSl.nil _ _) hR6 (by rw[List.length_append,List.length_singleton];omega) hK'.ok (by omega) (by have:=hK'.ops;omega)) hS;exact Xp;clear hS)
   rintro r post ⟨rfl,rfl⟩ w hS
   rw[commit_bad hts]at hS ⊢
   simp only at hS ⊢
   (try simp only[app]at hS)
   repeat first|refine Gp ?_|refine Gw λw hS=>?_|refine Gb λb w hS=>?_
   refine zd (λh=>absurd rfl h) (λ_=>?_)
   repeat first|refine Gp ?_|refine Gw λw hS=>?_|refine Gb λb w hS=>?_
   exact⟨⟨i+1,v2,_,_,k',H5,rfl,by omega,hK'.mono (by omega) (by omega),ha' ha,hch2,hT2.mono h45,Heap.le_trans h04 h45,SL.into hS Xi⟩,by dsimp only;omega⟩
  ·exact absurd ha h0
 ·clear hS hK0
  rintro v7 w ⟨i,v,xs,AL,k,H2,hus,hi,hK,hT,hh,hS⟩
  cases hus
  have hxl:=hT.1
  have hAl:=hK.len
  have hf:=hK.few
  obtain⟨I,d0,f,lo,m,hL⟩:=hK.live
  have hhd:=hL.head hK.off
  have hok:=hK.ok
  have hts:k.ts.length=2:=by rw[hL.ts,tabsN_len]
  have hn6:∀C∈k.ts,C.length≤1000000:=λC hC=>by have:=hok.len C hC;omega
  obtain⟨H3,h23,hO,hS⟩:=zw (H:=H2) (v:=v7) hS Xp
  have h03:=Heap.le_trans hh h23
  have hTx:=(hT.mono h23).rd hO
  refine zp hO ?_
  (apply za (Z7 H3 v7 AL 2 xs.length hTx (by omega) (λt ht=>by have:=mayTx_all (hf.ok.may t ht);omega) (λt ht c hc=>by have:=mayCh_iff.1 ((mayTx_all (hf.ok.may t ht)).2.2.2.2.2.1 c hc);unfold inI64;omega) (λtb j=>by have:=fold_len' AL tb j;have:=hf.chs;omega)) hS;exact Xp;clear hS)
  rintro r post ⟨H6,us,h36,hRR,rfl⟩ w hS
  (try simp only[app]at hS)
  have hTt:tabs 2 AL xs.length=k.ts:=by
   rw[hL.ts];exact tabs_all (n:=2) (by decide) (by decide) AL (by omega)
  rw[hTt]at hRR
  clear hTt
  have hS:=SrcO.iff.1 (SL.into hS (t:=.ob (SrcO sp tp dp lp k)::.mem H6::F) Xi)
  obtain⟨u0,hu0,hr0⟩:=hRR.get 0 (by omega)
  obtain⟨u1,hu1,hr1⟩:=hRR.get 1 (by omega)
  have hl0:=hn6 _ (List.getElem_mem (show 0<k.ts.length by omega))
  have hl1:=hn6 _ (List.getElem_mem (show 1<k.ts.length by omega))
  have h06:=Heap.le_trans h03 h36
  repeat first|refine Gp ?_|refine Gw λw hS=>?_|refine Gb λb w hS=>?_
  refine zp hRR.out ?_
  repeat first|refine Gp ?_|refine Gw λw hS=>?_|refine Gb λb w hS=>?_
  refine zd (λ_=>?_) (λh=>absurd (by omega) h)
  repeat first|refine Gp ?_|refine Gw λw hS=>?_|refine Gb λb w hS=>?_
  refine yQ hRR.out (j:=0) (by omega) λb o hb=>?_
  have hc:=hb 0 u0 (by omega) (by simpa using hu0)
  refine yX hS Xh hc ?_
  (apply za (yd tp k.ts ((0:Nat):Int) hn6) hS;exact Xp;clear hS)
  rintro v0 post rfl w hS
  rw[tabAt_nat k.ts 0 (by omega)]at hS
  (try simp only[app]at hS)
  obtain⟨H7,h67,hv0,hS⟩:=zw (H:=H6) (v:=v0) hS Xp
  refine yX hS Xh (Heap.cell_le h67 hc) (ZC ?_)
  (apply za (plain_row H7 v0 u0 _ _ hv0 (hr0.mono h67) (by omega)) hS;exact Xp;clear hS)
  (rintro v post ⟨rfl,rfl⟩ w hS;(try simp only[app]at hS);(repeat (first|refine Gp ?_|refine Gw λw hS=>?_|refine Gb λb w hS=>?_)))
  refine zd (λ_=>?_) (λh=>absurd rfl h)
  repeat first|refine Gp ?_|refine Gw λw hS=>?_|refine Gb λb w hS=>?_
  refine yQ (hRR.out.mono h67) (j:=1) (by omega) λb o hb=>?_
  have hc:=hb 0 u1 (by omega) (by simpa using hu1)
  refine yX hS Xh hc ?_
  (apply za (yd tp k.ts ((1:Nat):Int) hn6) hS;exact Xp;clear hS)
  rintro v1 post rfl w hS
  rw[tabAt_nat k.ts 1 (by omega)]at hS
  (try simp only[app]at hS)
  obtain⟨H8,h78,hv1,hS⟩:=zw (H:=H7) (v:=v1) hS Xp
  refine yX hS Xh (Heap.cell_le h78 hc) (ZC ?_)
  (apply za (plain_row H8 v1 u1 _ _ hv1 (hr1.mono (Heap.le_trans h67 h78)) (by omega)) hS;exact Xp;clear hS)
  (rintro v post ⟨rfl,rfl⟩ w hS;(try simp only[app]at hS);(repeat (first|refine Gp ?_|refine Gw λw hS=>?_|refine Gb λb w hS=>?_)))
  refine zd (λ_=>?_) (λh=>absurd rfl h)
  refine zp hO ?_
  have hS:=SrcO.put k hS Xp
  (apply za (zC sp tp dp lp k hok.g (by omega)) hS;exact Xp;clear hS)
  (rintro v post ⟨rfl,rfl⟩ w hS;(try simp only[app]at hS);(repeat (first|refine Gp ?_|refine Gw λw hS=>?_|refine Gb λb w hS=>?_)))
  rw[decide_eq_true (show headG k.g.segs=(xs.length:Int) by omega)]
  exact⟨_,⟨rfl,H8,[],Heap.le_trans h06 (Heap.le_trans h67 h78),rfl⟩,SL.into hS Xi⟩
theorem sourceFolds_law(l:List TxnD)(bad:List Chg)(ok:∀t∈l,okTxnA t)(okb:bad.length≤140737488351232)(v0 v1:Value)(w:World)(hl:RdS tTxn w Nob l v0)(hb:RdS tChg w Nob bad v1):
  Calls Tryz.prog 6 #[v0,v1] w λe w'=>e= .returned (.bool true)∧Below w.heap.size w w':=
 (yV (yS (Heap.of w) v0 v1 l bad (RdTx.of hl) (hb.flat tChg_rd (λ_=>rfl)) (λt ht=>⟨(ok t ht).2.1,(ok t ht).2.2.1⟩) okb)).calls
end Go.Proofs.YtfenmffiidchcaaGreat
