/-
  Texts of the proof, joined: Own, OpT, CellsN, TxT, TxL, PlaySig, TxnsS, BytesT, Law12K.
-/
import Derived.Test.YtfenmffiidchcaaGreatJ10
import Derived.Test.YtfenmffiidchcaaGreatRows
namespace Go.Proofs.YtfenmffiidchcaaGreat
set_option linter.unusedVariables false
theorem Tryz.own:ownKnob Tryz.prog.godebug=none:=by kernel_rfl
theorem Tryz.laidOut:laidOutB Tryz.prog=true:=by kernel_rfl
end Go.Proofs.YtfenmffiidchcaaGreat
namespace Go.Proofs.YtfenmffiidchcaaGreat
set_option linter.unusedVariables false
set_option maxRecDepth 100000
open Go.ChangeShapes Go.WideShapes Go.ChangeAt Go.RowKit
theorem RdS.cells1{α:Type}{T:GoT α}(hT:T.n=1){w:World}{xs:List α}{v:Value}(h:RdS T w Nob xs v):
  ∃vs:List Value,vs.length=xs.length∧RdSl (Heap.of w) 1 v xs.length vs∧∀i (h:i<xs.length) (h':i<vs.length),T.rd w Nob xs[i] [vs[i]]:=by
 obtain⟨a,cap,rfl,hc,hx⟩:=h.out
 have hex:∀i,∃u,∀h:i<xs.length,T.rd w Nob xs[i] [u]∧∃b off,a=some ⟨b,off,none⟩∧w.cell? ⟨b,off+i,none⟩=some u:=λi=>by
  by_cases hi:i<xs.length
  ·obtain⟨b,off,cs,ha,hr,hat⟩:=hx i hi
   have hl:=T.len hr
   rw[hT]at hl
   match cs,hl with
   | [u],_=>
    refine⟨u,λ_=>⟨hr,b,off,ha,?_⟩⟩
    have:=hat.2 0 u rfl
    rw[hT]at this
    simpa using this
  ·exact⟨undef,λh=>absurd h hi⟩
 obtain⟨f,hf⟩:=Classical.axiomOfChoice hex
 refine⟨(List.range xs.length).map f,by simp,⟨by simp,a,cap,rfl,hc,?_⟩,λi hi hi'=>?_⟩
 ·rcases Nat.eq_zero_or_pos xs.length with h0|h0
  ·exact .inl h0
  ·right
   obtain⟨_,b,off,rfl,_⟩:=hf 0 h0
   refine⟨b,off,rfl,λj u hu=>?_⟩
   have hj:j<xs.length:=by have:=(List.getElem?_eq_some_iff.1 hu).1;simpa using this
   have hu':f j=u:=by simpa [hj] using hu
   obtain⟨_,b',off',hab,hcell⟩:=hf j hj
   simp at hab
   obtain⟨rfl,rfl⟩:=hab
   rw[hu']at hcell
   unfold World.cell? at hcell
   unfold Heap.cell Heap.of
   simp only at hcell ⊢
   split at hcell
   ·rename_i c t f he';rw[he'];simpa using hcell
   ·cases hcell
 ·simpa using (hf i hi).1
theorem RdS.rows{α:Type}{T:GoT α}{enc:α→List Value}{w:World}{xss:List (List α)}{v:Value}(h:RdS (tSlice T) w Nob xss v)(he:∀{M x cs},T.rd w M x cs→cs=enc x)(hn:∀x,(enc x).length=T.n):
  ∃vs:List Value,vs.length=xss.length∧RdSl (Heap.of w) 1 v xss.length vs∧∀i (h:i<xss.length) (h':i<vs.length),RdSl (Heap.of w) T.n vs[i] xss[i].length (xss[i].map enc).flatten:=by
 obtain⟨vs,h1,h2,h3⟩:=RdS.cells1 rfl h
 refine⟨vs,h1,h2,λi hi hi'=>?_⟩
 obtain⟨u,hu,hr⟩:=h3 i hi hi'
 have:vs[i]=u:=by simpa using hu
 rw[this]
 exact hr.flat he hn
def tChg:GoT Chg:=(tPair (tInt .i64) (tPair (tInt .i64) (tPair tBool (tPair tStr tUnit)))).via λo=>(o.table,o.key,o.gone,o.val,())
theorem tChg_rd{w:World}{M:MS}{o:Chg}{cs:List Value}(h:tChg.rd w M o cs):cs=encChg o:=by
 obtain⟨c1,c2,rfl,h1,c3,c4,rfl,h3,c5,c6,rfl,h5,c7,c8,rfl,h7,h8⟩:=h
 have h1':c1=[.int .i64 o.table]:=h1
 have h3':c3=[.int .i64 o.key]:=h3
 have h5':c5=[.bool o.gone]:=h5
 have h7':c7=[.string o.val]:=h7
 have h8':c8=[]:=h8
 subst h1' h3' h5' h7' h8'
 rfl
def okChgA(c:Chg):Prop:=inK .i64 c.key
theorem chgOpens:Opens Tryz.prog 82 tChg okChgA:=
 Y4 (YE (λo:Chg=>(o.table,o.key,o.gone,o.val,())) (λx=>⟨x.1,x.2.1,x.2.2.1,x.2.2.2.1⟩) (λ_=>rfl)
  (Zv Tryz.underlying82 (by kernel_rfl) (fields_cons (opens_int Tryz.underlying3 (by kernel_rfl)) rfl (fields_cons (opens_int Tryz.underlying2 (by kernel_rfl)) rfl (fields_cons (Yo Tryz.underlying4 (by kernel_rfl)) rfl (fields_cons (YB Tryz.underlying9 (by kernel_rfl)) rfl (fields_nil _ _))))))) (λo h=>h.2.1)
end Go.Proofs.YtfenmffiidchcaaGreat
namespace Go.Proofs.YtfenmffiidchcaaGreat
set_option linter.unusedVariables false
set_option maxRecDepth 100000
open Go.RowKit
def RdCs(H:Heap)(v:Value)(ls:List (List Chg)):Prop:=∃vs:List Value,vs.length=ls.length∧RdSl H 1 v ls.length vs∧∀i (h:i<ls.length) (h':i<vs.length),RdSl H 4 vs[i] ls[i].length (ls[i].map encChg).flatten
theorem RdCs.mono{H H':Heap}(hh:H.le H'){v:Value}{ls:List (List Chg)}(h:RdCs H v ls):RdCs H' v ls:=by
 obtain⟨vs,h1,h2,h3⟩:=h
 exact⟨vs,h1,h2.mono hh,λi hi hi'=>(h3 i hi hi').mono hh⟩
theorem s_lenCs{H:Heap}{v:Value}{ls:List (List Chg)}{K:Value→Prop}(h:RdCs H v ls)(k:K (.int .i64 ls.length)):zg v K:=by
 obtain⟨vs,_,h1,_⟩:=h
 exact zo h1 k
theorem s_getCs{W w:World}{l:List Chunk}{H:Heap}{v:Value}{ls:List (List Chg)}{j:Nat}{k:IntKind}{K:Value→Prop}(hS:SL W l w)(hm:Has (.mem H) l)(h:RdCs H v ls)(hj:j<ls.length)
  (hK:∀u,RdSl H 4 u ls[j].length (ls[j].map encChg).flatten→K u):zj 1 v (.int k (j:Int)) λp=>HLd p w K:=by
 obtain⟨vs,hl,h1,h2⟩:=h
 have hu:vs[j]?=some (vs[j]'(by omega)):=List.getElem?_eq_getElem (by omega)
 exact yJ hS hm h1 hj hu (hK _ (h2 j hj (by omega)))
def TxsIs(H:Heap)(xs:List TxV)(l:List TxnD):Prop:=xs.length=l.length∧∀i (h:i<l.length) (h':i<xs.length),TxIs H xs[i] l[i]
theorem TxsIs.nil(H:Heap):TxsIs H [] []:=⟨rfl,λi h=>by simp at h⟩
theorem TxsIs.mono{H H':Heap}(hh:H.le H'){xs:List TxV}{l:List TxnD}(h:TxsIs H xs l):TxsIs H' xs l:=⟨h.1,λi h1 h2=>(h.2 i h1 h2).mono hh⟩
theorem TxsIs.snoc{H:Heap}{xs:List TxV}{l:List TxnD}(h:TxsIs H xs l){x:TxV}{t:TxnD}(hx:TxIs H x t):TxsIs H (xs++[x]) (l++[t]):=by
 have hl:=h.1
 refine⟨by rw[List.length_append,List.length_append,hl];rfl,λi h1 h2=>?_⟩
 rcases Nat.lt_or_ge i xs.length with hi|hi
 ·rw[List.getElem_append_left hi,List.getElem_append_left (by omega)]
  exact h.2 i (by omega) hi
 ·have hie:i=xs.length:=by rw[List.length_append,List.length_singleton]at h2;omega
  subst hie
  rw[List.getElem_append_right (Nat.le_refl _),List.getElem_append_right (by omega)]
  simp only[Nat.sub_self,show xs.length-l.length=0 by omega,List.getElem_singleton]
  exact hx
theorem TxsIs.rd{H:Heap}{v:Value}{xs:List TxV}{l:List TxnD}(h:TxsIs H xs l)(hv:RdSl H 5 v xs.length (xs.map encTx).flatten):RdTx H v l:=⟨xs,h.1,by rw[← h.1];exact hv,h.2⟩
abbrev TxO(v:Value)(xs:List TxV):Chunk:=.ob (OwnSl v 39 5 xs.length (xs.map encTx).flatten)
theorem s_appTx{W w:World}{l F:List Chunk}{v:Value}{xs:List TxV}{x:TxV}{b:Nat}{K:Value→World→Prop}(hS:SL W l w)(hr:Rem (TxO v xs) l F)(hm:Has (.pt b (encTx x) 39) l)(h1:∀v∈encTx x,v.oneCell'=true)(hn:xs.length≤1000000)
  (h:∀v' w',SL W (TxO v' (xs++[x])::F) w'→K v' w'):zs 5 72 [.int .i64 0,.int .i64 0,.slice none 0 0,.slice none 0 0,.int .i64 0] 39 v (.slice (some ⟨b,0,none⟩) 1 1) w K:=by
 refine zB (n:=xs.length) (m:=1) hS hr (src_pt0 hS hm rfl) rfl rfl h1 (by omega) (by omega) λv' w' hS=>h v' w' ?_
 have e:(xs.map encTx).flatten++encTx x=((xs++[x]).map encTx).flatten:=by simp
 rw[e]at hS
 exact hS.snocL
theorem fill_tx1{lsn kind:Int}{cv:Value}(h:cv.oneCell'=true):fillL [.int .i64 0,.int .i64 0,.slice none 0 0,.slice none 0 0,.int .i64 0] [(0,1,.int .i64 lsn),(1,1,.int .i64 kind),(2,1,cv)]=some (encTx ⟨lsn,kind,cv,.slice none 0 0,0⟩):=by
 simp[fillL,show ∀n,(Value.int .i64 n).cells = #[.int .i64 n] from λ_=>rfl,one_cells h,encTx]
theorem RdCs.of{w:World}{l:List (List Chg)}{v:Value}(h:RdS (tSlice tChg) w Nob l v):RdCs (Heap.of w) v l:=RdS.rows (enc:=encChg) h tChg_rd (λ_=>rfl)
theorem chOf_ok(c:Chg)(k:Nat)(h:0<k):1≤(chOf c k).key∧(chOf c k).key≤1099511627776∧0≤(chOf c k).table∧(chOf c k).table<k∧(chOf c k).val.size≤32:=by
 have h1:=md_lt c.key 1099511627776 (by decide)
 have h2:=md_lt c.key 12 (by decide)
 have h3:=md_lt c.table k h
 have h4:(chOf c k).val.size≤32:=by
  unfold chOf
  simp only
  split
  ·simp[ByteArray.size]
  ·unfold cutOf;rw[ByteArray.size_extract];omega
 refine⟨?_,?_,?_,?_,h4⟩<;>(unfold chOf;simp only;try split)<;>omega
theorem fill_tx(x:TxV)(z:List Value)(hz:z.length=5):fillL (zrow z 1) [(0,5,agg (encTx x))]=some (encTx x):=by
 simp[fillL,zrow,Value.cells,encTx,hz]
end Go.Proofs.YtfenmffiidchcaaGreat
namespace Go.Proofs.YtfenmffiidchcaaGreat
set_option linter.unusedVariables false
open Go.ChangeShapes Go.WideShapes Go.ChangeAt Go.RowKit
theorem flat_val{α:Type}(f:α→Value):∀l:List α,(l.map λx=>[f x]).flatten=l.map f
 | []=>rfl
 | x::l=>by simp only[List.map_cons,List.flatten_cons,flat_val f l];rfl
theorem RdS.ints{k:IntKind}{w:World}{l:List Int}{v:Value}(h:RdS (tInt k) w Nob l v):RdSl (Heap.of w) 1 v l.length (l.map (Value.int k)):=by
 have h2:=h.flat (enc:=λx=>[.int k x]) (λh=>h) (λ_=>rfl)
 rw[flat_val]at h2
 exact h2
end Go.Proofs.YtfenmffiidchcaaGreat
namespace Go.Proofs.YtfenmffiidchcaaGreat
set_option linter.unusedVariables false
set_option maxRecDepth 100000
open Go.RowKit
def chsK(k most:Nat)(l:List Chg):List Chg:=(l.take most).map (chOf · k)
theorem chsK_ok(k most:Nat)(h0:0<k)(h8:k≤8)(l:List Chg):(chsK k most l).length≤most∧(∀c∈chsK k most l,mayCh c 8=true)∧∀c∈chsK k most l,chgIn k c=true:=by
 unfold chsK
 refine⟨by rw[List.length_map,List.length_take];omega,λc hc=>?_,λc hc=>?_⟩
 ·obtain⟨x,_,rfl⟩:=List.mem_map.1 hc
  obtain⟨h1,h2,h3,h4,h5⟩:=chOf_ok x k h0
  refine mayCh_iff.2 ⟨h3,by omega,h1,h2,h5,λhg=>?_⟩
  have hg:x.gone=true:=hg
  show (if x.gone then (⟨#[]⟩:ByteArray) else cutOf x.val 32)=emp
  rw[if_pos hg];rfl
 ·obtain⟨x,_,rfl⟩:=List.mem_map.1 hc
  obtain⟨_,_,h3,h4,_⟩:=chOf_ok x k h0
  exact decide_eq_true ⟨h3,h4⟩
theorem may_client{c:List Chg}{sg:List ByteArray}{lsn:Int}(h1:1≤lsn∧lsn≤1099511627776)(h2:c.length≤16)(h3:∀x∈c,mayCh x 8=true)(h4:sg.length≤2)(h5:∀s∈sg,s.size≤40):mayTx ⟨lsn,1,c,sg,0⟩=true:=mayTx_iff.2 ⟨h1,.inl ⟨rfl,rfl,h2,h4,h3,h5⟩⟩
theorem RdRows.get{H:Heap}{v:Value}{Ts:List (List Row)}{us:List Value}(h:RdRows H v Ts us)(i:Nat)(hi:i<Ts.length):∃u,us[i]?=some u∧RdSl H 2 u Ts[i].length (Ts[i].map encRow).flatten:=by
 have hi':i<us.length:=by rw[h.len];exact hi
 exact⟨us[i],List.getElem?_eq_getElem hi',h.each i hi hi'⟩
theorem yK(H:Heap)(n at_ every:Int)(v1 kv:Value)(ls:List (List Chg))(keep:List Int)(h1:RdCs H v1 ls)(hll:∀l∈ls,l.length≤140737488351232)(hk:RdSl H 1 kv keep.length (keep.map (Value.int .i64))):
  SP 3 [.int .i64 n,v1,.int .i64 at_,.int .i64 every,kv] [.mem H] (λv post=>v= .bool true∧∃H' l,H.le H'∧post= .mem H'::l):=by
 intro W F w hS;apply vc3;unfold Vc3;(try simp only[app]at hS)
 obtain⟨sz0,sz1⟩:=szS_le n
 (apply za (Zl) hS;exact Xp;clear hS)
 rintro v post ⟨dp,rfl,rfl⟩ w hS
 (try simp only[app]at hS)
 (apply za (size_spec12 n) hS;exact Xp;clear hS)
 (rintro v post ⟨rfl,rfl⟩ w hS;(try simp only[app]at hS);(repeat (first|refine Gp ?_|refine Gw λw hS=>?_|refine Gb λb w hS=>?_)))
 (apply za (yB H dp s00 2 (szS n) (s00_ok 0) (by decide) (by decide) (λd' g h=>by rw[open00 (by decide) (by decide) sz0 sz1]at h;cases h;exact Nat.zero_le _)) hS;exact Xp;clear hS)
 rintro r post hq w hS
 have e1:openS s00 2 (szS n)=(s00,.ok (k00 2 (szS n))):=(sopen00 (n:=2) (by decide) (by decide) sz0 sz1).1
 rw[e1]at hq
 obtain⟨sp,tp,lp,H1,h01,rfl,rfl⟩:=hq
 (try simp only[app]at hS)
 repeat first|refine Gp ?_|refine Gw λw hS=>?_|refine Gb λb w hS=>?_
 (apply za (ZB) hS;exact Xp;clear hS)
 (rintro v post ⟨rfl,rfl⟩ w hS;(try simp only[app]at hS);(repeat (first|refine Gp ?_|refine Gw λw hS=>?_|refine Gb λb w hS=>?_)))
 refine zp ?_
 repeat first|refine Gp ?_|refine Gw λw hS=>?_|refine Gb λb w hS=>?_
 refine zp ?_
 repeat first|refine Gp ?_|refine Gw λw hS=>?_|refine Gb λb w hS=>?_
 refine zp ?_
 repeat first|refine Gp ?_|refine Gw λw hS=>?_|refine Gb λb w hS=>?_
 refine zd (λh=>absurd rfl h) (λ_=>?_)
 repeat first|refine Gp ?_|refine Gw λw hS=>?_|refine Gb λb w hS=>?_
 have hmd:=md_lt at_ 90 (by decide)
 (apply za (yn at_ 90 (by decide) (by decide)) hS;exact Xp;clear hS)
 (rintro v post ⟨rfl,rfl⟩ w hS;(try simp only[app]at hS);(repeat (first|refine Gp ?_|refine Gw λw hS=>?_|refine Gb λb w hS=>?_)))
 (apply za (YI dp s00 (1+(md at_ 90:Nat))) hS;exact Xp;clear hS)
 (rintro v post ⟨rfl,rfl⟩ w hS;(try simp only[app]at hS);(repeat (first|refine Gp ?_|refine Gw λw hS=>?_|refine Gb λb w hS=>?_)))
 have hK0:=KL.init (n:=2) (by decide) (by decide) sz0 sz1 (a:=1+(md at_ 90:Nat)) (by omega) (by omega)
 have hS:SL W (.ob (DskO dp ({k00 2 (szS n) with d:=s00.armed (1+(md at_ 90:Nat))}:PSrc).d)::.ob (SrcO sp tp dp lp {k00 2 (szS n) with d:=s00.armed (1+(md at_ 90:Nat))})::.mem H1::F) w:=hS
 generalize ({k00 2 (szS n) with d:=s00.armed (1+(md at_ 90:Nat))}:PSrc)=k0 at *
 have hS:SL W (TxO (.slice none 0 0) []::_) _:=OwnSl.nil hS
 refine⟨λus w=>∃(told tr:Nat) (v:Value) (xs:List TxV) (AL:List TxnD) (d:DS) (H2:Heap),us=[v,.int .i64 told,.int .i64 tr]∧KE 2 told tr AL d∧TxsIs H2 xs AL∧(AL.length≤30∧tr≤30)∧H.le H2∧SL W (TxO v xs::.ob (DskO dp d)::.mem H2::F) w,?_,?_⟩
 ·refine⟨λus w=>∃(i tr:Nat) (v:Value) (xs:List TxV) (AL:List TxnD) (k:PSrc) (H2:Heap),us=[v,.int .i64 i,.int .i64 tr,.int .i64 i]∧i≤30∧tr≤i∧KL 2 i tr (i*402000) (i*2002) AL k∧(AL.flatMap (·.changes)).length≤4*i∧TxsIs H2 xs AL∧H.le H2∧SL W (TxO v xs::.ob (SrcO sp tp dp lp k)::.ob (DskO dp k.d)::.mem H2::F) w,
   λus _=>match us with|[_,_,_,.int _ i]=>(30-i).toNat|_=>0,⟨0,0,_,[],[],k0,H1,rfl,by omega,by omega,hK0,by simp,TxsIs.nil H1,h01,SL.into hS Xi⟩,?_⟩
  clear hS hK0
  rintro v14 v15 v16 v17 w ⟨i,tr,v,xs,AL,k,H2,hus,hi,htr,hK,hch,hT,hh,hS⟩
  cases hus
  have hxl:=hT.1
  have hAl:=hK.len
  have hexit:∀{w:World},SL W (TxO v14 xs::.ob (SrcO sp tp dp lp k)::.ob (DskO dp k.d)::.mem H2::F) w→∃(told tr':Nat) (v:Value) (xs:List TxV) (AL:List TxnD) (d:DS) (H2:Heap),[v14,Value.int .i64 i,.int .i64 tr]=[v,.int .i64 told,.int .i64 tr']∧KE 2 told tr' AL d∧TxsIs H2 xs AL∧(AL.length≤30∧tr'≤30)∧H.le H2∧SL W (TxO v xs::.ob (DskO dp d)::.mem H2::F) w:=λhS=>⟨i,tr,v14,xs,AL,k.d,H2,rfl,hK.end_ (by omega) (by omega),hT,⟨by omega,by omega⟩,hh,SL.into hS Xi⟩
  refine s_lenCs h1 ?_
  repeat first|refine Gp ?_|refine Gw λw hS=>?_|refine Gb λb w hS=>?_
  refine zd (λha=>?_) (λha=>hexit hS)
  have hil:i<ls.length:=by omega
  repeat first|refine Gp ?_|refine Gw λw hS=>?_|refine Gb λb w hS=>?_
  refine zd (λhb=>?_) (λhb=>hexit hS)
  clear hexit
  have hi2:i<30:=by omega
  refine s_getCs hS Xh (h1.mono hh) hil λu hu=>?_
  (apply za (Zz H2 u ls[i] 2 4 hu (by decide) (by decide) (by decide) (hll _ (List.getElem_mem hil))) hS;exact Xp;clear hS)
  rintro u2 post ⟨H3,h23,hR,rfl⟩ w hS
  (try simp only[app]at hS)
  have hR:RdSl H3 4 u2 (chsK 2 4 ls[i]).length ((chsK 2 4 ls[i]).map encChg).flatten:=hR
  obtain⟨c4,cm,ct⟩:=chsK_ok 2 4 (by decide) (by decide) ls[i]
  generalize chsK 2 4 ls[i]=c at *
  have hR1:=hR.one
  have h03:=Heap.le_trans hh h23
  (repeat refine Gp ?_)
  refine y5 (fill_tx1 hR1) ?_
  refine zA hS (fill_tx _ _ rfl) λxb w hS=>?_
  refine s_appTx hS Xr Xh (encTx_one1 hR1 rfl) (by omega) λv2 w hS=>?_
  have hx:TxIs H3 ⟨((i+1:Nat):Int),1,u2,.slice none 0 0,0⟩ ⟨(i:Int)+1,1,c,[],0⟩:=⟨by show ((i+1:Nat):Int)=(i:Int)+1;omega,rfl,rfl,hR,RdSl.nil _ _⟩
  have hT2:=(hT.mono h23).snoc hx
  have hmay:mayTx ⟨1,1,c,[],0⟩=true:=may_client ⟨by decide,by decide⟩ (by omega) cm (by simp) (by simp)
  have hfew:=hK.few.app (t:=⟨(i:Int)+1,1,c,[],0⟩) (may_client ⟨by omega,by omega⟩ (by omega) cm (by simp) (by simp)) (by show (i:Int)+1=_;omega) ct (by omega) (by show _+c.length≤1000;omega)
  repeat first|refine Gp ?_|refine Gw λw hS=>?_|refine Gb λb w hS=>?_
  (apply za (yF sp tp dp lp k H3 (.slice none 0 0) u2 [] c (RdSl.nil _ _) hR (by omega) hK.ok (by omega) (by have:=hK.ops;omega)) hS;exact Xp;clear hS)
  rintro r post ⟨rfl,rfl⟩ w hS
  rcases hK.commit (by omega) (by omega) hmay ct hfew with ⟨k',e,hK',_⟩|⟨k',e,hE,_⟩
  ·rw[e]at hS ⊢
   simp only at hS ⊢
   (try simp only[app]at hS)
   repeat first|refine Gp ?_|refine Gw λw hS=>?_|refine Gb λb w hS=>?_
   refine zd (λh=>absurd h (by decide)) (λ_=>?_)
   repeat first|refine Gp ?_|refine Gw λw hS=>?_|refine Gb λb w hS=>?_
   refine zd (λh=>absurd rfl h) (λ_=>?_)
   repeat first|refine Gp ?_|refine Gw λw hS=>?_|refine Gb λb w hS=>?_
   refine zd (λh=>absurd (by omega) h) (λ_=>?_)
   repeat first|refine Gp ?_|refine Gw λw hS=>?_|refine Gb λb w hS=>?_
   have hmd6:=md_lt every 6 (by decide)
   (apply za (yn every 6 (by decide) (by decide)) hS;exact Xp;clear hS)
   (rintro v post ⟨rfl,rfl⟩ w hS;(try simp only[app]at hS);(repeat (first|refine Gp ?_|refine Gw λw hS=>?_|refine Gb λb w hS=>?_)))
   rw[show (1+(md every 6:Nat):Int)=((1+md every 6:Nat):Int) by omega]
   refine Yp (by omega) ?_
   generalize i % (1+md every 6)=q
   have hch2:((AL++[(⟨(i:Int)+1,1,c,[],0⟩:TxnD)]).flatMap (·.changes)).length≤4*(i+1):=by
    rw[List.flatMap_append,List.length_append]
    have:([(⟨(i:Int)+1,1,c,[],0⟩:TxnD)].flatMap (·.changes)).length=c.length:=by simp
    omega
   have hAl2:(AL++[(⟨(i:Int)+1,1,c,[],0⟩:TxnD)]).length≤30:=by rw[List.length_append,List.length_singleton];omega
   repeat first|refine Gp ?_|refine Gw λw hS=>?_|refine Gb λb w hS=>?_
   refine zd (λhq=>?_) (λhq=>?_)
   ·repeat first|refine Gp ?_|refine Gw λw hS=>?_|refine Gb λb w hS=>?_
    rw[show (i:Int)+1-1=(i:Int) by omega]
    have hsg:k'.g.segs.length≤31:=by
     obtain⟨I,d0,f,lo,m,hL⟩:=hK'.live
     have:=hL.segs
     omega
    (apply za (yZ sp tp dp lp k' H3 i hK'.ok (by omega) (by have:=hK'.ops;omega)) hS;exact Xp;clear hS)
    rintro v post ⟨rfl,H4,h34,rfl⟩ w hS
    have h04:=Heap.le_trans h03 h34
    have hmx:max tr i=i:=by omega
    rcases hK'.trim (by decide) (by decide) (by omega) (by omega) (lsn:=i) (by omega) with ⟨k2,e2,hK2,_⟩|⟨k2,e',e2,he',hE,_⟩
    ·rw[e2]at hS ⊢
     rw[hmx]at hK2
     simp only at hS ⊢
     (try simp only[app]at hS)
     repeat first|refine Gp ?_|refine Gw λw hS=>?_|refine Gb λb w hS=>?_
     refine zd (λh=>absurd rfl h) (λ_=>?_)
     repeat first|refine Gp ?_|refine Gw λw hS=>?_|refine Gb λb w hS=>?_
     exact⟨⟨i+1,i,v2,_,_,k2,H4,rfl,by omega,by omega,hK2.mono (by omega) (by omega),hch2,hT2.mono h34,h04,SL.into hS Xi⟩,by dsimp only;omega⟩
    ·rw[e2]at hS ⊢
     rw[hmx]at hE
     simp only at hS ⊢
     (try simp only[app]at hS)
     repeat first|refine Gp ?_|refine Gw λw hS=>?_|refine Gb λb w hS=>?_
     refine zd (λ_=>?_) (λh=>absurd he' h)
     exact⟨i+1,i,v2,_,_,k2.d,H4,rfl,hE,hT2.mono h34,⟨hAl2,by omega⟩,h04,SL.into hS Xi⟩
   ·repeat first|refine Gp ?_|refine Gw λw hS=>?_|refine Gb λb w hS=>?_
    exact⟨⟨i+1,tr,v2,_,_,k',H3,rfl,by omega,by omega,hK'.mono (by omega) (by omega),hch2,hT2,h03,SL.into hS Xi⟩,by dsimp only;omega⟩
  ·rw[e]at hS ⊢
   simp only at hS ⊢
   (try simp only[app]at hS)
   repeat first|refine Gp ?_|refine Gw λw hS=>?_|refine Gb λb w hS=>?_
   refine zd (λ_=>?_) (λh=>absurd rfl h)
   exact⟨i,tr,v2,_,_,k'.d,H3,rfl,hE,hT2,⟨by rw[List.length_append,List.length_singleton];omega,by omega⟩,h03,SL.into hS Xi⟩
 ·clear hS hK0
  rintro v14 v15 v16 w ⟨told,tr,v,xs,AL,d,H2,hus,hE,hT,⟨hAl,htr⟩,hh,hS⟩
  cases hus
  obtain⟨hf,hdok,hdops⟩:Few 2 AL∧d.Ok 20000000∧d.ops≤80000:=by
   obtain⟨_,_,_,_,_,_,_,_,_,_,_,_,_,hf,a,b⟩:=hE
   exact⟨hf,a,b⟩
  obtain⟨k,all,ho,⟨I2,d2,f2,lo,m2,hL⟩,hoff,hpre,ht1,ht2,ht3⟩:=hE.open (by decide) (by decide) keep sz0 sz1
  have hfa:Few 2 all:=by rw[hpre];exact hf.take _
  obtain⟨H3,h23,hO,hS⟩:=zz (H:=H2) (v:=v14) hS Xp
  have h03:=Heap.le_trans hh h23
  have hTx:=(hT.mono h23).rd hO
  (apply za (ZQ H3 dp d _ hdok (by omega) (by have:=hdok.rlen;omega) kv keep (hk.mono h03)) hS;exact Xp;clear hS)
  (rintro v post ⟨rfl,rfl⟩ w hS;(try simp only[app]at hS);(repeat (first|refine Gp ?_|refine Gw λw hS=>?_|refine Gb λb w hS=>?_)))
  (apply za (size_spec12 n) hS;exact Xp;clear hS)
  (rintro v post ⟨rfl,rfl⟩ w hS;(try simp only[app]at hS);(repeat (first|refine Gp ?_|refine Gw λw hS=>?_|refine Gb λb w hS=>?_)))
  have hcok:=hdok.crash keep
  have hog:=openS_g ho
  have hgk:=openG_GOk hcok (by have:=hcok.rlen;omega) hog
  (apply za (yB H3 dp (d.crash keep) 2 (szS n) hcok (by omega) (by show d.ops≤90000;omega) (λd' g h=>by rw[hog]at h;cases h;rw[hL.log.ents,List.length_map,List.length_drop];omega)) hS;exact Xp;clear hS)
  rintro r post hq w hS
  have ho2:openS (d.crash keep) 2 (szS n)=(k.d,.ok k):=ho
  rw[ho2]at hq
  obtain⟨sp2,tp2,lp2,H4,h34,rfl,rfl⟩:=hq
  have h04:=Heap.le_trans h03 h34
  (try simp only[app]at hS)
  have hhead:=hL.head hoff
  have hlow:=hL.low
  have hlotr:=hL.lotr
  have hlom:=hL.lom
  have hml:=hL.img.le
  repeat first|refine Gp ?_|refine Gw λw hS=>?_|refine Gb λb w hS=>?_
  refine zd (λh=>absurd rfl h) (λ_=>?_)
  repeat first|refine Gp ?_|refine Gw λw hS=>?_|refine Gb λb w hS=>?_
  refine zp ?_
  (apply za (zu sp2 tp2 dp lp2 k hgk (by omega)) hS;exact Xp;clear hS)
  (rintro v post ⟨rfl,rfl⟩ w hS;(try simp only[app]at hS);(repeat (first|refine Gp ?_|refine Gw λw hS=>?_|refine Gb λb w hS=>?_)))
  refine zd (λh=>by omega) (λ_=>?_)
  (apply za (zu sp2 tp2 dp lp2 k hgk (by omega)) hS;exact Xp;clear hS)
  (rintro v post ⟨rfl,rfl⟩ w hS;(try simp only[app]at hS);(repeat (first|refine Gp ?_|refine Gw λw hS=>?_|refine Gb λb w hS=>?_)))
  refine zd (λh=>by omega) (λ_=>?_)
  (apply za (zu sp2 tp2 dp lp2 k hgk (by omega)) hS;exact Xp;clear hS)
  (rintro v post ⟨rfl,rfl⟩ w hS;(try simp only[app]at hS);(repeat (first|refine Gp ?_|refine Gw λw hS=>?_|refine Gb λb w hS=>?_)))
  refine zo hO ?_
  have hxl:=hT.1
  repeat first|refine Gp ?_|refine Gw λw hS=>?_|refine Gb λb w hS=>?_
  refine zd (λh=>by omega) (λ_=>?_)
  (apply za (zZ sp2 tp2 dp lp2 k hgk (by omega)) hS;exact Xp;clear hS)
  (rintro v post ⟨rfl,rfl⟩ w hS;(try simp only[app]at hS);(repeat (first|refine Gp ?_|refine Gw λw hS=>?_|refine Gb λb w hS=>?_)))
  refine zd (λh=>by omega) (λ_=>?_)
  (apply za (zZ sp2 tp2 dp lp2 k hgk (by omega)) hS;exact Xp;clear hS)
  (rintro v post ⟨rfl,rfl⟩ w hS;(try simp only[app]at hS);(repeat (first|refine Gp ?_|refine Gw λw hS=>?_|refine Gb λb w hS=>?_)))
  refine zd (λh=>by omega) (λ_=>?_)
  (apply za (zZ sp2 tp2 dp lp2 k hgk (by omega)) hS;exact Xp;clear hS)
  (rintro v post ⟨rfl,rfl⟩ w hS;(try simp only[app]at hS);(repeat (first|refine Gp ?_|refine Gw λw hS=>?_|refine Gb λb w hS=>?_)))
  refine⟨λus w=>∃(j:Nat) (H5:Heap),us=[.int .i64 ((j:Int)+1)]∧lo≤j∧j≤all.length∧H4.le H5∧SL W (.ob (SrcO sp2 tp2 dp lp2 k)::.mem H5::F) w,λus _=>match us with|[.int _ i]=>(all.length+1-i).toNat|_=>0,⟨lo,H4,by rw[hlow],by omega,by omega,Heap.le_refl H4,SL.into hS Xi⟩,?_⟩
  clear hS
  rintro v21 w ⟨j,H5,hus,hlj,hja,h45,hS⟩
  cases hus
  (apply za (zu sp2 tp2 dp lp2 k hgk (by omega)) hS;exact Xp;clear hS)
  (rintro v post ⟨rfl,rfl⟩ w hS;(try simp only[app]at hS);(repeat (first|refine Gp ?_|refine Gw λw hS=>?_|refine Gb λb w hS=>?_)))
  refine zd (λh=>?_) (λh=>?_)
  ·have hjl:j<all.length:=by omega
   have hrd:=hL.read hfa.ok.may hlj hjl
   (apply za (yD sp2 tp2 dp lp2 k hgk (by omega) H5 ((j:Int)+1) (by omega)) hS;exact Xp;clear hS)
   rintro r post hq w hS
   unfold ReadSQ at hq
   rw[hrd]at hq
   obtain⟨x,H6,h56,rfl,hx,rfl⟩:=hq
   have h36:=Heap.le_trans h34 (Heap.le_trans h45 h56)
   (try simp only[app]at hS)
   refine Gp ?_
   refine zS hS λxb w hS=>?_
   refine yo (vs:=encTx x) hS Xu rfl rfl (encTx_one1 (lsn:=x.lsn) (kind:=x.kind) (mark:=x.mark) hx.cv.one hx.sv.one) λw hS=>?_
   repeat first|refine Gp ?_|refine Gw λw hS=>?_|refine Gb λb w hS=>?_
   refine zd (λh=>absurd rfl h) (λ_=>?_)
   refine yc hS Xh rfl ?_
   repeat first|refine Gp ?_|refine Gw λw hS=>?_|refine Gb λb w hS=>?_
   rw[show (j:Int)+1-1=(j:Int) by omega]
   have hjx:j<xs.length:=by omega
   have hAj:AL[j]'(by omega)=all[j]:=by
    have:all[j]?=AL[j]?:=by rw[hpre,List.getElem?_take,if_pos hjl]
    rw[List.getElem?_eq_getElem hjl,List.getElem?_eq_getElem (by omega)]at this
    exact (Option.some.inj this).symm
   have hy:=(hT.2 j (by omega) hjx).mono (Heap.le_trans h23 h36)
   rw[hAj]at hy
   have hma:=mayTx_all (hfa.ok.may _ (List.getElem_mem hjl))
   refine zJ hS Xh encTx_len (hO.mono h36) (x:=xs[j]) (by simp[hjx]) hjx ?_
   (apply za (txn_same H6 x xs[j] all[j] hx hy (by omega) (by omega)) hS;exact Xp;clear hS)
   (rintro v post ⟨rfl,rfl⟩ w hS;(try simp only[app]at hS);(repeat (first|refine Gp ?_|refine Gw λw hS=>?_|refine Gb λb w hS=>?_)))
   refine zp ?_
   repeat first|refine Gp ?_|refine Gw λw hS=>?_|refine Gb λb w hS=>?_
   exact⟨⟨j+1,H6,by rw[show ((j+1:Nat):Int)+1=(j:Int)+1+1 by omega],by omega,by omega,Heap.le_trans h45 h56,SL.into hS Xi⟩,by dsimp only;omega⟩
  ·(apply za (zu sp2 tp2 dp lp2 k hgk (by omega)) hS;exact Xp;clear hS)
   (rintro v post ⟨rfl,rfl⟩ w hS;(try simp only[app]at hS);(repeat (first|refine Gp ?_|refine Gw λw hS=>?_|refine Gb λb w hS=>?_)))
   have h35:=Heap.le_trans h34 h45
   (apply za (Yj H5 v14 AL 2 (headG k.g.segs) (hTx.mono h35) (by omega) (λt ht=>by have:=mayTx_all (hf.ok.may t ht);omega) (by have:=hf.chs;omega)) hS;exact Xp;clear hS)
   rintro r post ⟨H6,us,h56,hRR,rfl⟩ w hS
   (try simp only[app]at hS)
   have hTt:tabs 2 AL (headG k.g.segs)=k.ts:=by
    rw[hL.ts]
    unfold tabs tabsN
    rw[if_neg (by decide),show heldN (headG k.g.segs) AL.length=all.length by unfold heldN;omega,← hpre]
    rfl
   rw[hTt]at hRR
   have hts:k.ts.length=2:=by rw[hL.ts,tabsN_len]
   have hn6:∀C∈k.ts,C.length≤1000000:=λC hC=>by rw[hL.ts]at hC;have:=hfa.row C hC;omega
   clear hTt
   have hS:=SrcO.iff.1 (SL.into hS (t:=.ob (SrcO sp2 tp2 dp lp2 k)::.mem H6::F) Xi)
   obtain⟨u0,hu0,hr0⟩:=hRR.get 0 (by omega)
   obtain⟨u1,hu1,hr1⟩:=hRR.get 1 (by omega)
   have hl0:=hn6 _ (List.getElem_mem (show 0<k.ts.length by omega))
   have hl1:=hn6 _ (List.getElem_mem (show 1<k.ts.length by omega))
   have h06:=Heap.le_trans h03 (Heap.le_trans h35 h56)
   repeat first|refine Gp ?_|refine Gw λw hS=>?_|refine Gb λb w hS=>?_
   refine y6 hRR.out (j:=0) (by omega) λb o hb=>?_
   have hc:=hb 0 u0 (by omega) (by simpa using hu0)
   refine Zg hS Xh hc ?_
   (apply za (yA tp2 k.ts ((0:Nat):Int) hn6) hS;exact Xp;clear hS)
   rintro v0 post rfl w hS
   rw[tabAt_nat k.ts 0 (by omega)]at hS
   (try simp only[app]at hS)
   obtain⟨H7,h67,hv0,hS⟩:=zz (H:=H6) (v:=v0) hS Xp
   refine Zg hS Xh (Heap.cell_le h67 hc) (Yg ?_)
   (apply za (plain_row H7 v0 u0 _ _ hv0 (hr0.mono h67) (by omega)) hS;exact Xp;clear hS)
   (rintro v post ⟨rfl,rfl⟩ w hS;(try simp only[app]at hS);(repeat (first|refine Gp ?_|refine Gw λw hS=>?_|refine Gb λb w hS=>?_)))
   refine zd (λ_=>?_) (λh=>absurd rfl h)
   repeat first|refine Gp ?_|refine Gw λw hS=>?_|refine Gb λb w hS=>?_
   refine y6 (hRR.out.mono h67) (j:=1) (by omega) λb o hb=>?_
   have hc:=hb 0 u1 (by omega) (by simpa using hu1)
   refine Zg hS Xh hc ?_
   (apply za (yA tp2 k.ts ((1:Nat):Int) hn6) hS;exact Xp;clear hS)
   rintro v1 post rfl w hS
   rw[tabAt_nat k.ts 1 (by omega)]at hS
   (try simp only[app]at hS)
   obtain⟨H8,h78,hv1,hS⟩:=zz (H:=H7) (v:=v1) hS Xp
   refine Zg hS Xh (Heap.cell_le h78 hc) (Yg ?_)
   (apply za (plain_row H8 v1 u1 _ _ hv1 (hr1.mono (Heap.le_trans h67 h78)) (by omega)) hS;exact Xp;clear hS)
   (rintro v post ⟨rfl,rfl⟩ w hS;(try simp only[app]at hS);(repeat (first|refine Gp ?_|refine Gw λw hS=>?_|refine Gb λb w hS=>?_)))
   rw[decide_eq_true rfl]
   exact⟨_,⟨rfl,H8,[],Heap.le_trans h06 (Heap.le_trans h67 h78),rfl⟩,SL.into hS Xi⟩
theorem sourceKeeps_law(n at_ every:Int)(l:List (List Chg))(keep:List Int)(ok:∀x∈l,x.length≤140737488351232)(v1 v4:Value)(w:World)(hl:RdS (tSlice tChg) w Nob l v1)(hk:RdS (tInt .i64) w Nob keep v4):
  Calls Tryz.prog 3 #[.int .i64 n,v1,.int .i64 at_,.int .i64 every,v4] w λe w'=>e= .returned (.bool true)∧Below w.heap.size w w':=
 (ZF (yK (Heap.of w) n at_ every v1 v4 l keep (RdCs.of hl) ok hk.ints)).calls
end Go.Proofs.YtfenmffiidchcaaGreat
