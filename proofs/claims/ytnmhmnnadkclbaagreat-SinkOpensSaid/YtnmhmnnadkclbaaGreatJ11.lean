/-
  Texts of the proof, joined: Own, OpT, CellsN, BytesT, SinkT, PlayS, Law18I, Law18S, Law18Q, Law18F, RowsT, Law18O.
-/
import Derived.Test.YtnmhmnnadkclbaaGreatJ10
import Derived.Test.YtnmhmnnadkclbaaGreatRows
import Derived.Test.YtnmhmnnadkclbaaGreatQVcF
namespace Go.Proofs.YtnmhmnnadkclbaaGreat
set_option linter.unusedVariables false
theorem Tryz.own:ownKnob Tryz.prog.godebug=none:=by kernel_rfl
theorem Tryz.laidOut:laidOutB Tryz.prog=true:=by kernel_rfl
end Go.Proofs.YtnmhmnnadkclbaaGreat
namespace Go.Proofs.YtnmhmnnadkclbaaGreat
set_option linter.unusedVariables false
set_option maxRecDepth 100000
open Go.ChangeShapes Go.WideShapes Go.ChangeAt Go.RowKit
def tAOp:GoT AOp:=(tPair (tInt .i64) (tPair (tInt .i64) (tPair (tInt .i64) (tPair tBool (tPair tStr tUnit))))).via λo=>(o.lsn,o.table,o.key,o.gone,o.val,())
theorem tAOp_rd{w:World}{M:MS}{o:AOp}{cs:List Value}(h:tAOp.rd w M o cs):cs=encOp o:=by
 obtain⟨c1,c2,rfl,h1,c3,c4,rfl,h3,c5,c6,rfl,h5,c7,c8,rfl,h7,c9,c10,rfl,h9,h10⟩:=h
 have h1':c1=[.int .i64 o.lsn]:=h1
 have h3':c3=[.int .i64 o.table]:=h3
 have h5':c5=[.int .i64 o.key]:=h5
 have h7':c7=[.bool o.gone]:=h7
 have h9':c9=[.string o.val]:=h9
 have h10':c10=[]:=h10
 subst h1' h3' h5' h7' h9' h10'
 rfl
def okAOp(o:AOp):Prop:=inK .i64 o.lsn∧inK .i64 o.table∧inK .i64 o.key∧okStr o.val
theorem Qr:Opens Tryz.prog 96 tAOp okAOp:=
 yP (yB (λo:AOp=>(o.lsn,o.table,o.key,o.gone,o.val,())) (λx=>⟨x.1,x.2.1,x.2.2.1,x.2.2.2.1,x.2.2.2.2.1⟩) (λ_=>rfl)
  (z8 Tryz.underlying96 (by kernel_rfl) (fields_cons (opens_int Tryz.underlying2 (by kernel_rfl)) rfl (fields_cons (opens_int Tryz.underlying3 (by kernel_rfl)) rfl (fields_cons (opens_int Tryz.underlying2 (by kernel_rfl)) rfl (fields_cons (ZT Tryz.underlying4 (by kernel_rfl)) rfl (fields_cons (qJ Tryz.underlying9 (by kernel_rfl)) rfl (fields_nil _ _)))))))) (λo h=>⟨h.1,h.2.1,h.2.2.1,h.2.2.2.2.1⟩)
theorem RdS.cells1{α:Type}{T:GoT α}(hT:T.n=1){w:World}{xs:List α}{v:Value}(h:RdS T w Nob xs v):
  ∃vs:List Value,vs.length=xs.length∧RdSl (Heap.of w) 1 v xs.length vs∧∀i (h:i<xs.length) (h':i<vs.length),T.rd w Nob xs[i] [vs[i]]:=by
 obtain⟨a,cap,rfl,hc,hx⟩:=h.out
 have hex:∀i,∃u,∀h:i<xs.length,T.rd w Nob xs[i] [u]∧∃b off,a=some ⟨b,off,none⟩∧w.cell? ⟨b,off+i,none⟩=some u:=λi=>by
  by_cases hi:i<xs.length
  ·obtain⟨b,off,cs,ha,hr,hat⟩:=hx i hi
   have hl:=T.len hr
   rw[hT]at hl
   match cs,hl with
   | [u],_=>
    refine⟨u,λ_=>⟨hr,b,off,ha,?_⟩⟩
    have:=hat.2 0 u rfl
    rw[hT]at this
    simpa using this
  ·exact⟨undef,λh=>absurd h hi⟩
 obtain⟨f,hf⟩:=Classical.axiomOfChoice hex
 refine⟨(List.range xs.length).map f,by simp,⟨by simp,a,cap,rfl,hc,?_⟩,λi hi hi'=>?_⟩
 ·rcases Nat.eq_zero_or_pos xs.length with h0|h0
  ·exact .inl h0
  ·right
   obtain⟨_,b,off,rfl,_⟩:=hf 0 h0
   refine⟨b,off,rfl,λj u hu=>?_⟩
   have hj:j<xs.length:=by have:=(List.getElem?_eq_some_iff.1 hu).1;simpa using this
   have hu':f j=u:=by simpa [hj] using hu
   obtain⟨_,b',off',hab,hcell⟩:=hf j hj
   simp at hab
   obtain⟨rfl,rfl⟩:=hab
   rw[hu']at hcell
   unfold World.cell? at hcell
   unfold Heap.cell Heap.of
   simp only at hcell ⊢
   split at hcell
   ·rename_i c t f he';rw[he'];simpa using hcell
   ·cases hcell
 ·simpa using (hf i hi).1
theorem RdS.rows{α:Type}{T:GoT α}{enc:α→List Value}{w:World}{xss:List (List α)}{v:Value}(h:RdS (tSlice T) w Nob xss v)(he:∀{M x cs},T.rd w M x cs→cs=enc x)(hn:∀x,(enc x).length=T.n):
  ∃vs:List Value,vs.length=xss.length∧RdSl (Heap.of w) 1 v xss.length vs∧∀i (h:i<xss.length) (h':i<vs.length),RdSl (Heap.of w) T.n vs[i] xss[i].length (xss[i].map enc).flatten:=by
 obtain⟨vs,h1,h2,h3⟩:=RdS.cells1 rfl h
 refine⟨vs,h1,h2,λi hi hi'=>?_⟩
 obtain⟨u,hu,hr⟩:=h3 i hi hi'
 have:vs[i]=u:=by simpa using hu
 rw[this]
 exact hr.flat he hn
end Go.Proofs.YtnmhmnnadkclbaaGreat
namespace Go.Proofs.YtnmhmnnadkclbaaGreat
set_option linter.unusedVariables false
open Go.ChangeShapes Go.WideShapes Go.ChangeAt Go.RowKit
theorem RdS.cellsN{α:Type}{T:GoT α}{w:World}{xs:List α}{v:Value}(h:RdS T w Nob xs v)(hT:0<T.n):
  ∃css:List (List Value),css.length=xs.length∧RdSl (Heap.of w) T.n v xs.length css.flatten∧∀i (h:i<xs.length) (h':i<css.length),T.rd w Nob xs[i] css[i]:=by
 obtain⟨a,cap,rfl,hc,hx⟩:=h.out
 have hex:∀i,∃cs:List Value,cs.length=T.n∧∀h:i<xs.length,T.rd w Nob xs[i] cs∧∃b off,a=some ⟨b,off,none⟩∧At w Nob b (off+i*T.n) cs:=λi=>by
  by_cases hi:i<xs.length
  ·obtain⟨b,off,cs,ha,hr,hat⟩:=hx i hi
   exact⟨cs,T.len hr,λ_=>⟨hr,b,off,ha,hat⟩⟩
  ·exact⟨List.replicate T.n undef,by simp,λh=>absurd h hi⟩
 obtain⟨f,hf⟩:=Classical.axiomOfChoice hex
 have hlen:∀x∈(List.range xs.length).map f,x.length=T.n:=λx hx=>by
  obtain⟨i,_,rfl⟩:=List.mem_map.1 hx;exact (hf i).1
 have hfl:((List.range xs.length).map f).flatten.length=xs.length*T.n:=by rw[flatten_length (n:=T.n) _ hlen];simp
 refine⟨(List.range xs.length).map f,by simp,⟨hfl,a,cap,rfl,hc,?_⟩,λi hi hi'=>?_⟩
 ·rcases Nat.eq_zero_or_pos xs.length with h0|h0
  ·exact .inl h0
  ·right
   obtain⟨_,b,off,rfl,_⟩:=(hf 0).2 h0
   refine⟨b,off,rfl,λj u hu=>?_⟩
   have hj:=(List.getElem?_eq_some_iff.1 hu).1
   rw[hfl]at hj
   have hi:j / T.n<xs.length:=(Nat.div_lt_iff_lt_mul hT).2 hj
   obtain⟨_,b',off',hab,hat⟩:=(hf (j / T.n)).2 hi
   simp at hab
   obtain⟨rfl,rfl⟩:=hab
   have hmod:j % T.n<(f (j / T.n)).length:=by rw[(hf _).1];exact Nat.mod_lt _ hT
   have hg:=flatten_get (n:=T.n) ((List.range xs.length).map f) hlen (j / T.n) (j % T.n) (by simpa using hi) ((f (j / T.n))[j % T.n]'hmod) (by simp[List.getElem?_eq_getElem hmod])
   have hdm:j / T.n*T.n+j % T.n=j:=by rw[Nat.mul_comm];exact Nat.div_add_mod j T.n
   rw[hdm,hu]at hg
   have hu':u=(f (j / T.n))[j % T.n]:=Option.some.inj hg
   have:=hat.2 (j % T.n) u (by rw[hu'];exact List.getElem?_eq_getElem hmod)
   rw[show off+j / T.n*T.n+j % T.n=off+j by omega]at this
   unfold World.cell? at this
   unfold Heap.cell Heap.of
   simp only at this ⊢
   split at this
   ·rename_i c t f he';rw[he'];simpa using this
   ·cases this
 ·simpa using ((hf i).2 hi).1
end Go.Proofs.YtnmhmnnadkclbaaGreat
namespace Go.Proofs.YtnmhmnnadkclbaaGreat
set_option linter.unusedVariables false
open Go.ChangeShapes Go.WideShapes Go.ChangeAt Go.RowKit
theorem flat_val{α:Type}(f:α→Value):∀l:List α,(l.map λx=>[f x]).flatten=l.map f
 | []=>rfl
 | x::l=>by simp only[List.map_cons,List.flatten_cons,flat_val f l];rfl
theorem RdS.ints{k:IntKind}{w:World}{l:List Int}{v:Value}(h:RdS (tInt k) w Nob l v):RdSl (Heap.of w) 1 v l.length (l.map (Value.int k)):=by
 have h2:=h.flat (enc:=λx=>[.int k x]) (λh=>h) (λ_=>rfl)
 rw[flat_val]at h2
 exact h2
def toB(x:Int):UInt8:=UInt8.ofNat x.toNat
theorem toB_c{x:Int}(h:inK .u8 x):u8c (toB x)= .int .u8 x:=by
 have:=inK_u8 h
 unfold u8c toB
 congr 1
 rw[UInt8.toNat_ofNat']
 omega
theorem toB_map:∀{l:List Int},(∀x∈l,inK .u8 x)→l.map (Value.int .u8)=(l.map toB).map u8c
 | [],_=>rfl
 | x::l,h=>by
  simp only[List.map_cons,toB_c (h x (.head _))]
  rw[toB_map λy hy=>h y (.tail _ hy)]
theorem RdSl.toB{H:Heap}{v:Value}{l:List Int}(h:RdSl H 1 v l.length (l.map (Value.int .u8)))(hok:∀x∈l,inK .u8 x):RdSl H 1 v (l.map toB).length ((l.map toB).map u8c):=by
 rw[toB_map hok]at h
 rw[List.length_map];exact h
end Go.Proofs.YtnmhmnnadkclbaaGreat
namespace Go.Proofs.YtnmhmnnadkclbaaGreat
set_option linter.unusedVariables false
set_option maxRecDepth 100000
open Go.ChangeShapes Go.WideShapes Go.ChangeAt Go.RowKit
def tNote:GoT PNote:=(tPair (tInt .i64) (tPair (tInt .i64) (tPair (tInt .i64) (tPair (tInt .i64) (tPair (tInt .i64) (tPair (tInt .i64) (tPair tBool tUnit))))))).via λo=>(o.kind,o.id,o.table,o.weight,o.at_,o.cursor,o.done,())
theorem tNote_rd{w:World}{M:MS}{o:PNote}{cs:List Value}(h:tNote.rd w M o cs):cs=encNote o:=by
 obtain⟨c1,c2,rfl,h1,c3,c4,rfl,h3,c5,c6,rfl,h5,c7,c8,rfl,h7,c9,c10,rfl,h9,c11,c12,rfl,h11,c13,c14,rfl,h13,h14⟩:=h
 have h1':c1=[.int .i64 o.kind]:=h1
 have h3':c3=[.int .i64 o.id]:=h3
 have h5':c5=[.int .i64 o.table]:=h5
 have h7':c7=[.int .i64 o.weight]:=h7
 have h9':c9=[.int .i64 o.at_]:=h9
 have h11':c11=[.int .i64 o.cursor]:=h11
 have h13':c13=[.bool o.done]:=h13
 have h14':c14=[]:=h14
 subst h1' h3' h5' h7' h9' h11' h13' h14'
 rfl
def okNoteA(o:PNote):Prop:=inI64 o.kind∧inI64 o.id∧inI64 o.table∧inI64 o.weight∧inI64 o.at_∧inI64 o.cursor
theorem qW:Opens Tryz.prog 98 tNote okNoteA:=
 yP (yB (λo:PNote=>(o.kind,o.id,o.table,o.weight,o.at_,o.cursor,o.done,())) (λx=>⟨x.1,x.2.1,x.2.2.1,x.2.2.2.1,x.2.2.2.2.1,x.2.2.2.2.2.1,x.2.2.2.2.2.2.1⟩) (λ_=>rfl)
  (z8 Tryz.underlying98 (by kernel_rfl) (fields_cons (opens_int Tryz.underlying3 (by kernel_rfl)) rfl (fields_cons (opens_int Tryz.underlying3 (by kernel_rfl)) rfl (fields_cons (opens_int Tryz.underlying3 (by kernel_rfl)) rfl (fields_cons (opens_int Tryz.underlying3 (by kernel_rfl)) rfl
   (fields_cons (opens_int Tryz.underlying2 (by kernel_rfl)) rfl (fields_cons (opens_int Tryz.underlying2 (by kernel_rfl)) rfl (fields_cons (ZT Tryz.underlying4 (by kernel_rfl)) rfl (fields_nil _ _))))))))))
  (λo h=>⟨inK_i64 h.1,inK_i64 h.2.1,inK_i64 h.2.2.1,inK_i64 h.2.2.2.1,inK_i64 h.2.2.2.2.1,inK_i64 h.2.2.2.2.2.1⟩)
def okOpA(o:AOp):Prop:=inI64 o.lsn∧inI64 o.table∧inI64 o.key
def tItem:GoT PItem:=(tPair (tInt .i64) (tPair (tSlice tAOp) (tPair (tSlice tNote) tUnit))).via λx=>(x.lsn,x.ops,x.notes,())
theorem tItem_rd{w:World}{t:PItem}{cs:List Value}(h:tItem.rd w Nob t cs):∃x:ItV,cs=encIt x∧ItIs (Heap.of w) x t:=by
 obtain⟨c1,c2,rfl,h1,c3,c4,rfl,h3,c5,c6,rfl,h5,h6⟩:=h
 have h1':c1=[.int .i64 t.lsn]:=h1
 obtain⟨ov,h3',hov⟩:∃v,c3=[v]∧RdS tAOp w Nob t.ops v:=h3
 obtain⟨nv,h5',hnv⟩:∃v,c5=[v]∧RdS tNote w Nob t.notes v:=h5
 have h6':c6=[]:=h6
 subst h1' h3' h5' h6'
 exact⟨⟨t.lsn,ov,nv⟩,rfl,rfl,hov.flat tAOp_rd (λ_=>rfl),hnv.flat tNote_rd (λ_=>rfl)⟩
structure okItemA(t:PItem):Prop where
 lsn:inI64 t.lsn
 nops:t.ops.length≤140737488351232
 nnts:t.notes.length≤140737488351232
 ops:∀o∈t.ops,okOpA o
 nts:∀n∈t.notes,okNoteA n
theorem qQ:Opens Tryz.prog 46 tItem okItemA:=
 yP (yB (λt:PItem=>(t.lsn,t.ops,t.notes,())) (λx=>⟨x.1,x.2.1,x.2.2.1⟩) (λ_=>rfl)
  (z8 Tryz.underlying46 (by kernel_rfl) (fields_cons (opens_int Tryz.underlying2 (by kernel_rfl)) rfl
   (fields_cons (opens_slice (b:=48) Qr Tryz.underlying43 (by kernel_rfl) (by kernel_rfl) (by decide)) rfl
    (fields_cons (opens_slice (b:=56) qW Tryz.underlying44 (by kernel_rfl) (by kernel_rfl) (by decide)) rfl (fields_nil _ _))))))
  (λt h=>by
   have h2:=h.2.1
   have h3:=h.2.2.1
   exact⟨inK_i64 h.1,by have:=h2.1;simp only at this;omega,by have:=h3.1;simp only at this;omega,λo ho=>by have:=h2.2 o ho;exact⟨inK_i64 this.1,inK_i64 this.2.1,inK_i64 this.2.2.1⟩,λn hn=>h3.2 n hn⟩)
def tFt:GoT PFt:=(tPair (tInt .i64) (tPair (tInt .i64) tUnit)).via λf=>(f.kind,f.keep,())
theorem tFt_rd{w:World}{M:MS}{f:PFt}{cs:List Value}(h:tFt.rd w M f cs):cs=encFt f:=by
 obtain⟨c1,c2,rfl,h1,c3,c4,rfl,h3,h4⟩:=h
 have h1':c1=[.int .i64 f.kind]:=h1
 have h3':c3=[.int .i64 f.keep]:=h3
 have h4':c4=[]:=h4
 subst h1' h3' h4'
 rfl
def okFtA(f:PFt):Prop:=inI64 f.kind∧inI64 f.keep
theorem ftOpens:Opens Tryz.prog 48 tFt okFtA:=
 yP (yB (λf:PFt=>(f.kind,f.keep,())) (λx=>⟨x.1,x.2.1⟩) (λ_=>rfl)
  (z8 Tryz.underlying48 (by kernel_rfl) (fields_cons (opens_int Tryz.underlying3 (by kernel_rfl)) rfl (fields_cons (opens_int Tryz.underlying3 (by kernel_rfl)) rfl (fields_nil _ _)))))
  (λf h=>⟨inK_i64 h.1,inK_i64 h.2.1⟩)
structure O18 where
 kind:Int
 n:Int
 item:PItem
 fault:PFt
 keep:List Int
structure O18V where
 kind:Int
 n:Int
 it:ItV
 ft:PFt
 kv:Value
def enc18(x:O18V):List Value:=[.int .i64 x.kind,.int .i64 x.n]++encIt x.it++encFt x.ft++[x.kv]
theorem enc18_len(x:O18V):(enc18 x).length=8:=rfl
structure Is18(H:Heap)(x:O18V)(o:O18):Prop where
 kind:x.kind=o.kind
 n:x.n=o.n
 it:ItIs H x.it o.item
 ft:x.ft=o.fault
 kv:RdSl H 1 x.kv o.keep.length (o.keep.map (Value.int .i64))
theorem Is18.mono{H H':Heap}(hh:H.le H'){x:O18V}{o:O18}(h:Is18 H x o):Is18 H' x o:=⟨h.kind,h.n,h.it.mono hh,h.ft,h.kv.mono hh⟩
def Rd18(H:Heap)(v:Value)(l:List O18):Prop:=∃xs:List O18V,xs.length=l.length∧RdSl H 8 v l.length (xs.map enc18).flatten∧∀i (h:i<l.length) (h':i<xs.length),Is18 H xs[i] l[i]
def t18:GoT O18:=(tPair (tInt .i64) (tPair (tInt .i64) (tPair tItem (tPair tFt (tPair (tSlice (tInt .i64)) tUnit))))).via λo=>(o.kind,o.n,o.item,o.fault,o.keep,())
theorem t18_rd{w:World}{o:O18}{cs:List Value}(h:t18.rd w Nob o cs):∃x:O18V,cs=enc18 x∧Is18 (Heap.of w) x o:=by
 obtain⟨c1,c2,rfl,h1,c3,c4,rfl,h3,c5,c6,rfl,h5,c7,c8,rfl,h7,c9,c10,rfl,h9,h10⟩:=h
 have h1':c1=[.int .i64 o.kind]:=h1
 have h3':c3=[.int .i64 o.n]:=h3
 obtain⟨it,h5',hit⟩:=tItem_rd h5
 have h7':=tFt_rd h7
 obtain⟨kv,h9',hkv⟩:∃v,c9=[v]∧RdS (tInt .i64) w Nob o.keep v:=h9
 have h10':c10=[]:=h10
 subst h1' h3' h5' h7' h9' h10'
 exact⟨⟨o.kind,o.n,it,o.fault,kv⟩,rfl,rfl,rfl,hit,rfl,hkv.ints⟩
theorem Rd18.of{w:World}{l:List O18}{v:Value}(h:RdS t18 w Nob l v):Rd18 (Heap.of w) v l:=by
 obtain⟨css,h1,h2,h3⟩:=RdS.cellsN h (by decide)
 have hex:∀i,∃x:O18V,∀(h:i<l.length) (h':i<css.length),css[i]=enc18 x∧Is18 (Heap.of w) x l[i]:=λi=>by
  by_cases hi:i<l.length
  ·obtain⟨x,e,hx⟩:=t18_rd (h3 i hi (by omega))
   exact⟨x,λ_ _=>⟨e,hx⟩⟩
  ·exact⟨⟨0,0,⟨0,.slice none 0 0,.slice none 0 0⟩,⟨0,0⟩,.slice none 0 0⟩,λh=>absurd h hi⟩
 obtain⟨f,hf⟩:=Classical.axiomOfChoice hex
 refine⟨(List.range l.length).map f,by simp,?_,λi hi hi'=>by simpa using (hf i hi (by omega)).2⟩
 have e:css=((List.range l.length).map f).map enc18:=List.ext_getElem (by simp[h1]) λi g1 g2=>by simpa using (hf i (by omega) g1).1
 rw[e]at h2
 exact h2
structure ok18(o:O18):Prop where
 kind:inI64 o.kind
 n:inI64 o.n
 item:okItemA o.item
 ft:okFtA o.fault
 keep:o.keep.length≤140737488351232
theorem o18Opens:Opens Tryz.prog 51 t18 ok18:=
 yP (yB (λo:O18=>(o.kind,o.n,o.item,o.fault,o.keep,())) (λx=>⟨x.1,x.2.1,x.2.2.1,x.2.2.2.1,x.2.2.2.2.1⟩) (λ_=>rfl)
  (z8 Tryz.underlying51 (by kernel_rfl) (fields_cons (opens_int Tryz.underlying3 (by kernel_rfl)) rfl (fields_cons (opens_int Tryz.underlying3 (by kernel_rfl)) rfl
   (fields_cons qQ rfl (fields_cons ftOpens rfl (fields_cons (opens_slice (b:=8) (opens_int Tryz.underlying3 (by kernel_rfl)) Tryz.underlying49 (by kernel_rfl) (by kernel_rfl) (by decide)) rfl (fields_nil _ _))))))))
  (λo h=>⟨inK_i64 h.1,inK_i64 h.2.1,h.2.2.1,h.2.2.2.1,by have h1:=h.2.2.2.2.1.1;simp only at h1;omega⟩)
end Go.Proofs.YtnmhmnnadkclbaaGreat
namespace Go.Proofs.YtnmhmnnadkclbaaGreat
set_option linter.unusedVariables false
set_option maxRecDepth 100000
open Go.RowKit
def cutOf(s:ByteArray)(n:Nat):ByteArray:=s.extract 0 (min s.size n)
theorem Qo(s:ByteArray)(n:Nat):Spec Tryz.prog 197 [.string s,.int .i64 n] [] (Gives (.string (cutOf s n)) []):=by
 intro W F w hS;apply vc197;unfold Vc197;(try simp only[app]at hS)
 repeat first|refine Gp ?_|refine Gw λw hS=>?_|refine Gb λb w hS=>?_
 rw[show min (s.size:Int) (n:Int)=((min s.size n:Nat):Int) by omega]
 refine⟨s,0,min s.size n,rfl,⟨.i64,rfl⟩,rfl,Nat.zero_le _,Nat.min_le_left _ _,?_⟩
 (exact⟨_,⟨rfl,rfl⟩,SL.into hS Xi⟩)
def chOf(c:Chg)(k:Nat):Chg:=⟨md c.table k,if md c.key 31=30 then ((1+md c.key 1099511627776:Nat):Int) else ((1+md c.key 12:Nat):Int),c.gone,if c.gone then ⟨#[]⟩ else cutOf c.val 32⟩
theorem YK(c:Chg)(k:Nat)(h1:0<k)(h2:k≤8):Spec Tryz.prog 134 [agg (encChg c),.int .i64 k] [] (Gives (agg (encChg (chOf c k))) []):=by
 intro W F w hS;apply vc134;unfold Vc134;(try simp only[app]at hS)
 obtain⟨table,key,gone,val⟩:=c
 refine⟨_,rfl,zM hS ?_⟩
 clear hS;intro p w hS
 refine zM hS ?_
 clear hS;intro q w hS
 simp only[encChg]at hS
 have hm12:=md_lt key 12 (by decide)
 have hmb:=md_lt key 1099511627776 (by decide)
 have hme:(1:Int)+(md key 12:Int)=((1+md key 12:Nat):Int):=by omega
 have hmf:(1:Int)+(md key 1099511627776:Int)=((1+md key 1099511627776:Nat):Int):=by omega
 refine⟨λus w=>∃x:Nat,us=[.pointer (some ⟨x,0,none⟩)]∧SL W (.pt x [.int .i64 (md table k:Nat),.int .i64 ((1+md key 12:Nat):Int),.bool gone,.string ⟨#[]⟩] 170::.pt q [.int .i64 0,.int .i64 0,.bool false,.string ⟨#[]⟩] 170::.pt p [.int .i64 table,.int .i64 key,.bool gone,.string val] 170::F) w,?_,?_⟩
 ·refine zY hS ?_
  clear hS;intro w hS
  repeat first|refine Gp ?_|refine Gw λw hS=>?_|refine Gb λb w hS=>?_
  refine⟨?_,?_⟩
  ·(apply ze (zU table k h1 (by omega)) hS;exact Xp;clear hS)
   (rintro v post ⟨rfl,rfl⟩ w hS;(try simp only[app]at hS);(repeat (first|refine Gp ?_|refine Gw λw hS=>?_|refine Gb λb w hS=>?_)))
   refine⟨?_,?_⟩
   ·(apply ze (zX key 12 (by decide) (by decide)) hS;exact Xp;clear hS)
    (rintro v post ⟨rfl,rfl⟩ w hS;(try simp only[app]at hS);(repeat (first|refine Gp ?_|refine Gw λw hS=>?_|refine Gb λb w hS=>?_)))
    rw[hme]at hS
    exact⟨_,rfl,SL.into hS Xi⟩
   ·repeat first|refine Gp ?_|refine Gw λw hS=>?_|refine Gb λb w hS=>?_
    (apply ze (zX key 12 (by decide) (by decide)) hS;exact Xp;clear hS)
    (rintro v post ⟨rfl,rfl⟩ w hS;(try simp only[app]at hS);(repeat (first|refine Gp ?_|refine Gw λw hS=>?_|refine Gb λb w hS=>?_)))
    rw[hme]at hS
    exact⟨_,rfl,SL.into hS Xi⟩
  ·repeat first|refine Gp ?_|refine Gw λw hS=>?_|refine Gb λb w hS=>?_
   (apply ze (zU table k h1 (by omega)) hS;exact Xp;clear hS)
   (rintro v post ⟨rfl,rfl⟩ w hS;(try simp only[app]at hS);(repeat (first|refine Gp ?_|refine Gw λw hS=>?_|refine Gb λb w hS=>?_)))
   (apply ze (zX key 12 (by decide) (by decide)) hS;exact Xp;clear hS)
   (rintro v post ⟨rfl,rfl⟩ w hS;(try simp only[app]at hS);(repeat (first|refine Gp ?_|refine Gw λw hS=>?_|refine Gb λb w hS=>?_)))
   rw[hme]at hS
   exact⟨_,rfl,SL.into hS Xi⟩
 ·clear hS
  rintro v5 w ⟨x,hus,hS⟩
  cases hus
  refine⟨λus w=>us=[]∧SL W (.pt x [.int .i64 (md table k:Nat),.int .i64 (chOf ⟨table,key,gone,val⟩ k).key,.bool gone,.string ⟨#[]⟩] 170::.pt q [.int .i64 0,.int .i64 0,.bool false,.string ⟨#[]⟩] 170::.pt p [.int .i64 table,.int .i64 key,.bool gone,.string val] 170::F) w,?_,?_⟩
  ·repeat first|refine Gp ?_|refine Gw λw hS=>?_|refine Gb λb w hS=>?_
   (apply ze (zX key 31 (by decide) (by decide)) hS;exact Xp;clear hS)
   (rintro v post ⟨rfl,rfl⟩ w hS;(try simp only[app]at hS);(repeat (first|refine Gp ?_|refine Gw λw hS=>?_|refine Gb λb w hS=>?_)))
   refine zf (λh=>?_) (λh=>?_)
   ·have hk:(chOf ⟨table,key,gone,val⟩ k).key=((1+md key 1099511627776:Nat):Int):=by unfold chOf;simp only;rw[if_pos (by omega)]
    rw[hk]
    repeat first|refine Gp ?_|refine Gw λw hS=>?_|refine Gb λb w hS=>?_
    (apply ze (zX key 1099511627776 (by decide) (by decide)) hS;exact Xp;clear hS)
    (rintro v post ⟨rfl,rfl⟩ w hS;(try simp only[app]at hS);(repeat (first|refine Gp ?_|refine Gw λw hS=>?_|refine Gb λb w hS=>?_)))
    rw[hmf]at hS
    exact SL.into hS Xi
   ·have hk:(chOf ⟨table,key,gone,val⟩ k).key=((1+md key 12:Nat):Int):=by unfold chOf;simp only;rw[if_neg (by omega)]
    rw[hk]
    exact⟨rfl,SL.into hS Xi⟩
  ·clear hS
   rintro w ⟨-,hS⟩
   repeat first|refine Gp ?_|refine Gw λw hS=>?_|refine Gb λb w hS=>?_
   cases gone with
   | true=>
    refine zx ?_
    repeat first|refine Gp ?_|refine Gw λw hS=>?_|refine Gb λb w hS=>?_
    have e:encChg (chOf ⟨table,key,true,val⟩ k)=[.int .i64 (md table k:Nat),.int .i64 (chOf ⟨table,key,true,val⟩ k).key,.bool true,.string ⟨#[]⟩]:=rfl
    rw[e]
    (exact⟨_,⟨rfl,rfl⟩,SL.into hS Xi⟩)
   | false=>
    refine zz ?_
    repeat first|refine Gp ?_|refine Gw λw hS=>?_|refine Gb λb w hS=>?_
    (apply ze (Qo val 32) hS;exact Xp;clear hS)
    (rintro v post ⟨rfl,rfl⟩ w hS;(try simp only[app]at hS);(repeat (first|refine Gp ?_|refine Gw λw hS=>?_|refine Gb λb w hS=>?_)))
    have e:encChg (chOf ⟨table,key,false,val⟩ k)=[.int .i64 (md table k:Nat),.int .i64 (chOf ⟨table,key,false,val⟩ k).key,.bool false,.string (cutOf val 32)]:=rfl
    rw[e]
    (exact⟨_,⟨rfl,rfl⟩,SL.into hS Xi⟩)
end Go.Proofs.YtnmhmnnadkclbaaGreat
namespace Go.Proofs.YtnmhmnnadkclbaaGreat
set_option linter.unusedVariables false
set_option maxRecDepth 100000
open Go.RowKit
abbrev RqO(v:Value)(l:List Rq):Chunk:=.ob (OwnSl v 89 7 l.length (l.map encRq).flatten)
def openR(L:List Rq):List Rq:=L.filter λr=>!r.done
theorem openR_take{L:List Rq}{i:Nat}(h:i<L.length):openR (L.take (i+1))=if L[i].done=true then openR (L.take i) else openR (L.take i)++[L[i]]:=by
 unfold openR
 rw[List.take_succ_eq_append_getElem h,List.filter_append]
 cases hd:L[i].done<;>simp[hd]
theorem Yy(H:Heap)(v:Value)(L:List Rq)(hv:RdRq H v L)(hL:L.length≤1000):Spec Tryz.prog 160 [v] [.mem H] (λu post=>post=[RqO u (openR L),.mem H]):=by
 intro W F w hS;apply vc160;unfold Vc160;(try simp only[app]at hS)
 have hS:SL W (RqO (.slice none 0 0) (openR (L.take 0))::_) _:=OwnSl.nil hS
 refine⟨λus w=>∃(i:Nat) (u:Value),us=[u,.int .i64 i]∧i≤L.length∧SL W (RqO u (openR (L.take i))::.mem H::F) w,
  λus _=>match us with|[_,.int _ i]=>(L.length-i).toNat|_=>0,⟨0,_,rfl,by omega,hS⟩,?_⟩
 clear hS
 rintro u v4 w ⟨i,_,hus,hi,hS⟩
 cases hus
 refine zq hv ?_
 repeat first|refine Gp ?_|refine Gw λw hS=>?_|refine Gb λb w hS=>?_
 refine zf (λh=>?_) (λh=>?_)
 ·have hil:i<L.length:=by omega
  have ht:=openR_take hil
  have hol:(openR (L.take i)).length≤i:=Nat.le_trans (List.length_filter_le _ _) (by rw[List.length_take];omega)
  refine zZ hS Xh encRq_len hv (x:=L[i]) (by simp[hil]) hil (i:=6) rfl ?_
  repeat first|refine Gp ?_|refine Gw λw hS=>?_|refine Gb λb w hS=>?_
  refine zI (λhd=>?_) (λhd=>?_)
  ·rw[if_neg (by rw[hd];decide)]at ht
   refine zK hS Xh encRq_len hv (x:=L[i]) (by simp[hil]) hil ?_
   repeat first|refine Gp ?_|refine Gw λw hS=>?_|refine Gb λb w hS=>?_
   refine yo (n:=(openR (L.take i)).length) (xs:=openR (L.take i)) (y:=L[i]) (enc:=encRq) hS Xr Xh encRq_len encRq_one rfl (by omega) (by omega) λu2 w hS=>?_
   repeat first|refine Gp ?_|refine Gw λw hS=>?_|refine Gb λb w hS=>?_
   refine⟨⟨i+1,u2,rfl,by omega,?_⟩,by dsimp only;omega⟩
   rw[ht]
   exact SL.into (hS.snocL (x:=L[i])) Xi
  ·rw[if_pos hd]at ht
   repeat first|refine Gp ?_|refine Gw λw hS=>?_|refine Gb λb w hS=>?_
   refine⟨⟨i+1,u,rfl,by omega,?_⟩,by dsimp only;omega⟩
   rw[ht];exact hS
 ·have:i=L.length:=by omega
  subst this
  rw[List.take_length]at hS
  exact⟨_,rfl,hS⟩
theorem acceptR_eq{L L':List Rq}{t w a:Int}(h:acceptR L t w a=some L'):L'=L++[newRq L t w a]:=by
 unfold acceptR at h
 split at h
 ·cases h;rfl
 ·cases h
theorem acceptR_in{L L':List Rq}{t w a:Int}(h:acceptR L t w a=some L'):1≤L'.length∧L'.length≤64∧0≤t∧t<8∧1≤w∧w≤8∧1≤a:=by
 have hM:=acceptR_may h
 have he:=acceptR_eq h
 have hl:L'.length=L.length+1:=by rw[he];simp
 have h1:=(hM.2 L.length (by omega)).1
 have e:L'[L.length]=newRq L t w a:=by simp[he]
 rw[e]at h1
 unfold okRq newRq at h1
 exact⟨by omega,hM.1,h1.2.1,h1.2.2.1,h1.2.2.2.1,h1.2.2.2.2.1,h1.2.2.2.2.2.1⟩
theorem chunkR_in{L L':List Rq}{id c:Int}{dn:Bool}(h:chunkR L id c dn=some L'):MayP L∧1≤id∧id≤L.length∧c≤1099511627776:=by
 unfold chunkR at h
 split at h
 ·rename_i hc
  split at h
  ·split at h
   ·cases h
   ·rename_i r _ hn
    exact⟨hc.1,hc.2.1,hc.2.2,by
     rcases Int.lt_or_le 1099511627776 c with h2|h2
     ·exact absurd (.inr (.inr (.inl h2))) hn
     ·exact h2⟩
  ·cases h
 ·cases h
theorem notesR_snoc{L L1:List Rq}{n:PNote}:∀{l:List PNote},notesR L l=some L1→notesR L (l++[n])=noteR L1 n
 | [],h=>by
  cases h
  show (match noteR L n with|some L'=>notesR L' []|none=>none)=_
  cases noteR L n<;>rfl
 | x::l,h=>by
  unfold notesR at h
  show (match noteR L x with|some L'=>notesR L' (l++[n])|none=>none)=_
  cases hx:noteR L x with
  | none=>rw[hx]at h;cases h
  | some L'=>rw[hx]at h;exact notesR_snoc h
structure NtOk(L:List Rq)(lsn:Int)(out:List PNote)(L':List Rq):Prop where
 run:notesR L out=some L'
 may:∀n∈out,mayNote n lsn=true
 rq:MayP L'
theorem NtOk.snoc{L:List Rq}{lsn:Int}{out:List PNote}{L1 L2:List Rq}(h:NtOk L lsn out L1){n:PNote}(hn:noteR L1 n=some L2)(hm:mayNote n lsn=true)(hM:MayP L2):NtOk L lsn (out++[n]) L2:=
 ⟨by rw[notesR_snoc h.run];exact hn,λx hx=>by
  rcases List.mem_append.1 hx with hx|hx
  ·exact h.may x hx
  ·rw[List.mem_singleton.1 hx];exact hm,hM⟩
theorem y6(H:Heap)(rv nv:Value)(L:List Rq)(NL:List PNote)(lsn:Int)(hr:RdRq H rv L)(hM:MayP L)(hn:RdNts H nv NL)(hl:1≤lsn)(hnl:NL.length≤140737488351232):
  Spec Tryz.prog 75 [rv,nv,.int .i64 lsn] [.mem H] (λu post=>∃out L' H',H.le H'∧RdNts H' u out∧out.length≤3∧NtOk L lsn out L'∧post=[.mem H']):=by
 intro W F w hS;apply vc75;unfold Vc75;(try simp only[app]at hS)
 have hS:SL W (NtO (.slice none 0 0) []::_) _:=OwnSl.nil hS
 refine⟨λus w=>∃(i:Nat) (L1:List Rq) (lv ov:Value) (out:List PNote) (H2:Heap),us=[lv,ov,.int .i64 i]∧i≤NL.length∧i≤3∧out.length≤i∧NtOk L lsn out L1∧H.le H2∧RdRq H2 lv L1∧SL W (NtO ov out::.mem H2::F) w,
  λus _=>match us with|[_,_,.int _ i]=>(NL.length-i).toNat|_=>0,⟨0,L,rv,.slice none 0 0,[],H,rfl,by omega,by omega,by simp,⟨rfl,by simp,hM⟩,Heap.le_refl H,hr,hS⟩,?_⟩
 clear hS
 rintro lv ov v8 w ⟨i,L1,_,_,out,H2,hus,hi,hi3,hol,hO,h02,hlv,hS⟩
 cases hus
 have hend:∀{w:World},SL W (NtO ov out::.mem H2::F) w→∃post,(∃out L' H',H.le H'∧RdNts H' ov out∧out.length≤3∧NtOk L lsn out L'∧post=[.mem H'])∧SL W (app post F) w:=λhS=>by
  obtain⟨H3,h23,hR,hS⟩:=OwnSl.freeze (hS.perm (.swap _ _ _))
  exact⟨_,⟨out,L1,H3,Heap.le_trans h02 h23,hR,by omega,hO,rfl⟩,hS⟩
 have hn2:=hn.mono h02
 have hL64:=hO.rq.1
 refine zq hn ?_
 repeat first|refine Gp ?_|refine Gw λw hS=>?_|refine Gb λb w hS=>?_
 refine zf (λh=>?_) (λh=>hend hS)
 repeat first|refine Gp ?_|refine Gw λw hS=>?_|refine Gb λb w hS=>?_
 refine zf (λh3=>?_) (λh3=>hend hS)
 have hil:i<NL.length:=by omega
 have hx:NL[i]?=some NL[i]:=List.getElem?_eq_getElem hil
 (apply ze (Yy H2 lv L1 hlv (by omega)) hS;exact Xp;clear hS)
 rintro qv post rfl w hS
 (try simp only[app]at hS)
 have hql:(openR L1).length≤64:=Nat.le_trans (List.length_filter_le _ _) hL64
 refine⟨λus w=>∃q:Bool,us=[.bool q]∧(q=false→0<(openR L1).length)∧SL W (RqO qv (openR L1)::NtO ov out::.mem H2::F) w,?_,?_⟩
 ·refine zZ hS Xh encNote_len hn2 hx hil (i:=0) rfl ?_
  (apply ze (zU NL[i].kind 2 (by decide) (by decide)) hS;exact Xp;clear hS)
  (rintro v post ⟨rfl,rfl⟩ w hS;(try simp only[app]at hS);(repeat (first|refine Gp ?_|refine Gw λw hS=>?_|refine Gb λb w hS=>?_)))
  refine zf (λh0=>?_) (λh0=>?_)
  ·exact⟨true,rfl,λh=>by (cases h),SL.into hS Xi⟩
  ·refine zy hS (v:=qv) Xh ?_
   repeat first|refine Gp ?_|refine Gw λw hS=>?_|refine Gb λb w hS=>?_
   exact⟨_,rfl,λh=>by have:=of_decide_eq_false h;omega,SL.into hS Xi⟩
 clear hS
 rintro v39 w ⟨q,hus,hq,hS⟩
 cases hus
 refine yI (λhqt=>?_) (λhqf=>?_)
 ·repeat first|refine Gp ?_|refine Gw λw hS=>?_|refine Gb λb w hS=>?_
  refine zZ hS Xh encNote_len hn2 hx hil (i:=2) rfl ?_
  refine yG hn2 hil λab ao hb=>zS ?_
  have hc3:=hb 3 (.int .i64 NL[i].weight) (by decide) (flat_at encNote_len NL i 3 _ _ hx rfl)
  refine yC hS Xh hc3 ?_
  (apply ze (zU NL[i].table 2 (by decide) (by decide)) hS;exact Xp;clear hS)
  (rintro v post ⟨rfl,rfl⟩ w hS;(try simp only[app]at hS);(repeat (first|refine Gp ?_|refine Gw λw hS=>?_|refine Gb λb w hS=>?_)))
  refine yC hS Xh hc3 ⟨rfl,?_⟩
  have hmw:=md_lt NL[i].weight 8 (by decide)
  (apply ze (zU NL[i].weight 8 (by decide) (by decide)) hS;exact Xp;clear hS)
  (rintro v post ⟨rfl,rfl⟩ w hS;(try simp only[app]at hS);(repeat (first|refine Gp ?_|refine Gw λw hS=>?_|refine Gb λb w hS=>?_)))
  (apply ze (y9 H2 lv L1 (md NL[i].table 2) (1+md NL[i].weight 8) lsn hlv (by omega)) hS;exact Xp;clear hS)
  rintro r post ⟨H3,h23,rfl,hqa⟩ w hS
  have h03:=Heap.le_trans h02 h23
  generalize (md NL[i].table 2:Int)=tb at *
  generalize (1+(md NL[i].weight 8:Int))=wt at *
  cases hc:acceptR L1 tb wt lsn with
  | none=>
   rw[hc]at hqa
   obtain rfl:=hqa
   (try simp only[app]at hS)
   repeat first|refine Gp ?_|refine Gw λw hS=>?_|refine Gb λb w hS=>?_
   exact⟨⟨i+1,L1,lv,ov,out,H3,rfl,by omega,by omega,by omega,hO,h03,hlv.mono h23,SL.into hS Xi⟩,by dsimp only;omega⟩
  | some L2=>
   rw[hc]at hqa
   obtain⟨y,rfl,hy⟩:=hqa
   obtain⟨a1,a2,a3,a4,a5,a6,a7⟩:=acceptR_in hc
   have he:=acceptR_eq hc
   have hl2:L2.length=L1.length+1:=by rw[he];simp
   have hj:L2.length-1<L2.length:=by omega
   have hlast:L2[L2.length-1]?=some (newRq L1 tb wt lsn):=by
    rw[hl2,he];simp
   (try simp only[app]at hS)
   repeat first|refine Gp ?_|refine Gw λw hS=>?_|refine Gb λb w hS=>?_
   refine zq hy ?_
   refine zq hy ?_
   repeat first|refine Gp ?_|refine Gw λw hS=>?_|refine Gb λb w hS=>?_
   rw[show (L2.length:Int)-1=((L2.length-1:Nat):Int) by omega]
   refine zZ hS Xh encRq_len hy hlast hj (i:=1) (u:=.int .i64 tb) rfl ?_
   refine zq hy ?_
   repeat first|refine Gp ?_|refine Gw λw hS=>?_|refine Gb λb w hS=>?_
   rw[show (L2.length:Int)-1=((L2.length-1:Nat):Int) by omega]
   refine zZ hS Xh encRq_len hy hlast hj (i:=2) (u:=.int .i64 wt) rfl ?_
   repeat first|refine Gp ?_|refine Gw λw hS=>?_|refine Gb λb w hS=>?_
   have hno:noteR L1 ⟨1,(L2.length:Int),tb,wt,lsn,0,false⟩=some L2:=by
    unfold noteR
    rw[if_neg (by show ¬(1:Int)=2;decide)]
    simp only[hc]
    rw[if_pos trivial]
   have hmn:mayNote ⟨1,(L2.length:Int),tb,wt,lsn,0,false⟩ lsn=true:=by
    unfold mayNote
    rw[decide_eq_true_iff]
    exact⟨by show (1:Int)≤(L2.length:Int);omega,by show (L2.length:Int)≤64;omega,.inl ⟨rfl,a3,a4,a5,a6,a7,Int.le_refl _,rfl,rfl⟩⟩
   refine yo (n:=out.length) (xs:=out) (y:=⟨1,(L2.length:Int),tb,wt,lsn,0,false⟩) (enc:=encNote) hS Xr Xh encNote_len encNote_one rfl (by omega) (by omega) λu w hS=>?_
   repeat first|refine Gp ?_|refine Gw λw hS=>?_|refine Gb λb w hS=>?_
   refine⟨⟨i+1,L2,y,u,_,H3,rfl,by omega,by omega,by rw[List.length_append,List.length_singleton];omega,hO.snoc hno hmn (acceptR_may hc),h03,hy,?_⟩,by dsimp only;omega⟩
   exact SL.into (hS.snocL (x:=⟨1,(L2.length:Int),tb,wt,lsn,0,false⟩)) Xi
 ·have hq0:=hq hqf
  refine zZ hS Xh encNote_len hn2 hx hil (i:=1) rfl ?_
  refine zy hS (v:=qv) Xh ?_
  have hmj:=md_lt NL[i].id (openR L1).length hq0
  (apply ze (zU NL[i].id (openR L1).length hq0 (by omega)) hS;exact Xp;clear hS)
  (rintro v post ⟨rfl,rfl⟩ w hS;(try simp only[app]at hS);(repeat (first|refine Gp ?_|refine Gw λw hS=>?_|refine Gb λb w hS=>?_)))
  generalize hjj:md NL[i].id (openR L1).length=j at *
  refine Za hS (v:=qv) (enc:=encRq) (xs:=openR L1) Xh encRq_len (List.getElem?_eq_getElem hmj) hmj ?_
  have hrm:(openR L1)[j]∈L1:=(List.mem_filter.1 (List.getElem_mem hmj)).1
  generalize (openR L1)[j]=r at *
  have hcur:=hO.rq.cur r hrm
  obtain⟨jr,hjr,hje⟩:=List.getElem_of_mem hrm
  have hrid:r.id=((jr:Nat):Int)+1:=by have:=(hO.rq.2 jr hjr).1.1;rw[hje]at this;exact this
  obtain⟨rid,rt,rw_,rat,rcur,rch,rd⟩:=r
  simp only at hcur hrid
  refine Gb λrb w hS=>?_
  unfold encRq at hS
  simp only at hS
  have hmc:=md_lt NL[i].cursor 4 (by decide)
  refine⟨λus w=>∃nb:Nat,us=[ptrO nb]∧SL W (.pt nb [.int .i64 2,.int .i64 rid,.int .i64 0,.int .i64 0,.int .i64 0,.int .i64 (rcur+md NL[i].cursor 4),.bool NL[i].done] 98::NtO ov out::.mem H2::F) w,?_,?_⟩
  ·repeat first|refine Gp ?_|refine Gw λw hS=>?_|refine Gb λb w hS=>?_
   refine yG hn2 hil λab ao hb=>zS ?_
   have hc5:=hb 5 (.int .i64 NL[i].cursor) (by decide) (flat_at encNote_len NL i 5 _ _ hx rfl)
   have hc6:=hb 6 (.bool NL[i].done) (by decide) (flat_at encNote_len NL i 6 _ _ hx rfl)
   have hSv:∀{w:World} {l:List Chunk},SL W l w→Has (.mem H2) l→True:=λ_ _=>trivial
   refine yC hS Xh hc5 ?_
   refine yG hn2 hil λab2 ao2 hb2=>zS ?_
   have hc62:=hb2 6 (.bool NL[i].done) (by decide) (flat_at encNote_len NL i 6 _ _ hx rfl)
   refine yC hS Xh hc62 ?_
   refine⟨?_,?_⟩
   ·(apply ze (zX NL[i].cursor 4 (by decide) (by decide)) hS;exact Xp;clear hS)
    (rintro v post ⟨rfl,rfl⟩ w hS;(try simp only[app]at hS);(repeat (first|refine Gp ?_|refine Gw λw hS=>?_|refine Gb λb w hS=>?_)))
    refine yC hS Xh hc62 ⟨rfl,?_⟩
    repeat first|refine Gp ?_|refine Gw λw hS=>?_|refine Gb λb w hS=>?_
    refine yC hS Xh hc62 ⟨rfl,?_⟩
    repeat first|refine Gp ?_|refine Gw λw hS=>?_|refine Gb λb w hS=>?_
    exact⟨_,rfl,SL.into hS Xi⟩
   ·repeat first|refine Gp ?_|refine Gw λw hS=>?_|refine Gb λb w hS=>?_
    refine yC hS Xh hc5 ⟨rfl,?_⟩
    refine yC hS Xh hc62 ⟨rfl,?_⟩
    (apply ze (zX NL[i].cursor 4 (by decide) (by decide)) hS;exact Xp;clear hS)
    (rintro v post ⟨rfl,rfl⟩ w hS;(try simp only[app]at hS);(repeat (first|refine Gp ?_|refine Gw λw hS=>?_|refine Gb λb w hS=>?_)))
    refine yC hS Xh hc62 ⟨rfl,?_⟩
    repeat first|refine Gp ?_|refine Gw λw hS=>?_|refine Gb λb w hS=>?_
    exact⟨_,rfl,SL.into hS Xi⟩
  clear hS
  rintro v13 w ⟨nb,hus,hS⟩
  cases hus
  generalize hcu:rcur+(md NL[i].cursor 4:Int)=cu at *
  repeat first|refine Gp ?_|refine Gw λw hS=>?_|refine Gb λb w hS=>?_
  (apply ze (Zp H2 lv L1 rid cu NL[i].done hlv (by omega) (by omega)) hS;exact Xp;clear hS)
  rintro r post ⟨H3,h23,rfl,hqa⟩ w hS
  have h03:=Heap.le_trans h02 h23
  cases hc:chunkR L1 rid cu NL[i].done with
  | none=>
   rw[hc]at hqa
   obtain rfl:=hqa
   (try simp only[app]at hS)
   repeat first|refine Gp ?_|refine Gw λw hS=>?_|refine Gb λb w hS=>?_
   exact⟨⟨i+1,L1,lv,ov,out,H3,rfl,by omega,by omega,by omega,hO,h03,hlv.mono h23,SL.into hS Xi⟩,by dsimp only;omega⟩
  | some L2=>
   rw[hc]at hqa
   obtain⟨y,rfl,hy⟩:=hqa
   obtain⟨b1,b2,b3,b4⟩:=chunkR_in hc
   (try simp only[app]at hS)
   repeat first|refine Gp ?_|refine Gw λw hS=>?_|refine Gb λb w hS=>?_
   have hno:noteR L1 ⟨2,rid,0,0,0,cu,NL[i].done⟩=some L2:=by
    unfold noteR
    rw[if_pos rfl];exact hc
   have hmn:mayNote ⟨2,rid,0,0,0,cu,NL[i].done⟩ lsn=true:=by
    unfold mayNote
    rw[decide_eq_true_iff]
    exact⟨b2,by show rid≤64;omega,.inr ⟨rfl,rfl,rfl,rfl,by show 0≤cu;omega,b4⟩⟩
   refine yo (n:=out.length) (xs:=out) (y:=⟨2,rid,0,0,0,cu,NL[i].done⟩) (enc:=encNote) hS Xr Xh encNote_len encNote_one rfl (by omega) (by omega) λu w hS=>?_
   repeat first|refine Gp ?_|refine Gw λw hS=>?_|refine Gb λb w hS=>?_
   refine⟨⟨i+1,L2,y,u,_,H3,rfl,by omega,by omega,by rw[List.length_append,List.length_singleton];omega,hO.snoc hno hmn (chunkR_may hc),h03,hy,?_⟩,by dsimp only;omega⟩
   exact SL.into (hS.snocL (x:=⟨2,rid,0,0,0,cu,NL[i].done⟩)) Xi
def opI(o:AOp)(k L:Nat):AOp:=⟨1+md o.lsn L,(chOf ⟨o.table,o.key,o.gone,o.val⟩ k).table,(chOf ⟨o.table,o.key,o.gone,o.val⟩ k).key,(chOf ⟨o.table,o.key,o.gone,o.val⟩ k).gone,(chOf ⟨o.table,o.key,o.gone,o.val⟩ k).val⟩
def piOf(t:PItem)(k lsn:Nat):PItem:=⟨((lsn+1+md t.lsn 3:Nat):Int),(t.ops.take 5).map λo=>opI o k (lsn+1+md t.lsn 3),[]⟩
theorem chOf_more(c:Chg)(k:Nat)(hk:0<k)(hk8:k≤8):0≤(chOf c k).table∧(chOf c k).table<k∧1≤(chOf c k).key∧(chOf c k).key≤1099511627776∧(chOf c k).val.size≤32∧((chOf c k).gone=true→(chOf c k).val=emp):=by
 have h1:=md_lt c.table k hk
 have h2:=md_lt c.key 12 (by decide)
 have h3:=md_lt c.key 1099511627776 (by decide)
 refine⟨Int.natCast_nonneg _,by show (md c.table k:Int)<k;omega,?_,?_,?_,?_⟩
 ·unfold chOf;simp only;split<;>omega
 ·unfold chOf;simp only;split<;>omega
 ·unfold chOf;simp only;split
  ·decide
  ·unfold cutOf;rw[ByteArray.size_extract];omega
 ·intro h
  have h:c.gone=true:=h
  unfold chOf;simp only;rw[if_pos h];rfl
theorem piOf_may(t:PItem)(k lsn:Nat)(hk:0<k)(hk8:k≤8)(hl:lsn+3≤1099511627776){out:List PNote}(ho:out.length≤256)(hm:∀n∈out,mayNote n (piOf t k lsn).lsn=true):mayItem {piOf t k lsn with notes:=out}=true:=by
 have h3:=md_lt t.lsn 3 (by decide)
 refine mayItem_iff.2 ⟨⟨by show (1:Int)≤((lsn+1+md t.lsn 3:Nat):Int);omega,by show ((lsn+1+md t.lsn 3:Nat):Int)≤_;omega,?_,ho⟩,λo hx=>?_,hm⟩
 ·show ((t.ops.take 5).map _).length≤4096
  rw[List.length_map,List.length_take];omega
 ·obtain⟨o,_,rfl⟩:=List.mem_map.1 hx
  obtain⟨c1,c2,c3,c4,c5,c6⟩:=chOf_more ⟨o.table,o.key,o.gone,o.val⟩ k hk hk8
  have hb:=md_lt o.lsn (lsn+1+md t.lsn 3) (by omega)
  unfold mayOp
  rw[decide_eq_true_iff]
  refine⟨by show (1:Int)≤1+(md o.lsn _:Int);omega,by show 1+(md o.lsn (lsn+1+md t.lsn 3):Int)≤((lsn+1+md t.lsn 3:Nat):Int);omega,c1,by show (chOf ⟨o.table,o.key,o.gone,o.val⟩ k).table<8;omega,c3,c4,c5,c6⟩
theorem piOf_tabs(t:PItem)(k lsn:Nat)(hk:0<k)(hk8:k≤8)(out:List PNote):tabsOk k {piOf t k lsn with notes:=out}=true:=by
 unfold tabsOk
 rw[List.all_eq_true]
 intro o hx
 obtain⟨o,_,rfl⟩:=List.mem_map.1 hx
 exact decide_eq_true (chOf_more ⟨o.table,o.key,o.gone,o.val⟩ k hk hk8).2.1
theorem ZO(H:Heap)(x:ItV)(t:PItem)(hx:ItIs H x t)(k lsn:Nat)(hk:0<k)(hk8:k≤8)(hl:lsn≤1000000000000000)(hn:t.ops.length≤140737488351232):
  Spec Tryz.prog 53 [agg (encIt x),.int .i64 k,.int .i64 lsn] [.mem H] (λu post=>∃ov H',H.le H'∧u=agg [.int .i64 (piOf t k lsn).lsn,ov,.slice none 0 0]∧RdOps H' ov (piOf t k lsn).ops∧post=[.mem H']):=by
 intro W F w hS;apply vc53;unfold Vc53;(try simp only[app]at hS)
 refine zP hS λxb w hS=>?_
 have ex:encIt x=[.int .i64 t.lsn,x.ov,x.nv]:=by unfold encIt;rw[hx.lsn]
 rw[ex]at hS
 refine Gb λzb w hS=>?_
 have hm3:=md_lt t.lsn 3 (by decide)
 repeat first|refine Gp ?_|refine Gw λw hS=>?_|refine Gb λb w hS=>?_
 (apply ze (zX t.lsn 3 (by decide) (by decide)) hS;exact Xp;clear hS)
 rintro v post ⟨rfl,rfl⟩ w hS
 (try simp only[app]at hS)
 refine Qb ?_
 have hP:(piOf t k lsn).lsn=((lsn+1+md t.lsn 3:Nat):Int):=rfl
 have hOps:(piOf t k lsn).ops=(t.ops.take 5).map λo=>opI o k (lsn+1+md t.lsn 3):=rfl
 rw[hP,hOps]
 generalize hLL:lsn+1+md t.lsn 3=L at *
 refine Gp ?_
 refine Gb λib w hS=>?_
 have hS:=OwnSl.nil (t:=96) (sz:=5) hS
 have hS:SL W (OpO (.slice none 0 0) ((t.ops.take 0).map λo=>opI o k L)::_) _:=hS
 refine⟨λus w=>∃(i:Nat) (ov:Value),us=[.int .i64 i]∧i≤t.ops.length∧i≤5∧SL W (OpO ov ((t.ops.take i).map λo=>opI o k L)::.pt ib [.int .i64 (L:Nat),ov,.slice none 0 0] 46::.pt zb [.int .i64 0,.slice none 0 0,.slice none 0 0] 46::.pt xb [.int .i64 t.lsn,x.ov,x.nv] 46::.mem H::F) w,
  λus _=>match us with|[.int _ i]=>(t.ops.length-i).toNat|_=>0,⟨0,.slice none 0 0,rfl,by omega,by omega,SL.into hS Xi⟩,?_⟩
 clear hS
 rintro v8 w ⟨i,ov,hus,hi,hi5,hS⟩
 cases hus
 have hend:i=min 5 t.ops.length→∀{w:World},SL W (OpO ov ((t.ops.take i).map λo=>opI o k L)::.pt ib [.int .i64 (L:Nat),ov,.slice none 0 0] 46::.pt zb [.int .i64 0,.slice none 0 0,.slice none 0 0] 46::.pt xb [.int .i64 t.lsn,x.ov,x.nv] 46::.mem H::F) w →
   zj 3 (ptrO ib) w λv65=>zp 3 (ptrO zb) v65 w λw_17=>zj 3 (ptrO zb) w_17 λr=>∃post,(∃ov H',H.le H'∧r=agg [.int .i64 (L:Nat),ov,.slice none 0 0]∧RdOps H' ov ((t.ops.take 5).map λo=>opI o k L)∧post=[.mem H'])∧SL W (app post F) w_17:=λe w hS=>by
  have h1:=OwnSl.one hS
  have et:t.ops.take 5=t.ops.take i:=by rw[List.take_eq_take_iff];omega
  obtain⟨H1,h01,hR,hS⟩:=OwnSl.freeze (SL.into hS (t:=.mem H::OpO ov ((t.ops.take i).map λo=>opI o k L)::.pt ib [.int .i64 (L:Nat),ov,.slice none 0 0] 46::.pt zb [.int .i64 0,.slice none 0 0,.slice none 0 0] 46::F) Xi)
  refine zE hS Xh rfl ?_
  refine zV (vs:=[.int .i64 (L:Nat),ov,.slice none 0 0]) hS Xu rfl rfl (λv hv=>by
   simp only[List.mem_cons,List.not_mem_nil,or_false]at hv
   rcases hv with rfl|rfl|rfl
   ·rfl
   ·exact h1
   ·rfl) λw hS=>?_
  repeat first|refine Gp ?_|refine Gw λw hS=>?_|refine Gb λb w hS=>?_
  exact⟨_,⟨ov,H1,h01,rfl,by rw[et];exact hR,rfl⟩,SL.into hS Xi⟩
 repeat first|refine Gp ?_|refine Gw λw hS=>?_|refine Gb λb w hS=>?_
 refine zq hx.ops ?_
 repeat first|refine Gp ?_|refine Gw λw hS=>?_|refine Gb λb w hS=>?_
 refine zf (λh=>?_) (λh=>hend (by omega) hS)
 repeat first|refine Gp ?_|refine Gw λw hS=>?_|refine Gb λb w hS=>?_
 refine zf (λh5=>?_) (λh5=>hend (by omega) hS)
 have hil:i<t.ops.length:=by omega
 repeat first|refine Gp ?_|refine Gw λw hS=>?_|refine Gb λb w hS=>?_
 refine zK hS Xh encOp_len' hx.ops (x:=t.ops[i]) (by simp[hil]) hil ?_
 have ht:(t.ops.take (i+1)).map (λo=>opI o k L)=(t.ops.take i).map (λo=>opI o k L)++[opI t.ops[i] k L]:=by rw[List.take_succ_eq_append_getElem hil,List.map_append];rfl
 generalize t.ops[i]=o at *
 obtain⟨ol,ot,ok,og,oval⟩:=o
 refine Gb λob w hS=>?_
 unfold encOp at hS
 simp only at hS
 have hLpos:0<L:=by omega
 repeat first|refine Gp ?_|refine Gw λw hS=>?_|refine Gb λb w hS=>?_
 (apply ze (YK ⟨ot,ok,og,oval⟩ k hk hk8) hS;exact Xp;clear hS)
 rintro v post ⟨rfl,rfl⟩ w hS
 (try simp only[app]at hS)
 have ho:opI ⟨ol,ot,ok,og,oval⟩ k L=⟨1+md ol L,(chOf ⟨ot,ok,og,oval⟩ k).table,(chOf ⟨ot,ok,og,oval⟩ k).key,(chOf ⟨ot,ok,og,oval⟩ k).gone,(chOf ⟨ot,ok,og,oval⟩ k).val⟩:=rfl
 rw[ho]at ht
 generalize chOf ⟨ot,ok,og,oval⟩ k=c at *
 obtain⟨ct,ck,cg,cv⟩:=c
 simp only at ht
 have hml:=md_lt ol L hLpos
 repeat first|refine Gp ?_|refine Gw λw hS=>?_|refine Gb λb w hS=>?_
 (apply ze (zX ol L hLpos (by omega)) hS;exact Xp;clear hS)
 (rintro v post ⟨rfl,rfl⟩ w hS;(try simp only[app]at hS);(repeat (first|refine Gp ?_|refine Gw λw hS=>?_|refine Gb λb w hS=>?_)))
 refine yo (n:=((t.ops.take i).map λo=>opI o k L).length) (xs:=(t.ops.take i).map λo=>opI o k L) (y:=⟨1+md ol L,ct,ck,cg,cv⟩) (enc:=encOp) hS Xr Xh encOp_len' (λx=>encOp_one x) rfl (by rw[List.length_map,List.length_take];omega) (by rw[List.length_map,List.length_take];omega) λu w hS=>?_
 have h1:=OwnSl.one hS
 repeat first|refine Gp ?_|refine Gw λw hS=>?_|refine Gb λb w hS=>?_
 refine⟨⟨i+1,u,rfl,by omega,by omega,?_⟩,by dsimp only;omega⟩
 rw[ht]
 exact SL.into (hS.snocL (x:=⟨1+md ol L,ct,ck,cg,cv⟩)) Xi
theorem enc18_it{y:O18V}:∀j v,(encIt y.it)[j]?=some v→(enc18 y)[2+j]?=some v
 | 0,v,h=>h
 | 1,v,h=>h
 | 2,v,h=>h
 | j+3,v,h=>by simp[encIt]at h
structure IQ(k:PSink)(o:O18)(z:PItem):Prop where
 ok:IOk z
 keys:∀x∈z.ops,inI64 x.key
 may:md o.n 13=0→k.ts.length=2→k.lsn+3≤1099511627776→k.lsn<z.lsn∧z.lsn≤k.lsn+3∧∃L,fitsR 2 k.reqs z=some L
theorem piOf_iok(t:PItem)(k lsn:Nat)(hk:0<k)(hk8:k≤8){out:List PNote}(ho:out.length≤3)(hm:∀n∈out,∃l,mayNote n l=true):IOk {piOf t k lsn with notes:=out}∧∀x∈(piOf t k lsn).ops,inI64 x.key:=by
 refine⟨⟨λn hn=>?_,?_,by show out.length≤_;omega⟩,λx hx=>?_⟩
 ·obtain⟨l,h⟩:=hm n hn
  unfold mayNote at h
  rw[decide_eq_true_eq]at h
  unfold inI64;omega
 ·show ((t.ops.take 5).map _).length≤_
  rw[List.length_map,List.length_take];omega
 ·obtain⟨o,_,rfl⟩:=List.mem_map.1 hx
  have:=chOf_more ⟨o.table,o.key,o.gone,o.val⟩ k hk hk8
  unfold inI64
  show -9223372036854775808≤(chOf ⟨o.table,o.key,o.gone,o.val⟩ k).key∧(chOf ⟨o.table,o.key,o.gone,o.val⟩ k).key≤_
  omega
theorem YG(rkp xp rlp rp:Nat)(H:Heap)(k:PSink)(xo:O18V)(o:O18)(hx:Is18 H xo o)(hok:ok18 o)(hlsn:0≤k.lsn∧k.lsn≤1099511627776)(hM:MayP k.reqs):
  Spec Tryz.prog 17 [ptrO rkp,agg (enc18 xo)] [.ob (RSnkO rkp xp rlp rp H k),.mem H] (λv post=>∃xv z H',H.le H'∧v=agg (encIt xv)∧ItIs H' xv z∧IQ k o z∧post=[.ob (RSnkO rkp xp rlp rp H' k),.mem H']):=by
 intro W F w hS;apply vc17;unfold Vc17;(try simp only[app]at hS)
 refine zP hS λab w hS=>?_
 obtain⟨lsn,hls⟩:=Int.eq_ofNat_of_zero_le hlsn.1
 have hit:=hx.it
 refine Gb λzb w hS=>?_
 have hdone:∀{w:World} {l:List Chunk} {xv:ItV} {z:PItem} {H':Heap},H.le H'→ItIs H' xv z→IQ k o z→SL W (.pt zb [.int .i64 0,.slice none 0 0,.slice none 0 0] 46::.ob (RSnkO rkp xp rlp rp H' k)::.mem H'::l) w→(∀w',SL W (.ob (RSnkO rkp xp rlp rp H' k)::.mem H'::.pt zb (encIt xv) 46::l) w'→SL W (.ob (RSnkO rkp xp rlp rp H' k)::.mem H'::F) w')→zp 3 (ptrO zb) (agg (encIt xv)) w λw_17=>zj 3 (ptrO zb) w_17 λr=>∃post,(∃xv z H',H.le H'∧r=agg (encIt xv)∧ItIs H' xv z∧IQ k o z∧post=[.ob (RSnkO rkp xp rlp rp H' k),.mem H'])∧SL W (app post F) w_17:=λhh hz hq hS hw=>by
  refine zV hS Xu rfl rfl (encIt_one hz) λw hS=>?_
  refine zE hS Xh rfl ?_
  exact⟨_,⟨_,_,_,hh,rfl,hz,hq,rfl⟩,hw _ (SL.into hS Xi)⟩
 have en:(enc18 xo)[1]?=some (.int .i64 o.n):=by rw[← hx.n];rfl
 repeat first|refine Gp ?_|refine Gw λw hS=>?_|refine Gb λb w hS=>?_
 rw[hx.n]
 (apply ze (zU o.n 13 (by decide) (by decide)) hS;exact Xp;clear hS)
 (rintro v post ⟨rfl,rfl⟩ w hS;(try simp only[app]at hS);(repeat (first|refine Gp ?_|refine Gw λw hS=>?_|refine Gb λb w hS=>?_)))
 refine zf (λh12=>?_) (λh12=>?_)
 ·repeat first|refine Gp ?_|refine Gw λw hS=>?_|refine Gb λb w hS=>?_
  refine YT hS Xh rfl enc18_it ?_
  refine hdone (l:=.pt ab (enc18 xo) 51::F) (Heap.le_refl H) hit ⟨⟨λn hn=>(hok.item.nts n hn).2.1,hok.item.nops,hok.item.nnts⟩,λx hx=>(hok.item.ops x hx).2.2,λh0=>by omega⟩ (SL.into hS Xi) (λw h=>SL.into h Xi)
 ·obtain⟨rv,pv,⟨hr,hp⟩,hS⟩:=RSnkO.open (k:=k) hS Xr
  have hpm:∀x,piOf o.item 2 lsn=x→x.lsn=(piOf o.item 2 lsn).lsn∧x.ops=(piOf o.item 2 lsn).ops:=λx h=>by subst h;exact⟨rfl,rfl⟩
  have hpl:(piOf o.item 2 lsn).lsn=((lsn+1+md o.item.lsn 3:Nat):Int):=rfl
  have hm3:=md_lt o.item.lsn 3 (by decide)
  have hno:=hok.item.nops
  have hnn:=hok.item.nnts
  have hS:=SL.into hS (t:=.pt ab (enc18 xo) 51::.pt zb [.int .i64 0,.slice none 0 0,.slice none 0 0] 46::.pt rkp (rkcells xp rlp rp rv k.lsn pv) 41::.mem H::.ob (Ref H rp k.ts)::.ob (RLogO rlp xp k.g)::.ob (RDO H xp k.d)::F) Xi
  refine⟨λus w=>∃(ib:Nat) (ov:Value) (H1:Heap),us=[ptrO ib]∧H.le H1∧RdOps H1 ov (piOf o.item 2 lsn).ops∧SL W (.pt ib [.int .i64 (piOf o.item 2 lsn).lsn,ov,.slice none 0 0] 46::.pt ab (enc18 xo) 51::.pt zb [.int .i64 0,.slice none 0 0,.slice none 0 0] 46::.pt rkp (rkcells xp rlp rp rv k.lsn pv) 41::.mem H1::.ob (Ref H rp k.ts)::.ob (RLogO rlp xp k.g)::.ob (RDO H xp k.d)::F) w,?_,?_⟩
  ·repeat first|refine Gp ?_|refine Gw λw hS=>?_|refine Gb λb w hS=>?_
   refine YT hS Xh rfl enc18_it ?_
   repeat first|refine Gp ?_|refine Gw λw hS=>?_|refine Gb λb w hS=>?_
   rw[hls]
   have hone:∀{ov:Value} {H1:Heap},RdOps H1 ov (piOf o.item 2 lsn).ops→∀v∈([.int .i64 (piOf o.item 2 lsn).lsn,ov,.slice none 0 0]:List Value),v.oneCell'=true:=λhov v hv=>by
    simp only[List.mem_cons,List.not_mem_nil,or_false]at hv
    rcases hv with rfl|rfl|rfl
    ·rfl
    ·exact RdSl.one hov
    ·rfl
   refine⟨?_,?_⟩
   ·(apply ze (ZO H xo.it o.item hit 2 lsn (by decide) (by decide) (by omega) hno) hS;exact Xp;clear hS)
    rintro v post ⟨ov,H1,h01,rfl,hov,rfl⟩ w hS
    (try simp only[app]at hS)
    refine Gb λib w hS=>?_
    refine zV (vs:=[.int .i64 (piOf o.item 2 lsn).lsn,ov,.slice none 0 0]) hS Xu rfl rfl (hone hov) λw hS=>?_
    exact⟨ib,ov,H1,rfl,h01,hov,SL.into hS (by rw[hls];exact Xi)⟩
   ·refine Gb λib w hS=>?_
    refine YT hS Xh rfl enc18_it ⟨rfl,?_⟩
    repeat first|refine Gp ?_|refine Gw λw hS=>?_|refine Gb λb w hS=>?_
    rw[hls]
    refine⟨rfl,?_⟩
    (apply ze (ZO H xo.it o.item hit 2 lsn (by decide) (by decide) (by omega) hno) hS;exact Xp;clear hS)
    rintro v post ⟨ov,H1,h01,rfl,hov,rfl⟩ w hS
    (try simp only[app]at hS)
    refine zV (vs:=[.int .i64 (piOf o.item 2 lsn).lsn,ov,.slice none 0 0]) hS Xu rfl rfl (hone hov) λw hS=>?_
    exact⟨ib,ov,H1,rfl,h01,hov,SL.into hS (by rw[hls];exact Xi)⟩
  ·clear hS
   rintro v5 w ⟨ib,ov,H1,hus,h01,hov,hS⟩
   cases hus
   repeat first|refine Gp ?_|refine Gw λw hS=>?_|refine Gb λb w hS=>?_
   rw[hx.n]
   (apply ze (zU o.n 13 (by decide) (by decide)) hS;exact Xp;clear hS)
   (rintro v post ⟨rfl,rfl⟩ w hS;(try simp only[app]at hS);(repeat (first|refine Gp ?_|refine Gw λw hS=>?_|refine Gb λb w hS=>?_)))
   refine zf (λh11=>?_) (λh11=>?_)
   ·repeat first|refine Gp ?_|refine Gw λw hS=>?_|refine Gb λb w hS=>?_
    refine zf (λhpos=>?_) (λhpos=>?_)
    ·repeat first|refine Gp ?_|refine Gw λw hS=>?_|refine Gb λb w hS=>?_
     rw[show xo.it.lsn=o.item.lsn from hit.lsn,hls]
     have hmb:=md_lt o.item.lsn lsn (by omega)
     (apply ze (zX o.item.lsn lsn (by omega) (by omega)) hS;exact Xp;clear hS)
     (rintro v post ⟨rfl,rfl⟩ w hS;(try simp only[app]at hS);(repeat (first|refine Gp ?_|refine Gw λw hS=>?_|refine Gb λb w hS=>?_)))
     have hS:=Ref.monoP h01 hS Xr
     have hS:=RDO.monoP h01 hS Xr
     have hS:=RSnkO.put k hS (hr.mono h01) (hp.mono h01) Xp
     exact⟨_,⟨⟨1+md o.item.lsn lsn,.slice none 0 0,.slice none 0 0⟩,⟨1+md o.item.lsn lsn,[],[]⟩,H1,h01,rfl,⟨rfl,RdSl.nil _ _,RdSl.nil _ _⟩,⟨⟨by simp,by simp,by simp⟩,by simp,λh0=>by omega⟩,rfl⟩,SL.into hS Xi⟩
    ·repeat first|refine Gp ?_|refine Gw λw hS=>?_|refine Gb λb w hS=>?_
     (apply ze (y6 H1 rv xo.it.nv k.reqs o.item.notes (piOf o.item 2 lsn).lsn (hr.mono h01) hM (hit.nts.mono h01) (by rw[hpl];omega) hnn) hS;exact Xp;clear hS)
     rintro v post ⟨out,L',H2,h12,hnv,hol,hO,rfl⟩ w hS
     (try simp only[app]at hS)
     have h02:=Heap.le_trans h01 h12
     have h1:=RdSl.one hnv
     repeat first|refine Gp ?_|refine Gw λw hS=>?_|refine Gb λb w hS=>?_
     have hS:=Ref.monoP h02 hS Xr
     have hS:=RDO.monoP h02 hS Xr
     have hS:=RSnkO.put k hS (hr.mono h02) (hp.mono h02) Xp
     refine hdone (xv:=⟨(piOf o.item 2 lsn).lsn,ov,v⟩) (z:={piOf o.item 2 lsn with notes:=out}) (l:=F) h02 ⟨rfl,hov.mono h12,hnv⟩ ?_ (SL.into hS Xi) (λw h=>SL.into h Xi)
     refine⟨(piOf_iok o.item 2 lsn (by decide) (by decide) hol λn hn=>⟨_,hO.may n hn⟩).1,(piOf_iok o.item 2 lsn (by decide) (by decide) hol λn hn=>⟨_,hO.may n hn⟩).2,λh0 h2 h3=>⟨?_,?_,L',?_⟩⟩
     ·show k.lsn<((lsn+1+md o.item.lsn 3:Nat):Int);omega
     ·show ((lsn+1+md o.item.lsn 3:Nat):Int)≤k.lsn+3;omega
     ·unfold fitsR
      rw[if_pos ⟨piOf_may o.item 2 lsn (by decide) (by decide) (by omega) (by omega) hO.may,piOf_tabs o.item 2 lsn (by decide) (by decide) out⟩]
      exact hO.run
   ·repeat first|refine Gp ?_|refine Gw λw hS=>?_|refine Gb λb w hS=>?_
    (apply ze (y6 H1 rv xo.it.nv k.reqs o.item.notes (piOf o.item 2 lsn).lsn (hr.mono h01) hM (hit.nts.mono h01) (by rw[hpl];omega) hnn) hS;exact Xp;clear hS)
    rintro v post ⟨out,L',H2,h12,hnv,hol,hO,rfl⟩ w hS
    (try simp only[app]at hS)
    have h02:=Heap.le_trans h01 h12
    have h1:=RdSl.one hnv
    repeat first|refine Gp ?_|refine Gw λw hS=>?_|refine Gb λb w hS=>?_
    have hS:=Ref.monoP h02 hS Xr
    have hS:=RDO.monoP h02 hS Xr
    have hS:=RSnkO.put k hS (hr.mono h02) (hp.mono h02) Xp
    refine hdone (xv:=⟨(piOf o.item 2 lsn).lsn,ov,v⟩) (z:={piOf o.item 2 lsn with notes:=out}) (l:=F) h02 ⟨rfl,hov.mono h12,hnv⟩ ?_ (SL.into hS Xi) (λw h=>SL.into h Xi)
    refine⟨(piOf_iok o.item 2 lsn (by decide) (by decide) hol λn hn=>⟨_,hO.may n hn⟩).1,(piOf_iok o.item 2 lsn (by decide) (by decide) hol λn hn=>⟨_,hO.may n hn⟩).2,λh0 h2 h3=>⟨?_,?_,L',?_⟩⟩
    ·show k.lsn<((lsn+1+md o.item.lsn 3:Nat):Int);omega
    ·show ((lsn+1+md o.item.lsn 3:Nat):Int)≤k.lsn+3;omega
    ·unfold fitsR
     rw[if_pos ⟨piOf_may o.item 2 lsn (by decide) (by decide) (by omega) (by omega) hO.may,piOf_tabs o.item 2 lsn (by decide) (by decide) out⟩]
     exact hO.run
end Go.Proofs.YtnmhmnnadkclbaaGreat
namespace Go.Proofs.YtnmhmnnadkclbaaGreat
set_option linter.unusedVariables false
set_option maxRecDepth 100000
open Go.RowKit
theorem PInv.mono{n:Nat}{k:PSink}{j j':Nat}{xs:List PItem}{m:Option PItem}(h:PInv n k j xs m)(hj:j≤j'):PInv n k j' xs m:=by
 have h1:=h.len
 have h2:=h.ops
 have h3:=h.pl
 exact⟨h.s,by omega,h.g.mono (by omega),h.d.mono (by omega),by omega,by omega,h.plm,h.keep⟩
theorem enc18_one{H:Heap}{x:O18V}{o:O18}(h:Is18 H x o):∀v∈enc18 x,v.oneCell'=true:=λv hv=>by
 unfold enc18 at hv
 simp only[List.mem_append,List.mem_cons,List.not_mem_nil,or_false]at hv
 rcases hv with (((rfl|rfl)|hv)|hv)|rfl
 ·rfl
 ·rfl
 ·exact encIt_one h.it v hv
 ·exact encFt_one _ v hv
 ·exact RdSl.one h.kv
theorem enc18_ft{y:O18V}:∀j v,(encFt y.ft)[j]?=some v→(enc18 y)[5+j]?=some v
 | 0,v,h=>h
 | 1,v,h=>h
 | j+2,v,h=>by simp[encFt]at h
theorem ftOf_keep(f:PFt):(ftOf f).keep≤9223372036854775807:=by
 have:=md_lt f.keep 300 (by decide)
 unfold ftOf
 split
 ·show (md f.keep 300:Int)≤_;omega
 ·show (0:Int)≤_;decide
theorem pushed{p:List PFt}{f:PFt}(hf:mayFt f=true)(hp:p.length<1024):pushFt p [f]=p++[f]:=by rw[pushFt_one,if_pos ⟨hf,hp⟩]
section
variable {W w:World} {l F:List Chunk}
theorem RDO.new{H:Heap}{xp:Nat}(hS:SL W (.pt xp [.slice none 0 0,.int .i64 0,.bool false,.int .i64 0] 29::l) w):SL W (.ob (RDO H xp s00)::l) w:=by
 have hS:SL W (.ob (OwnSl (.slice none 0 0) 61 3 0 [])::.pt xp [.slice none 0 0,.int .i64 0,.bool false,.int .i64 0] 29::l) w:=OwnSl.nil hS
 exact (RDO.iff (H:=H) (s:=s00)).2 ⟨Value.slice none 0 0,[],⟨rfl,λy hy=>by cases hy⟩,SL.into hS (t:=.pt xp [.slice none 0 0,.int .i64 0,.bool false,.int .i64 0] 29::.ob (OwnSl (.slice none 0 0) 61 3 0 [])::l) Xi⟩
end
end Go.Proofs.YtnmhmnnadkclbaaGreat
namespace Go.Proofs.YtnmhmnnadkclbaaGreat
set_option linter.unusedVariables false
open Go.RowKit
def k0n(n:Nat)(size:Int):PSink:=⟨⟨[],8192,size,none⟩,s00,(t00 n).1,[],0,[]⟩
theorem k0n_inv{n:Nat}(n1:1≤n)(n8:n≤8){size:Int}(s0:64≤size)(s1:size≤65536):openG s00 8192 size=(s00,.ok ⟨[],8192,size,none⟩)∧PInv n (k0n n size) 0 [] none:=by
 have hog:openG s00 8192 size=(s00,.ok ⟨[],8192,size,none⟩):=by
  unfold openG
  rw[if_neg (by omega)]
  rfl
 obtain⟨k,h1,h2,_⟩:=PInv.first n1 n8 s0 s1
 have e:openK s00 ((n:Nat):Int) size=(s00,.ok (k0n n size)):=by
  unfold openK
  rw[if_neg (by omega),Int.toNat_natCast]
  simp only[hog]
  rfl
 rw[e]at h1
 simp only[Prod.mk.injEq,Except.ok.injEq]at h1
 rw[h1.2]
 exact⟨hog,h2⟩
end Go.Proofs.YtnmhmnnadkclbaaGreat
namespace Go.Proofs.YtnmhmnnadkclbaaGreat
set_option linter.unusedVariables false
set_option maxRecDepth 100000
open Go.RowKit
end Go.Proofs.YtnmhmnnadkclbaaGreat
namespace Go.Proofs.YtnmhmnnadkclbaaGreat
set_option linter.unusedVariables false
open Go.ChangeShapes Go.WideShapes Go.ChangeAt Go.RowKit
def toBs(l:List (List Int)):List (List UInt8):=l.map λx=>x.map toB
theorem RdS.bytes{w:World}{l:List (List Int)}{v:Value}(h:RdS (tSlice (tInt .u8)) w Nob l v)(ok:∀x∈l,∀y∈x,inK .u8 y):RdBs (Heap.of w) v (toBs l):=by
 obtain⟨vs,h1,h2,h3⟩:=RdS.rows (enc:=λx=>[.int .u8 x]) h (λh=>h) (λ_=>rfl)
 refine⟨vs,by simp[toBs,h1],by simpa [toBs] using h2,λi hi hi'=>?_⟩
 have hi2:i<l.length:=by simpa [toBs] using hi
 have h4:=h3 i hi2 hi'
 rw[flat_val]at h4
 have h5:=RdSl.toB h4 (λx hx=>ok _ (List.getElem_mem hi2) x hx)
 have e:(toBs l)[i]=l[i].map toB:=by simp[toBs]
 rw[e]
 exact h5
theorem okB{l:List (List Int)}{a b:Nat}(h:okSlice a (okSlice b (inK .u8)) l):∀x∈l,∀y∈x,inK .u8 y:=λx hx y hy=>(h.2 x hx).2 y hy
end Go.Proofs.YtnmhmnnadkclbaaGreat
namespace Go.Proofs.YtnmhmnnadkclbaaGreat
set_option linter.unusedVariables false
set_option maxRecDepth 100000
open Go.RowKit
structure LQ(g:PLog)(d:DS)(i:Nat)(es:List (List UInt8)):Prop where
 l:LInv g d 8192 1 es
 base:g.base=8192
 len:es.length≤i
 gk:GOk g (1100000*(i+1))
 dk:d.Ok (1100000*(i+1))
 ops:d.ops≤3*i
 arm:d.arm=0
theorem LQ.append{g:PLog}{d:DS}{i:Nat}{es:List (List UInt8)}(h:LQ g d i es)(hi:i≤10)(p:List UInt8):∃es',LQ (appendG g d p).1.1 (appendG g d p).1.2 (i+1) es':=by
 have hl:=h.len
 have ho:=h.ops
 by_cases hp:1048576<p.length
 ·have e:appendG g d p=((g,d),(0,1)):=by
   unfold appendG planG
   rw[if_pos hp]
  rw[e]
  exact⟨es,h.l,h.base,by omega,h.gk.mono (by omega),h.dk.mono (by omega),by show d.ops≤_;omega,h.arm⟩
 ·have hg0:=appendG_GOk (d:=d) h.gk p
  have hg:GOk (appendG g d p).1.1 (1100000*(i+1+1)):=hg0.mono (by omega)
  have hd0:=appendG_ok (g:=g) h.dk p
  have hd:(appendG g d p).1.2.Ok (1100000*(i+1+1)):=hd0.mono (by omega)
  rcases append_live h.l (p:=p) (by omega) (by omega) (by rw[h.base];omega) (by rw[h.arm];decide) with ⟨g',d',e,h1,h2,h3,h4,h5,_⟩|⟨_,_,_,_,_,h0⟩
  ·rw[e]at hg hd ⊢
   exact⟨es++[p],h1,by rw[h5,h.base],by rw[List.length_append,List.length_singleton];omega,hg,hd,by show d'.ops≤_;omega,h4 h.arm⟩
  ·exact absurd h.arm h0
theorem LQ.zero:LQ ⟨[],8192,300,none⟩ s00 0 []:=⟨⟨trivial,rfl,rfl,λ_=>⟨rfl,rfl⟩,Int.le_refl _,by show (0:Int)≤8192;decide,by show (8192:Int)≤12288;decide,by show (64:Int)≤300;decide,by show (300:Int)≤65536;decide,by decide,by show (8192:Int)+(0:Nat)+2≤8192+4096;decide,rfl,rfl⟩,rfl,Nat.le_refl _,⟨⟨by simp,by show (0:Int)≤8192;decide,by show (8192:Int)≤12288;decide,by show (64:Int)≤300;decide,by show (300:Int)≤65536;decide,by simp⟩,trivial,by show (0:Int)≤_;decide,λx hx=>by cases hx⟩,s00_ok _,by show s00.ops≤_;decide,rfl⟩
theorem LQ.open{g:PLog}{d:DS}{i:Nat}{es:List (List UInt8)}(h:LQ g d i es)(hi:i≤10){d':DS}(hR:d'.R=d.R)(ho:d'.off=false):openG d' 8192 300=(d',.ok ⟨g.segs,8192,300,none⟩):=by
 have hle:=h.l.chain.len_le
 have hlen:=h.len
 rw[h.l.ents]at hle
 exact open_chain h.l.chain (by rw[hR,h.l.files]) ho (by decide) (by decide) (by decide) (by decide) (by decide) (by omega) (by decide) (by rw[h.l.ents];omega)
theorem redo_ok{n:Nat}:∀{es:List (List UInt8)} {t t':Tr} {m:Nat},TOkK t n (m+es.length)→redoT n es t=some t'→TOkK t' n m
 | [],t,t',m,h,hr=>by cases hr;exact h
 | b::es,t,t',m,h,hr=>by
  unfold redoT at hr
  split at hr
  ·split at hr
   ·rename_i t1 hs
    rw[List.length_cons,show m+(es.length+1)=(m+es.length)+1 by omega]at h
    exact redo_ok (h.step hs) hr
   ·cases hr
  ·cases hr
theorem enc_len{z:PItem}{b:List UInt8}(h:encItem z= .ok b):b.length≤140737488355328:=by
 have hm:mayItem z=true:=by
  cases hb:mayItem z with
  | true=>rfl
  | false=>unfold encItem at h;rw[if_neg (by rw[hb];decide)]at h;cases h
 have h1:=encItem_len hm h
 have h2:=(mayItem_iff.1 hm).1
 omega
def cpD(R:List PF)(j:Nat):DS:=⟨R.take j,false,0,2*j⟩
theorem cp_step{L:List PSeg}{n:Int}(hc:Chain 8192 n L)(hl:L.length≤1000){j:Nat}(hj:j<(L.map segF).length):
  (((cpD (L.map segF) j).append (L.map segF)[j].id (L.map segF)[j].b).1.sync (L.map segF)[j].id).1=cpD (L.map segF) (j+1):=by
 have hcon:=hc.con
 have hid:=hcon j hj
 have hll:(L.map segF).length=L.length:=List.length_map _
 have hsafe:(L.map segF)[j].safe=(L.map segF)[j].b.length:=by rw[List.getElem_map];rfl
 have hlt:∀y∈(L.map segF).take j,y.id<(L.map segF)[j].id:=λy hy=>by
  obtain⟨i,hi,rfl⟩:=List.mem_iff_getElem.1 hy
  rw[List.length_take]at hi
  rw[List.getElem_take,hcon i (by omega),hid];omega
 have hconj:Con 8192 ((L.map segF).take j):=λi hi=>by
  rw[List.length_take]at hi
  rw[List.getElem_take];exact hcon i (by omega)
 have hs1:=hconj.sorted
 have hcn:∀(R:List PF) (ops:Nat),DS.cnt ⟨R,false,0,ops⟩=⟨R,false,0,ops+1⟩:=λR ops=>rfl
 have htk:(L.map segF).take (j+1)=(L.map segF).take j++[(L.map segF)[j]]:=List.take_succ_eq_append_getElem hj
 generalize (L.map segF)[j]=x at *
 have hm:∀(R:List PF) (ops:Nat),may ⟨R,false,0,ops⟩ x.id=0:=λR ops=>by
  unfold may
  rw[if_neg Bool.false_ne_true,if_neg (by omega)]
 have e1:((cpD (L.map segF) j).append x.id x.b).1=⟨(L.map segF).take j++[⟨x.id,0,x.b⟩],false,0,2*j+1⟩:=by
  unfold cpD
  rw[append_eq (hm _ _),hcn]
  show (⟨appF ((L.map segF).take j) x.id x.b,false,0,2*j+1⟩:DS)=_
  rw[app_new hs1 hlt]
 have hs2:SortedK PF.id ((L.map segF).take j++[⟨x.id,0,x.b⟩]):=(hconj.snoc (x:=⟨x.id,0,x.b⟩) (by show x.id=_;rw[hid,List.length_take];omega)).sorted
 rw[e1]
 have e2:DS.find ⟨(L.map segF).take j++[⟨x.id,0,x.b⟩],false,0,2*j+1⟩ x.id=0:=by
  unfold DS.find
  rw[if_neg (by rw[hm];decide),if_pos (is_end (x:=⟨x.id,0,x.b⟩) hs2)]
 unfold DS.sync
 rw[if_neg (by rw[e2];decide),hcn,if_neg Bool.false_ne_true]
 show (⟨updF ((L.map segF).take j++[⟨x.id,0,x.b⟩]) x.id _,false,0,2*j+1+1⟩:DS)=cpD _ _
 unfold cpD
 rw[upd_end (x:=⟨x.id,0,x.b⟩) hs2,htk]
 rw[show 2*j+1+1=2*(j+1) by omega]
 obtain⟨a,b,c⟩:=x
 simp only at hsafe
 subst hsafe
 rfl
theorem cp_ok{s:DS}{N:Nat}(hs:s.Ok N)(j:Nat):(cpD s.R j).Ok N:=
 ⟨hs.sorted.sublist (List.take_sublist _ _),λx hx=>hs.ids x (List.mem_of_mem_take hx),λx hx=>hs.safe x (List.mem_of_mem_take hx),λx hx=>hs.len x (List.mem_of_mem_take hx),Int.le_refl _,by show (0:Int)≤_;decide⟩
theorem ZY(H:Heap)(v bv:Value)(l:List O18)(bs:List (List UInt8))(hv:Rd18 H v l)(hb:RdBs H bv bs)(hbl:∀b∈bs,b.length≤140737488355328)(hok:∀o∈l,ok18 o):
  Spec Tryz.prog 3 [v,bv] [.mem H] (λv post=>v= .bool true∧∃H' l,H.le H'∧post= .mem H'::l):=by
 intro W F w hS;apply vc3;unfold Vc3;(try simp only[app]at hS)
 obtain⟨xs,hxl,hxr,hxi⟩:=hv
 (apply ze (Yg) hS;exact Xp;clear hS)
 rintro _ post ⟨dp,rfl,rfl⟩ w hS
 (try simp only[app]at hS)
 refine Zq rfl ?_
 refine⟨_,rfl,zM hS ?_⟩
 clear hS;intro xp w hS
 have hS:=RDO.new (H:=H) hS
 (apply ze (Yw) hS;exact Xp;clear hS)
 (rintro v post ⟨rfl,rfl⟩ w hS;(try simp only[app]at hS);(repeat (first|refine Gp ?_|refine Gw λw hS=>?_|refine Gb λb w hS=>?_)))
 refine zx ?_
 repeat first|refine Gp ?_|refine Gw λw hS=>?_|refine Gb λb w hS=>?_
 refine zx ?_
 have hog:=(k0n_inv (n:=2) (by decide) (by decide) (size:=300) (by decide) (by decide)).1
 (apply ze (y3 H xp s00 8192 300 (s00_ok 0) (by decide) (by decide) (by decide)) hS;exact Xp;clear hS)
 rw[hog]
 rintro r post ⟨ylp,H1,h01,rfl,rfl⟩ w hS
 (try simp only[app]at hS)
 repeat first|refine Gp ?_|refine Gw λw hS=>?_|refine Gb λb w hS=>?_
 refine⟨_,rfl,zM hS ?_⟩
 clear hS;intro xp2 w hS
 have hS:=RDO.new (H:=H1) hS
 (apply ze (rnew_ok H1 2 (by decide) (by decide)) hS;exact Xp;clear hS)
 rintro _ post ⟨rp,rfl,rfl⟩ w hS
 (try simp only[app]at hS)
 refine Zq rfl ?_
 refine⟨_,rfl,zM hS ?_⟩
 clear hS;intro rkp w hS
 have hS:SL W (.pt rkp [ptrO xp2,.pointer none,ptrO rp,.slice none 0 0,.int .i64 0,.slice none 0 0] 41::_) w:=hS
 repeat first|refine Gp ?_|refine Gw λw hS=>?_|refine Gb λb w hS=>?_
 obtain⟨hog2,hX0⟩:=k0n_inv (n:=2) (by decide) (by decide) (size:=2000) (by decide) (by decide)
 (apply ze (y3 H1 xp2 s00 8192 2000 (s00_ok 0) (by decide) (by decide) (by decide)) hS;exact Xp;clear hS)
 rw[hog2]
 rintro r post ⟨rlp,H2,h12,rfl,rfl⟩ w hS
 (try simp only[app]at hS)
 repeat first|refine Gp ?_|refine Gw λw hS=>?_|refine Gb λb w hS=>?_
 have hS:=Ref.monoP h12 hS Xr
 have hS:SL W (.ob (RSnkO rkp xp2 rlp rp H2 (k0n 2 2000))::_) w:=RSnkO.putN (H:=H2) (ts:=List.replicate 2 []) (lsn:=0) (reqs:=[]) (plan:=[]) hS (RdSl.nil _ _) (RdSl.nil _ _) Xp
 have hS:=RDO.monoP (xp:=xp) h12 hS Xr
 have h02:=Heap.le_trans h01 h12
 refine⟨λus w=>∃(i:Nat) (H2:Heap) (g:PLog) (d:DS) (es:List (List UInt8)),us=[]∧i≤6∧H.le H2∧LQ g d i es∧SL W (.ob (RDO H2 xp d)::.ob (DskO dp s00)::.mem H2::F) w,?_,?_⟩
 ·obtain⟨I1,hI1⟩:∃I1:List Value→World→Prop,I1=λus w=>∃(i:Nat) (H2:Heap) (g:PLog) (d:DS) (es:List (List UInt8)) (k:PSink) (ys:List PItem) (m:Option PItem),us=[.int .i64 i]∧i≤6∧i≤l.length∧H.le H2∧LQ g d i es∧PInv 2 k i ys m∧SL W (.ob (RLogO ylp xp g)::.ob (RDO H2 xp d)::.ob (DskO dp s00)::.ob (RSnkO rkp xp2 rlp rp H2 k)::.mem H2::F) w:=⟨_,rfl⟩
  obtain⟨μ,hμ⟩:∃μ:List Value→World→Nat,μ=λus _=>match us with|[.int _ i]=>(l.length-i).toNat|_=>0:=⟨_,rfl⟩
  refine⟨I1,μ,by rw[hI1];exact⟨0,H2,_,s00,[],k0n 2 2000,[],none,rfl,by omega,by omega,h02,LQ.zero,hX0,SL.into hS Xi⟩,?_⟩
  clear hS h01 h12 h02 hX0 hog hog2
  intro v10 w0 hI
  rw[hI1]at hI
  obtain⟨i,H2,g,d,es,k,ys,m,hus,hi,hil,h02,hQ,hk,hS⟩:=hI
  cases hus
  refine zq hxr ?_
  repeat first|refine Gp ?_|refine Gw λw hS=>?_|refine Gb λb w hS=>?_
  refine zf (λha=>?_) (λha=>⟨i,H2,g,d,es,rfl,hi,h02,hQ,SL.into hS Xi⟩)
  repeat first|refine Gp ?_|refine Gw λw hS=>?_|refine Gb λb w hS=>?_
  refine zf (λhc6=>?_) (λhc6=>⟨i,H2,g,d,es,rfl,hi,h02,hQ,SL.into hS Xi⟩)
  have hl:i<l.length:=by omega
  have hix:i<xs.length:=by omega
  have hx:xs[i]?=some xs[i]:=List.getElem?_eq_getElem hix
  have hxo:=(hxi i hl hix).mono h02
  have hoko:=hok _ (List.getElem_mem hl)
  have hxr2:=hxr.mono h02
  have hb2:=hb
  generalize xs[i]=u at *
  generalize l[i]=o at *
  refine yG hxr2 hl λab ao ha=>zS ?_
  refine ZR hS Xh (encIt_len u.it) (λj q hq=>by
   have h1:=enc18_it j q hq
   have h2:=(List.getElem?_eq_some_iff.1 h1).1
   rw[enc18_len]at h2
   rw[Nat.add_assoc]
   exact ha (2+j) q h2 (flat_at enc18_len xs i (2+j) u q hx h1)) ?_
  (apply ze (qz u.it o.item H2 hxo.it) hS;exact Xp;clear hS)
  (rintro v post ⟨rfl,rfl⟩ w hS;(try simp only[app]at hS);(repeat (first|refine Gp ?_|refine Gw λw hS=>?_|refine Gb λb w hS=>?_)))
  refine zf (λhg=>⟨_,⟨rfl,H2,[],h02,rfl⟩,SL.into hS Xi⟩) (λhg=>?_)
  refine zK hS Xh enc18_len hxr2 hx hl ?_
  have htx:=hk.tx (by omega)
  (apply ze (YG rkp xp2 rlp rp H2 k u o hxo hoko ⟨htx.l0,htx.l1⟩ htx.rq) hS;exact Xp;clear hS)
  rintro v post ⟨xv,z,H3,h23,rfl,hz,hq,rfl⟩ w hS
  (try simp only[app]at hS)
  refine Gb λzb w hS=>?_
  refine zV hS Xu rfl rfl (encIt_one hz) λw hS=>?_
  refine zE hS Xh rfl ?_
  have hkok:=hk.kok (by omega) (by decide)
  (apply ze (Z2 rkp xp2 rlp rp H3 k xv z hz hkok hk.keep) hS;exact Xp;clear hS)
  rintro v post ⟨rfl,H4,h34,rfl⟩ w hS
  (try simp only[app]at hS)
  obtain⟨ys',m',hk'⟩:=hk.commit (by omega) z
  generalize (k.commitK z).1=k' at *
  refine zE hS Xh rfl ?_
  have hput:∀{w:World} {H5:Heap} {c:Value} {p:List UInt8},H2.le H5→RdSl H5 1 c p.length (p.map u8c)→p.length≤140737488355328→SL W (.ob (RLogO ylp xp g)::.ob (RDO H5 xp d)::.ob (DskO dp s00)::.ob (RSnkO rkp xp2 rlp rp H5 k')::.mem H5::F) w →
    za Tryz.prog 20 [ptrO ylp,c] w λv93 w_1=>zd .add (.int .i64 i) (.int .i64 1) λv58=>I1 [v58] w_1∧μ [v58] w_1<μ [.int .i64 i] w0:=λ{w H5 c p} h25 hc hp hS=>by
   have ho:=hQ.ops
   (apply ze (yU H5 ylp xp g d c p hc hp hQ.gk (by omega) hQ.dk (by omega) (by omega)) hS;exact Xp;clear hS)
   rintro _ post ⟨rfl,H6,h56,rfl⟩ w hS
   (try simp only[app]at hS)
   repeat first|refine Gp ?_|refine Gw λw hS=>?_|refine Gb λb w hS=>?_
   obtain⟨es',hQ'⟩:=hQ.append (by omega) p
   have hS:=RSnkO.monoP h56 hS Xr
   rw[hI1,hμ]
   exact⟨⟨i+1,H6,_,_,es',k',ys',m',rfl,by omega,by omega,Heap.le_trans h02 (Heap.le_trans h25 h56),hQ',hk',SL.into hS Xi⟩,by dsimp only;omega⟩
  have hz4:=hz.mono h34
  have h24:=Heap.le_trans h23 h34
  have hS:=RDO.monoP (xp:=xp) h24 hS Xr
  (apply ze (Zk H4 xv z hz4) hS;exact Xp;clear hS)
  intro r post hE w hS
  unfold EncIQ at hE
  split at hE
  ·obtain⟨rfl,rfl⟩:=hE
   (try simp only[app]at hS)
   repeat first|refine Gp ?_|refine Gw λw hS=>?_|refine Gb λb w hS=>?_
   refine zf (λ_=>?_) (λh=>?_)
   ·refine s_lenRR hb2 ?_
    repeat first|refine Gp ?_|refine Gw λw hS=>?_|refine Gb λb w hS=>?_
    refine zf (λhi2=>?_) (λhi2=>?_)
    ·have hib:i<bs.length:=by omega
     refine s_getRR hS Xh (hb2.mono (Heap.le_trans h02 h24)) hib λc hc=>?_
     exact hput h24 hc (hbl _ (List.getElem_mem hib)) (SL.into hS Xi)
    ·exact hput (p:=[]) h24 (RdSl.nil _ _) (by simp) (SL.into hS Xi)
   ·exact hput (p:=[]) h24 (RdSl.nil _ _) (by simp) (SL.into hS Xi)
  ·rename_i b hb3
   obtain⟨c,rfl,rfl⟩:=hE
   (try simp only[app]at hS)
   repeat first|refine Gp ?_|refine Gw λw hS=>?_|refine Gb λb w hS=>?_
   refine zf (λh=>absurd rfl h) (λ_=>?_)
   obtain⟨H5,h45,hR,hS⟩:=zD (H:=H4) (v:=c) hS Xp
   have hS:=RSnkO.monoP h45 hS Xr
   have hS:=RDO.monoP (xp:=xp) h45 hS Xr
   exact hput (Heap.le_trans h24 h45) hR (enc_len hb3) (SL.into hS Xi)
 clear hS h01 h12 h02 hX0 hog hog2
 rintro w ⟨i,H2,g,d,es,-,hi,h02,hQ,hS⟩
 have hfiles:=hQ.l.files
 obtain⟨fv,ys,⟨he,hrb⟩,hS⟩:=RDO.iff.1 hS
 have hyl:ys.length=d.R.length:=by rw[← he,List.length_map]
 have hle:=hQ.l.chain.len_le
 have hel:=hQ.len
 rw[hQ.l.ents]at hle
 have hdl:d.R.length=g.segs.length:=by rw[hfiles,List.length_map]
 have hdo:=hQ.dk
 refine⟨λus w=>∃j:Nat,us=[.int .i64 j]∧j≤d.R.length∧SL W (.ob (DskO dp (cpD d.R j))::.pt xp (rcells fv d) 29::.ob (FilesO fv ys)::.mem H2::F) w,
  λus _=>match us with|[.int _ j]=>(d.R.length-j).toNat|_=>0,⟨0,rfl,by omega,by rw[show cpD d.R 0=s00 from rfl];exact SL.into hS Xi⟩,?_⟩
 clear hS
 rintro v14 w ⟨j,hus,hj,hS⟩
 cases hus
 have hcp:=cp_ok hdo j
 repeat first|refine Gp ?_|refine Gw λw hS=>?_|refine Gb λb w hS=>?_
 refine zy hS (v:=fv) (t:=61) (sz:=3) (n:=ys.length) (cells:=(ys.map encRF).flatten) Xh ?_
 repeat first|refine Gp ?_|refine Gw λw hS=>?_|refine Gb λb w hS=>?_
 refine zf (λh=>?_) (λh=>?_)
 ·have hil:j<d.R.length:=by omega
  have hiy:j<ys.length:=by omega
  have hy1:ys[j].1=d.R[j]:=by
   have h1:(ys.map Prod.fst)[j]?=d.R[j]?:=by rw[he]
   rw[List.getElem?_map,List.getElem?_eq_getElem hiy,List.getElem?_eq_getElem hil]at h1
   simpa using h1
  have hy:=List.getElem?_eq_getElem hiy
  have hold:=hrb _ (List.getElem_mem hiy)
  have hye:encRF ys[j]=[.int .i64 d.R[j].id,.int .i64 (d.R[j].safe:Int),ys[j].2]:=by unfold encRF;rw[hy1]
  rw[hy1]at hold
  have hbn:=hdo.len _ (List.getElem_mem hil)
  have hstep:(((cpD d.R j).append d.R[j].id d.R[j].b).1.sync d.R[j].id).1=cpD d.R (j+1):=by
   have hc:=hQ.l.chain
   have hj2:j<(g.segs.map segF).length:=by rw[List.length_map];omega
   have:=cp_step hc (by omega) hj2
   simp only[hfiles]
   exact this
  have hco:((cpD d.R j).append d.R[j].id d.R[j].b).1.Ok (1100000*(i+1)+d.R[j].b.length):=hcp.append _ _
  have hops:((cpD d.R j).append d.R[j].id d.R[j].b).1.ops≤2*j+1:=by
   unfold DS.append
   split
   ·exact Nat.le_succ _
   ·exact Nat.le_refl _
  repeat first|refine Gp ?_|refine Gw λw hS=>?_|refine Gb λb w hS=>?_
  refine zA (i:=0) hS (v:=fv) (t:=61) Xh encRF_len hy hiy (u:=.int .i64 d.R[j].id) (by rw[hye];rfl) ?_
  repeat first|refine Gp ?_|refine Gw λw hS=>?_|refine Gb λb w hS=>?_
  refine zA (i:=2) hS (v:=fv) (t:=61) Xh encRF_len hy hiy (u:=ys[j].2) (by rw[hye];rfl) ?_
  (apply ze (Yp H2 dp (cpD d.R j) _ hcp (by show 2*j≤_;omega) d.R[j].id ys[j].2 d.R[j].b hold (by omega)) hS;exact Xp;clear hS)
  (rintro v post ⟨rfl,rfl⟩ w hS;(try simp only[app]at hS);(repeat (first|refine Gp ?_|refine Gw λw hS=>?_|refine Gb λb w hS=>?_)))
  refine zA (i:=0) hS (v:=fv) (t:=61) Xh encRF_len hy hiy (u:=.int .i64 d.R[j].id) (by rw[hye];rfl) ?_
  (apply ze (ZI dp ((cpD d.R j).append d.R[j].id d.R[j].b).1 _ hco (by omega) d.R[j].id) hS;exact Xp;clear hS)
  (rintro v post ⟨rfl,rfl⟩ w hS;(try simp only[app]at hS);(repeat (first|refine Gp ?_|refine Gw λw hS=>?_|refine Gb λb w hS=>?_)))
  rw[hstep]at hS
  exact⟨⟨j+1,rfl,by omega,SL.into hS Xi⟩,by dsimp only;omega⟩
 have ej:j=d.R.length:=by omega
 subst ej
 have hR:(cpD d.R d.R.length).R=d.R:=List.take_length
 have hS:=(RDO.iff (H:=H2) (xp:=xp) (s:=d)).2 ⟨fv,ys,⟨he,hrb⟩,SL.into hS (t:=.pt xp (rcells fv d) 29::.ob (FilesO fv ys)::.ob (DskO dp (cpD d.R d.R.length))::.mem H2::F) Xi⟩
 have hops:(cpD d.R d.R.length).ops≤40:=by show 2*d.R.length≤_;omega
 have hoffc:(cpD d.R d.R.length).off=false:=rfl
 generalize cpD d.R d.R.length=c at *
 have hoc:=hQ.open (by omega) hR hoffc
 have hod:=hQ.open (by omega) rfl hQ.l.off
 have hnum:∀{d0:DS},openG d0 8192 300=(d0,.ok ⟨g.segs,8192,300,none⟩)→∀d' g',openG d0 8192 300=(d',.ok g')→(entsG g'.segs).length≤200:=λh d' g' h2=>by
  rw[h]at h2
  cases h2
  show (entsG g.segs).length≤200
  rw[hQ.l.ents];omega
 have hlow:lowG g.segs=1:=by
  by_cases hL:g.segs=[]
  ·rw[hL];rfl
  ·rw[hQ.l.chain.low hL]
 have hopen:∀{d0:DS},openG d0 8192 300=(d0,.ok ⟨g.segs,8192,300,none⟩)→openK d0 2 300=match redoT 2 (entsG g.segs) (t00 2) with
   | none=>(d0,.error 3)
   | some t=>(d0,.ok ⟨⟨g.segs,8192,300,none⟩,d0,t.1,[],t.2.2,t.2.1⟩):=λh=>by
  unfold openK
  rw[if_neg (by decide),h]
  simp only
  rw[if_neg (λhh=>hh.1 hlow)]
  rfl
 have h1:=hopen hoc
 have h2:=hopen hod
 have hGg:=openG_GOk hdo (by omega) hod
 (apply ze (ZN H2 dp c 2 300 hcp (by omega) (by omega) (hnum hoc)) hS;exact Xp;clear hS)
 rw[h1]
 intro r post hq w hS
 have hdops:=hQ.ops
 cases hr:redoT 2 (entsG g.segs) (t00 2) with
 | none=>
  rw[hr]at hq h2
  obtain⟨_,H3,h23,rfl,rfl⟩:=hq
  (try simp only[app]at hS)
  repeat first|refine Gp ?_|refine Gw λw hS=>?_|refine Gb λb w hS=>?_
  have hS:=RDO.monoP (xp:=xp) h23 hS Xr
  (apply ze (Zt H3 xp d 2 300 hdo (by omega) (by omega) (hnum hod)) hS;exact Xp;clear hS)
  rw[h2]
  rintro r post ⟨_,H4,h34,rfl,rfl⟩ w hS
  (try simp only[app]at hS)
  repeat first|refine Gp ?_|refine Gw λw hS=>?_|refine Gb λb w hS=>?_
  refine zf (λh=>absurd rfl h) (λ_=>?_)
  repeat first|refine Gp ?_|refine Gw λw hS=>?_|refine Gb λb w hS=>?_
  refine zf (λh=>absurd rfl h) (λ_=>?_)
  repeat first|refine Gp ?_|refine Gw λw hS=>?_|refine Gb λb w hS=>?_
  refine zz ?_
  exact⟨_,⟨rfl,H4,[],Heap.le_trans h02 (Heap.le_trans h23 h34),rfl⟩,SL.into hS Xi⟩
 | some t=>
  rw[hr]at hq h2
  obtain⟨kp2,gp2,lp2,pp2,H3,h23,rfl,rfl⟩:=hq
  (try simp only[app]at hS)
  repeat first|refine Gp ?_|refine Gw λw hS=>?_|refine Gb λb w hS=>?_
  have hS:=RDO.monoP (xp:=xp) h23 hS Xr
  (apply ze (Zt H3 xp d 2 300 hdo (by omega) (by omega) (hnum hod)) hS;exact Xp;clear hS)
  rw[h2]
  rintro r post ⟨rkp2,rlp2,rp2,H4,h34,rfl,rfl⟩ w hS
  (try simp only[app]at hS)
  repeat first|refine Gp ?_|refine Gw λw hS=>?_|refine Gb λb w hS=>?_
  refine zf (λh=>absurd rfl h) (λ_=>?_)
  repeat first|refine Gp ?_|refine Gw λw hS=>?_|refine Gb λb w hS=>?_
  refine zf (λh=>absurd rfl h) (λ_=>?_)
  repeat first|refine Gp ?_|refine Gw λw hS=>?_|refine Gb λb w hS=>?_
  refine zx ?_
  have hS:=SnkO.monoP h34 hS Xr
  (apply ze (y0 kp2 gp2 dp lp2 pp2 H4 ⟨⟨g.segs,8192,300,none⟩,c,t.1,[],t.2.2,t.2.1⟩) hS;exact Xp;clear hS)
  (rintro v post ⟨rfl,rfl⟩ w hS;(try simp only[app]at hS);(repeat (first|refine Gp ?_|refine Gw λw hS=>?_|refine Gb λb w hS=>?_)))
  refine zz ?_
  have hT:TOkK t 2 100:=redo_ok (n:=2) (m:=100) ⟨rfl,okS_nil 2,small_nil 2 _ (by rw[hQ.l.ents];omega),by show (0:Nat)≤64;decide⟩ hr
  have hk:KOk ⟨⟨g.segs,8192,300,none⟩,c,t.1,[],t.2.2,t.2.1⟩ (1100000*(i+1)+100000) 100:=⟨hGg,hcp.mono (by omega),by omega,by show c.ops≤_;omega,by show (0:Nat)≤1024;decide,λf hf=>(by cases hf),by show t.1.length≤8;rw[hT.len];decide,hT.ok,hT.room,hT.rq⟩
  (apply ze (alike18G kp2 gp2 dp lp2 pp2 rkp2 xp rlp2 rp2 H4 _ d hk) hS;exact Xp;clear hS)
  rintro _ post ⟨rfl,H5,h45,rfl⟩ w hS
  (try simp only[app]at hS)
  exact⟨_,⟨rfl,H5,[],Heap.le_trans h02 (Heap.le_trans h23 (Heap.le_trans h34 h45)),rfl⟩,SL.into hS Xi⟩
theorem sinkOpens_law(l:List O18)(b:List (List Int))(ok:∀o∈l,ok18 o)(okb:okSlice 24 (okSlice 1 (inK .u8)) b)(v bv:Value)(w:World)(hl:RdS t18 w Nob l v)(hb:RdS (tSlice (tInt .u8)) w Nob b bv):
  Calls Tryz.prog 3 #[v,bv] w λe w'=>e= .returned (.bool true)∧Below w.heap.size w w':=
 (YL (ZY (Heap.of w) v bv l (toBs b) (Rd18.of hl) (hb.bytes (okB okb)) (λp hp=>by
  obtain⟨q,hq,rfl⟩:=List.mem_map.1 hp
  have:=(okb.2 q hq).1
  rw[List.length_map]
  omega) ok)).calls
end Go.Proofs.YtnmhmnnadkclbaaGreat
