/-
  Texts of the proof, joined: Own, OpT, CellsN, BytesT, SinkT, PlayS, Law18I, Law18S, Law18Q, Law18F, Law18H, Law18R.
-/
import Derived.Test.YtnmhmnnadkclbaaGreatJ10
import Derived.Test.YtnmhmnnadkclbaaGreatRows
import Derived.Test.YtnmhmnnadkclbaaGreatQVcF
namespace Go.Proofs.YtnmhmnnadkclbaaGreat
set_option linter.unusedVariables false
theorem Tryz.own:ownKnob Tryz.prog.godebug=none:=by kernel_rfl
theorem Tryz.laidOut:laidOutB Tryz.prog=true:=by kernel_rfl
end Go.Proofs.YtnmhmnnadkclbaaGreat
namespace Go.Proofs.YtnmhmnnadkclbaaGreat
set_option linter.unusedVariables false
set_option maxRecDepth 100000
open Go.ChangeShapes Go.WideShapes Go.ChangeAt Go.RowKit
def tAOp:GoT AOp:=(tPair (tInt .i64) (tPair (tInt .i64) (tPair (tInt .i64) (tPair tBool (tPair tStr tUnit))))).via λo=>(o.lsn,o.table,o.key,o.gone,o.val,())
theorem tAOp_rd{w:World}{M:MS}{o:AOp}{cs:List Value}(h:tAOp.rd w M o cs):cs=encOp o:=by
 obtain⟨c1,c2,rfl,h1,c3,c4,rfl,h3,c5,c6,rfl,h5,c7,c8,rfl,h7,c9,c10,rfl,h9,h10⟩:=h
 have h1':c1=[.int .i64 o.lsn]:=h1
 have h3':c3=[.int .i64 o.table]:=h3
 have h5':c5=[.int .i64 o.key]:=h5
 have h7':c7=[.bool o.gone]:=h7
 have h9':c9=[.string o.val]:=h9
 have h10':c10=[]:=h10
 subst h1' h3' h5' h7' h9' h10'
 rfl
def okAOp(o:AOp):Prop:=inK .i64 o.lsn∧inK .i64 o.table∧inK .i64 o.key∧okStr o.val
theorem Qs:Opens Tryz.prog 96 tAOp okAOp:=
 yS (yH (λo:AOp=>(o.lsn,o.table,o.key,o.gone,o.val,())) (λx=>⟨x.1,x.2.1,x.2.2.1,x.2.2.2.1,x.2.2.2.2.1⟩) (λ_=>rfl)
  (yl Tryz.underlying96 (by kernel_rfl) (fields_cons (zH Tryz.underlying2 (by kernel_rfl)) rfl (fields_cons (zH Tryz.underlying3 (by kernel_rfl)) rfl (fields_cons (zH Tryz.underlying2 (by kernel_rfl)) rfl (fields_cons (ZP Tryz.underlying4 (by kernel_rfl)) rfl (fields_cons (qV Tryz.underlying9 (by kernel_rfl)) rfl (fields_nil _ _)))))))) (λo h=>⟨h.1,h.2.1,h.2.2.1,h.2.2.2.2.1⟩)
end Go.Proofs.YtnmhmnnadkclbaaGreat
namespace Go.Proofs.YtnmhmnnadkclbaaGreat
set_option linter.unusedVariables false
open Go.ChangeShapes Go.WideShapes Go.ChangeAt Go.RowKit
theorem RdS.cellsN{α:Type}{T:GoT α}{w:World}{xs:List α}{v:Value}(h:RdS T w Nob xs v)(hT:0<T.n):
  ∃css:List (List Value),css.length=xs.length∧RdSl (Heap.of w) T.n v xs.length css.flatten∧∀i (h:i<xs.length) (h':i<css.length),T.rd w Nob xs[i] css[i]:=by
 obtain⟨a,cap,rfl,hc,hx⟩:=h.out
 have hex:∀i,∃cs:List Value,cs.length=T.n∧∀h:i<xs.length,T.rd w Nob xs[i] cs∧∃b off,a=some ⟨b,off,none⟩∧At w Nob b (off+i*T.n) cs:=λi=>by
  by_cases hi:i<xs.length
  ·obtain⟨b,off,cs,ha,hr,hat⟩:=hx i hi
   exact⟨cs,T.len hr,λ_=>⟨hr,b,off,ha,hat⟩⟩
  ·exact⟨List.replicate T.n undef,by simp,λh=>absurd h hi⟩
 obtain⟨f,hf⟩:=Classical.axiomOfChoice hex
 have hlen:∀x∈(List.range xs.length).map f,x.length=T.n:=λx hx=>by
  obtain⟨i,_,rfl⟩:=List.mem_map.1 hx;exact (hf i).1
 have hfl:((List.range xs.length).map f).flatten.length=xs.length*T.n:=by rw[flatten_length (n:=T.n) _ hlen];simp
 refine⟨(List.range xs.length).map f,by simp,⟨hfl,a,cap,rfl,hc,?_⟩,λi hi hi'=>?_⟩
 ·rcases Nat.eq_zero_or_pos xs.length with h0|h0
  ·exact .inl h0
  ·right
   obtain⟨_,b,off,rfl,_⟩:=(hf 0).2 h0
   refine⟨b,off,rfl,λj u hu=>?_⟩
   have hj:=(List.getElem?_eq_some_iff.1 hu).1
   rw[hfl]at hj
   have hi:j / T.n<xs.length:=(Nat.div_lt_iff_lt_mul hT).2 hj
   obtain⟨_,b',off',hab,hat⟩:=(hf (j / T.n)).2 hi
   simp at hab
   obtain⟨rfl,rfl⟩:=hab
   have hmod:j % T.n<(f (j / T.n)).length:=by rw[(hf _).1];exact Nat.mod_lt _ hT
   have hg:=flatten_get (n:=T.n) ((List.range xs.length).map f) hlen (j / T.n) (j % T.n) (by simpa using hi) ((f (j / T.n))[j % T.n]'hmod) (by simp[List.getElem?_eq_getElem hmod])
   have hdm:j / T.n*T.n+j % T.n=j:=by rw[Nat.mul_comm];exact Nat.div_add_mod j T.n
   rw[hdm,hu]at hg
   have hu':u=(f (j / T.n))[j % T.n]:=Option.some.inj hg
   have:=hat.2 (j % T.n) u (by rw[hu'];exact List.getElem?_eq_getElem hmod)
   rw[show off+j / T.n*T.n+j % T.n=off+j by omega]at this
   unfold World.cell? at this
   unfold Heap.cell Heap.of
   simp only at this ⊢
   split at this
   ·rename_i c t f he';rw[he'];simpa using this
   ·cases this
 ·simpa using ((hf i).2 hi).1
end Go.Proofs.YtnmhmnnadkclbaaGreat
namespace Go.Proofs.YtnmhmnnadkclbaaGreat
set_option linter.unusedVariables false
open Go.ChangeShapes Go.WideShapes Go.ChangeAt Go.RowKit
theorem flat_val{α:Type}(f:α→Value):∀l:List α,(l.map λx=>[f x]).flatten=l.map f
 | []=>rfl
 | x::l=>by simp only[List.map_cons,List.flatten_cons,flat_val f l];rfl
theorem RdS.ints{k:IntKind}{w:World}{l:List Int}{v:Value}(h:RdS (tInt k) w Nob l v):RdSl (Heap.of w) 1 v l.length (l.map (Value.int k)):=by
 have h2:=h.flat (enc:=λx=>[.int k x]) (λh=>h) (λ_=>rfl)
 rw[flat_val]at h2
 exact h2
end Go.Proofs.YtnmhmnnadkclbaaGreat
namespace Go.Proofs.YtnmhmnnadkclbaaGreat
set_option linter.unusedVariables false
set_option maxRecDepth 100000
open Go.ChangeShapes Go.WideShapes Go.ChangeAt Go.RowKit
def tNote:GoT PNote:=(tPair (tInt .i64) (tPair (tInt .i64) (tPair (tInt .i64) (tPair (tInt .i64) (tPair (tInt .i64) (tPair (tInt .i64) (tPair tBool tUnit))))))).via λo=>(o.kind,o.id,o.table,o.weight,o.at_,o.cursor,o.done,())
theorem tNote_rd{w:World}{M:MS}{o:PNote}{cs:List Value}(h:tNote.rd w M o cs):cs=encNote o:=by
 obtain⟨c1,c2,rfl,h1,c3,c4,rfl,h3,c5,c6,rfl,h5,c7,c8,rfl,h7,c9,c10,rfl,h9,c11,c12,rfl,h11,c13,c14,rfl,h13,h14⟩:=h
 have h1':c1=[.int .i64 o.kind]:=h1
 have h3':c3=[.int .i64 o.id]:=h3
 have h5':c5=[.int .i64 o.table]:=h5
 have h7':c7=[.int .i64 o.weight]:=h7
 have h9':c9=[.int .i64 o.at_]:=h9
 have h11':c11=[.int .i64 o.cursor]:=h11
 have h13':c13=[.bool o.done]:=h13
 have h14':c14=[]:=h14
 subst h1' h3' h5' h7' h9' h11' h13' h14'
 rfl
def okNoteA(o:PNote):Prop:=inI64 o.kind∧inI64 o.id∧inI64 o.table∧inI64 o.weight∧inI64 o.at_∧inI64 o.cursor
theorem qQ:Opens Tryz.prog 98 tNote okNoteA:=
 yS (yH (λo:PNote=>(o.kind,o.id,o.table,o.weight,o.at_,o.cursor,o.done,())) (λx=>⟨x.1,x.2.1,x.2.2.1,x.2.2.2.1,x.2.2.2.2.1,x.2.2.2.2.2.1,x.2.2.2.2.2.2.1⟩) (λ_=>rfl)
  (yl Tryz.underlying98 (by kernel_rfl) (fields_cons (zH Tryz.underlying3 (by kernel_rfl)) rfl (fields_cons (zH Tryz.underlying3 (by kernel_rfl)) rfl (fields_cons (zH Tryz.underlying3 (by kernel_rfl)) rfl (fields_cons (zH Tryz.underlying3 (by kernel_rfl)) rfl
   (fields_cons (zH Tryz.underlying2 (by kernel_rfl)) rfl (fields_cons (zH Tryz.underlying2 (by kernel_rfl)) rfl (fields_cons (ZP Tryz.underlying4 (by kernel_rfl)) rfl (fields_nil _ _))))))))))
  (λo h=>⟨inK_i64 h.1,inK_i64 h.2.1,inK_i64 h.2.2.1,inK_i64 h.2.2.2.1,inK_i64 h.2.2.2.2.1,inK_i64 h.2.2.2.2.2.1⟩)
def okOpA(o:AOp):Prop:=inI64 o.lsn∧inI64 o.table∧inI64 o.key
def tItem:GoT PItem:=(tPair (tInt .i64) (tPair (tSlice tAOp) (tPair (tSlice tNote) tUnit))).via λx=>(x.lsn,x.ops,x.notes,())
theorem tItem_rd{w:World}{t:PItem}{cs:List Value}(h:tItem.rd w Nob t cs):∃x:ItV,cs=encIt x∧ItIs (Heap.of w) x t:=by
 obtain⟨c1,c2,rfl,h1,c3,c4,rfl,h3,c5,c6,rfl,h5,h6⟩:=h
 have h1':c1=[.int .i64 t.lsn]:=h1
 obtain⟨ov,h3',hov⟩:∃v,c3=[v]∧RdS tAOp w Nob t.ops v:=h3
 obtain⟨nv,h5',hnv⟩:∃v,c5=[v]∧RdS tNote w Nob t.notes v:=h5
 have h6':c6=[]:=h6
 subst h1' h3' h5' h6'
 exact⟨⟨t.lsn,ov,nv⟩,rfl,rfl,hov.flat tAOp_rd (λ_=>rfl),hnv.flat tNote_rd (λ_=>rfl)⟩
structure okItemA(t:PItem):Prop where
 lsn:inI64 t.lsn
 nops:t.ops.length≤140737488351232
 nnts:t.notes.length≤140737488351232
 ops:∀o∈t.ops,okOpA o
 nts:∀n∈t.notes,okNoteA n
theorem itemOpens:Opens Tryz.prog 46 tItem okItemA:=
 yS (yH (λt:PItem=>(t.lsn,t.ops,t.notes,())) (λx=>⟨x.1,x.2.1,x.2.2.1⟩) (λ_=>rfl)
  (yl Tryz.underlying46 (by kernel_rfl) (fields_cons (zH Tryz.underlying2 (by kernel_rfl)) rfl
   (fields_cons (opens_slice (b:=48) Qs Tryz.underlying43 (by kernel_rfl) (by kernel_rfl) (by decide)) rfl
    (fields_cons (opens_slice (b:=56) qQ Tryz.underlying44 (by kernel_rfl) (by kernel_rfl) (by decide)) rfl (fields_nil _ _))))))
  (λt h=>by
   have h2:=h.2.1
   have h3:=h.2.2.1
   exact⟨inK_i64 h.1,by have:=h2.1;simp only at this;omega,by have:=h3.1;simp only at this;omega,λo ho=>by have:=h2.2 o ho;exact⟨inK_i64 this.1,inK_i64 this.2.1,inK_i64 this.2.2.1⟩,λn hn=>h3.2 n hn⟩)
def tFt:GoT PFt:=(tPair (tInt .i64) (tPair (tInt .i64) tUnit)).via λf=>(f.kind,f.keep,())
theorem tFt_rd{w:World}{M:MS}{f:PFt}{cs:List Value}(h:tFt.rd w M f cs):cs=encFt f:=by
 obtain⟨c1,c2,rfl,h1,c3,c4,rfl,h3,h4⟩:=h
 have h1':c1=[.int .i64 f.kind]:=h1
 have h3':c3=[.int .i64 f.keep]:=h3
 have h4':c4=[]:=h4
 subst h1' h3' h4'
 rfl
def okFtA(f:PFt):Prop:=inI64 f.kind∧inI64 f.keep
theorem ftOpens:Opens Tryz.prog 48 tFt okFtA:=
 yS (yH (λf:PFt=>(f.kind,f.keep,())) (λx=>⟨x.1,x.2.1⟩) (λ_=>rfl)
  (yl Tryz.underlying48 (by kernel_rfl) (fields_cons (zH Tryz.underlying3 (by kernel_rfl)) rfl (fields_cons (zH Tryz.underlying3 (by kernel_rfl)) rfl (fields_nil _ _)))))
  (λf h=>⟨inK_i64 h.1,inK_i64 h.2.1⟩)
structure O18 where
 kind:Int
 n:Int
 item:PItem
 fault:PFt
 keep:List Int
structure O18V where
 kind:Int
 n:Int
 it:ItV
 ft:PFt
 kv:Value
def enc18(x:O18V):List Value:=[.int .i64 x.kind,.int .i64 x.n]++encIt x.it++encFt x.ft++[x.kv]
theorem enc18_len(x:O18V):(enc18 x).length=8:=rfl
structure Is18(H:Heap)(x:O18V)(o:O18):Prop where
 kind:x.kind=o.kind
 n:x.n=o.n
 it:ItIs H x.it o.item
 ft:x.ft=o.fault
 kv:RdSl H 1 x.kv o.keep.length (o.keep.map (Value.int .i64))
theorem Is18.mono{H H':Heap}(hh:H.le H'){x:O18V}{o:O18}(h:Is18 H x o):Is18 H' x o:=⟨h.kind,h.n,h.it.mono hh,h.ft,h.kv.mono hh⟩
def Rd18(H:Heap)(v:Value)(l:List O18):Prop:=∃xs:List O18V,xs.length=l.length∧RdSl H 8 v l.length (xs.map enc18).flatten∧∀i (h:i<l.length) (h':i<xs.length),Is18 H xs[i] l[i]
def t18:GoT O18:=(tPair (tInt .i64) (tPair (tInt .i64) (tPair tItem (tPair tFt (tPair (tSlice (tInt .i64)) tUnit))))).via λo=>(o.kind,o.n,o.item,o.fault,o.keep,())
theorem t18_rd{w:World}{o:O18}{cs:List Value}(h:t18.rd w Nob o cs):∃x:O18V,cs=enc18 x∧Is18 (Heap.of w) x o:=by
 obtain⟨c1,c2,rfl,h1,c3,c4,rfl,h3,c5,c6,rfl,h5,c7,c8,rfl,h7,c9,c10,rfl,h9,h10⟩:=h
 have h1':c1=[.int .i64 o.kind]:=h1
 have h3':c3=[.int .i64 o.n]:=h3
 obtain⟨it,h5',hit⟩:=tItem_rd h5
 have h7':=tFt_rd h7
 obtain⟨kv,h9',hkv⟩:∃v,c9=[v]∧RdS (tInt .i64) w Nob o.keep v:=h9
 have h10':c10=[]:=h10
 subst h1' h3' h5' h7' h9' h10'
 exact⟨⟨o.kind,o.n,it,o.fault,kv⟩,rfl,rfl,rfl,hit,rfl,hkv.ints⟩
theorem Rd18.of{w:World}{l:List O18}{v:Value}(h:RdS t18 w Nob l v):Rd18 (Heap.of w) v l:=by
 obtain⟨css,h1,h2,h3⟩:=RdS.cellsN h (by decide)
 have hex:∀i,∃x:O18V,∀(h:i<l.length) (h':i<css.length),css[i]=enc18 x∧Is18 (Heap.of w) x l[i]:=λi=>by
  by_cases hi:i<l.length
  ·obtain⟨x,e,hx⟩:=t18_rd (h3 i hi (by omega))
   exact⟨x,λ_ _=>⟨e,hx⟩⟩
  ·exact⟨⟨0,0,⟨0,.slice none 0 0,.slice none 0 0⟩,⟨0,0⟩,.slice none 0 0⟩,λh=>absurd h hi⟩
 obtain⟨f,hf⟩:=Classical.axiomOfChoice hex
 refine⟨(List.range l.length).map f,by simp,?_,λi hi hi'=>by simpa using (hf i hi (by omega)).2⟩
 have e:css=((List.range l.length).map f).map enc18:=List.ext_getElem (by simp[h1]) λi g1 g2=>by simpa using (hf i (by omega) g1).1
 rw[e]at h2
 exact h2
structure ok18(o:O18):Prop where
 kind:inI64 o.kind
 n:inI64 o.n
 item:okItemA o.item
 ft:okFtA o.fault
 keep:o.keep.length≤140737488351232
theorem o18Opens:Opens Tryz.prog 51 t18 ok18:=
 yS (yH (λo:O18=>(o.kind,o.n,o.item,o.fault,o.keep,())) (λx=>⟨x.1,x.2.1,x.2.2.1,x.2.2.2.1,x.2.2.2.2.1⟩) (λ_=>rfl)
  (yl Tryz.underlying51 (by kernel_rfl) (fields_cons (zH Tryz.underlying3 (by kernel_rfl)) rfl (fields_cons (zH Tryz.underlying3 (by kernel_rfl)) rfl
   (fields_cons itemOpens rfl (fields_cons ftOpens rfl (fields_cons (opens_slice (b:=8) (zH Tryz.underlying3 (by kernel_rfl)) Tryz.underlying49 (by kernel_rfl) (by kernel_rfl) (by decide)) rfl (fields_nil _ _))))))))
  (λo h=>⟨inK_i64 h.1,inK_i64 h.2.1,h.2.2.1,h.2.2.2.1,by have h1:=h.2.2.2.2.1.1;simp only at h1;omega⟩)
end Go.Proofs.YtnmhmnnadkclbaaGreat
namespace Go.Proofs.YtnmhmnnadkclbaaGreat
set_option linter.unusedVariables false
set_option maxRecDepth 100000
open Go.RowKit
def cutOf(s:ByteArray)(n:Nat):ByteArray:=s.extract 0 (min s.size n)
theorem Qq(s:ByteArray)(n:Nat):Spec Tryz.prog 197 [.string s,.int .i64 n] [] (Gives (.string (cutOf s n)) []):=by
 intro W F w hS;apply vc197;unfold Vc197;(try simp only[app]at hS)
 repeat first|refine Gp ?_|refine Gw λw hS=>?_|refine Gb λb w hS=>?_
 rw[show min (s.size:Int) (n:Int)=((min s.size n:Nat):Int) by omega]
 refine⟨s,0,min s.size n,rfl,⟨.i64,rfl⟩,rfl,Nat.zero_le _,Nat.min_le_left _ _,?_⟩
 (exact⟨_,⟨rfl,rfl⟩,SL.into hS Xi⟩)
def chOf(c:Chg)(k:Nat):Chg:=⟨md c.table k,if md c.key 31=30 then ((1+md c.key 1099511627776:Nat):Int) else ((1+md c.key 12:Nat):Int),c.gone,if c.gone then ⟨#[]⟩ else cutOf c.val 32⟩
theorem YK(c:Chg)(k:Nat)(h1:0<k)(h2:k≤8):Spec Tryz.prog 134 [agg (encChg c),.int .i64 k] [] (Gives (agg (encChg (chOf c k))) []):=by
 intro W F w hS;apply vc134;unfold Vc134;(try simp only[app]at hS)
 obtain⟨table,key,gone,val⟩:=c
 refine⟨_,rfl,zS hS ?_⟩
 clear hS;intro p w hS
 refine zS hS ?_
 clear hS;intro q w hS
 simp only[encChg]at hS
 have hm12:=md_lt key 12 (by decide)
 have hmb:=md_lt key 1099511627776 (by decide)
 have hme:(1:Int)+(md key 12:Int)=((1+md key 12:Nat):Int):=by omega
 have hmf:(1:Int)+(md key 1099511627776:Int)=((1+md key 1099511627776:Nat):Int):=by omega
 refine⟨λus w=>∃x:Nat,us=[.pointer (some ⟨x,0,none⟩)]∧SL W (.pt x [.int .i64 (md table k:Nat),.int .i64 ((1+md key 12:Nat):Int),.bool gone,.string ⟨#[]⟩] 170::.pt q [.int .i64 0,.int .i64 0,.bool false,.string ⟨#[]⟩] 170::.pt p [.int .i64 table,.int .i64 key,.bool gone,.string val] 170::F) w,?_,?_⟩
 ·refine ye hS ?_
  clear hS;intro w hS
  repeat first|refine Gp ?_|refine Gw λw hS=>?_|refine Gb λb w hS=>?_
  refine⟨?_,?_⟩
  ·(apply ze (zY table k h1 (by omega)) hS;exact Xp;clear hS)
   (rintro v post ⟨rfl,rfl⟩ w hS;(try simp only[app]at hS);(repeat (first|refine Gp ?_|refine Gw λw hS=>?_|refine Gb λb w hS=>?_)))
   refine⟨?_,?_⟩
   ·(apply ze (z8 key 12 (by decide) (by decide)) hS;exact Xp;clear hS)
    (rintro v post ⟨rfl,rfl⟩ w hS;(try simp only[app]at hS);(repeat (first|refine Gp ?_|refine Gw λw hS=>?_|refine Gb λb w hS=>?_)))
    rw[hme]at hS
    exact⟨_,rfl,SL.into hS Xi⟩
   ·repeat first|refine Gp ?_|refine Gw λw hS=>?_|refine Gb λb w hS=>?_
    (apply ze (z8 key 12 (by decide) (by decide)) hS;exact Xp;clear hS)
    (rintro v post ⟨rfl,rfl⟩ w hS;(try simp only[app]at hS);(repeat (first|refine Gp ?_|refine Gw λw hS=>?_|refine Gb λb w hS=>?_)))
    rw[hme]at hS
    exact⟨_,rfl,SL.into hS Xi⟩
  ·repeat first|refine Gp ?_|refine Gw λw hS=>?_|refine Gb λb w hS=>?_
   (apply ze (zY table k h1 (by omega)) hS;exact Xp;clear hS)
   (rintro v post ⟨rfl,rfl⟩ w hS;(try simp only[app]at hS);(repeat (first|refine Gp ?_|refine Gw λw hS=>?_|refine Gb λb w hS=>?_)))
   (apply ze (z8 key 12 (by decide) (by decide)) hS;exact Xp;clear hS)
   (rintro v post ⟨rfl,rfl⟩ w hS;(try simp only[app]at hS);(repeat (first|refine Gp ?_|refine Gw λw hS=>?_|refine Gb λb w hS=>?_)))
   rw[hme]at hS
   exact⟨_,rfl,SL.into hS Xi⟩
 ·clear hS
  rintro v5 w ⟨x,hus,hS⟩
  cases hus
  refine⟨λus w=>us=[]∧SL W (.pt x [.int .i64 (md table k:Nat),.int .i64 (chOf ⟨table,key,gone,val⟩ k).key,.bool gone,.string ⟨#[]⟩] 170::.pt q [.int .i64 0,.int .i64 0,.bool false,.string ⟨#[]⟩] 170::.pt p [.int .i64 table,.int .i64 key,.bool gone,.string val] 170::F) w,?_,?_⟩
  ·repeat first|refine Gp ?_|refine Gw λw hS=>?_|refine Gb λb w hS=>?_
   (apply ze (z8 key 31 (by decide) (by decide)) hS;exact Xp;clear hS)
   (rintro v post ⟨rfl,rfl⟩ w hS;(try simp only[app]at hS);(repeat (first|refine Gp ?_|refine Gw λw hS=>?_|refine Gb λb w hS=>?_)))
   refine zf (λh=>?_) (λh=>?_)
   ·have hk:(chOf ⟨table,key,gone,val⟩ k).key=((1+md key 1099511627776:Nat):Int):=by unfold chOf;simp only;rw[if_pos (by omega)]
    rw[hk]
    repeat first|refine Gp ?_|refine Gw λw hS=>?_|refine Gb λb w hS=>?_
    (apply ze (z8 key 1099511627776 (by decide) (by decide)) hS;exact Xp;clear hS)
    (rintro v post ⟨rfl,rfl⟩ w hS;(try simp only[app]at hS);(repeat (first|refine Gp ?_|refine Gw λw hS=>?_|refine Gb λb w hS=>?_)))
    rw[hmf]at hS
    exact SL.into hS Xi
   ·have hk:(chOf ⟨table,key,gone,val⟩ k).key=((1+md key 12:Nat):Int):=by unfold chOf;simp only;rw[if_neg (by omega)]
    rw[hk]
    exact⟨rfl,SL.into hS Xi⟩
  ·clear hS
   rintro w ⟨-,hS⟩
   repeat first|refine Gp ?_|refine Gw λw hS=>?_|refine Gb λb w hS=>?_
   cases gone with
   | true=>
    refine zA ?_
    repeat first|refine Gp ?_|refine Gw λw hS=>?_|refine Gb λb w hS=>?_
    have e:encChg (chOf ⟨table,key,true,val⟩ k)=[.int .i64 (md table k:Nat),.int .i64 (chOf ⟨table,key,true,val⟩ k).key,.bool true,.string ⟨#[]⟩]:=rfl
    rw[e]
    (exact⟨_,⟨rfl,rfl⟩,SL.into hS Xi⟩)
   | false=>
    refine zB ?_
    repeat first|refine Gp ?_|refine Gw λw hS=>?_|refine Gb λb w hS=>?_
    (apply ze (Qq val 32) hS;exact Xp;clear hS)
    (rintro v post ⟨rfl,rfl⟩ w hS;(try simp only[app]at hS);(repeat (first|refine Gp ?_|refine Gw λw hS=>?_|refine Gb λb w hS=>?_)))
    have e:encChg (chOf ⟨table,key,false,val⟩ k)=[.int .i64 (md table k:Nat),.int .i64 (chOf ⟨table,key,false,val⟩ k).key,.bool false,.string (cutOf val 32)]:=rfl
    rw[e]
    (exact⟨_,⟨rfl,rfl⟩,SL.into hS Xi⟩)
end Go.Proofs.YtnmhmnnadkclbaaGreat
namespace Go.Proofs.YtnmhmnnadkclbaaGreat
set_option linter.unusedVariables false
set_option maxRecDepth 100000
open Go.RowKit
abbrev RqO(v:Value)(l:List Rq):Chunk:=.ob (OwnSl v 89 7 l.length (l.map encRq).flatten)
def openR(L:List Rq):List Rq:=L.filter λr=>!r.done
theorem openR_take{L:List Rq}{i:Nat}(h:i<L.length):openR (L.take (i+1))=if L[i].done=true then openR (L.take i) else openR (L.take i)++[L[i]]:=by
 unfold openR
 rw[List.take_succ_eq_append_getElem h,List.filter_append]
 cases hd:L[i].done<;>simp[hd]
theorem YR(H:Heap)(v:Value)(L:List Rq)(hv:RdRq H v L)(hL:L.length≤1000):Spec Tryz.prog 160 [v] [.mem H] (λu post=>post=[RqO u (openR L),.mem H]):=by
 intro W F w hS;apply vc160;unfold Vc160;(try simp only[app]at hS)
 have hS:SL W (RqO (.slice none 0 0) (openR (L.take 0))::_) _:=OwnSl.nil hS
 refine⟨λus w=>∃(i:Nat) (u:Value),us=[u,.int .i64 i]∧i≤L.length∧SL W (RqO u (openR (L.take i))::.mem H::F) w,
  λus _=>match us with|[_,.int _ i]=>(L.length-i).toNat|_=>0,⟨0,_,rfl,by omega,hS⟩,?_⟩
 clear hS
 rintro u v4 w ⟨i,_,hus,hi,hS⟩
 cases hus
 refine zt hv ?_
 repeat first|refine Gp ?_|refine Gw λw hS=>?_|refine Gb λb w hS=>?_
 refine zf (λh=>?_) (λh=>?_)
 ·have hil:i<L.length:=by omega
  have ht:=openR_take hil
  have hol:(openR (L.take i)).length≤i:=Nat.le_trans (List.length_filter_le _ _) (by rw[List.length_take];omega)
  refine yh hS Xh encRq_len hv (x:=L[i]) (by simp[hil]) hil (i:=6) rfl ?_
  repeat first|refine Gp ?_|refine Gw λw hS=>?_|refine Gb λb w hS=>?_
  refine zL (λhd=>?_) (λhd=>?_)
  ·rw[if_neg (by rw[hd];decide)]at ht
   refine zM hS Xh encRq_len hv (x:=L[i]) (by simp[hil]) hil ?_
   repeat first|refine Gp ?_|refine Gw λw hS=>?_|refine Gb λb w hS=>?_
   refine yu (n:=(openR (L.take i)).length) (xs:=openR (L.take i)) (y:=L[i]) (enc:=encRq) hS Xr Xh encRq_len encRq_one rfl (by omega) (by omega) λu2 w hS=>?_
   repeat first|refine Gp ?_|refine Gw λw hS=>?_|refine Gb λb w hS=>?_
   refine⟨⟨i+1,u2,rfl,by omega,?_⟩,by dsimp only;omega⟩
   rw[ht]
   exact SL.into (hS.snocL (x:=L[i])) Xi
  ·rw[if_pos hd]at ht
   repeat first|refine Gp ?_|refine Gw λw hS=>?_|refine Gb λb w hS=>?_
   refine⟨⟨i+1,u,rfl,by omega,?_⟩,by dsimp only;omega⟩
   rw[ht];exact hS
 ·have:i=L.length:=by omega
  subst this
  rw[List.take_length]at hS
  exact⟨_,rfl,hS⟩
theorem acceptR_eq{L L':List Rq}{t w a:Int}(h:acceptR L t w a=some L'):L'=L++[newRq L t w a]:=by
 unfold acceptR at h
 split at h
 ·cases h;rfl
 ·cases h
theorem acceptR_in{L L':List Rq}{t w a:Int}(h:acceptR L t w a=some L'):1≤L'.length∧L'.length≤64∧0≤t∧t<8∧1≤w∧w≤8∧1≤a:=by
 have hM:=acceptR_may h
 have he:=acceptR_eq h
 have hl:L'.length=L.length+1:=by rw[he];simp
 have h1:=(hM.2 L.length (by omega)).1
 have e:L'[L.length]=newRq L t w a:=by simp[he]
 rw[e]at h1
 unfold okRq newRq at h1
 exact⟨by omega,hM.1,h1.2.1,h1.2.2.1,h1.2.2.2.1,h1.2.2.2.2.1,h1.2.2.2.2.2.1⟩
theorem chunkR_in{L L':List Rq}{id c:Int}{dn:Bool}(h:chunkR L id c dn=some L'):MayP L∧1≤id∧id≤L.length∧c≤1099511627776:=by
 unfold chunkR at h
 split at h
 ·rename_i hc
  split at h
  ·split at h
   ·cases h
   ·rename_i r _ hn
    exact⟨hc.1,hc.2.1,hc.2.2,by
     rcases Int.lt_or_le 1099511627776 c with h2|h2
     ·exact absurd (.inr (.inr (.inl h2))) hn
     ·exact h2⟩
  ·cases h
 ·cases h
theorem notesR_snoc{L L1:List Rq}{n:PNote}:∀{l:List PNote},notesR L l=some L1→notesR L (l++[n])=noteR L1 n
 | [],h=>by
  cases h
  show (match noteR L n with|some L'=>notesR L' []|none=>none)=_
  cases noteR L n<;>rfl
 | x::l,h=>by
  unfold notesR at h
  show (match noteR L x with|some L'=>notesR L' (l++[n])|none=>none)=_
  cases hx:noteR L x with
  | none=>rw[hx]at h;cases h
  | some L'=>rw[hx]at h;exact notesR_snoc h
structure NtOk(L:List Rq)(lsn:Int)(out:List PNote)(L':List Rq):Prop where
 run:notesR L out=some L'
 may:∀n∈out,mayNote n lsn=true
 rq:MayP L'
theorem NtOk.snoc{L:List Rq}{lsn:Int}{out:List PNote}{L1 L2:List Rq}(h:NtOk L lsn out L1){n:PNote}(hn:noteR L1 n=some L2)(hm:mayNote n lsn=true)(hM:MayP L2):NtOk L lsn (out++[n]) L2:=
 ⟨by rw[notesR_snoc h.run];exact hn,λx hx=>by
  rcases List.mem_append.1 hx with hx|hx
  ·exact h.may x hx
  ·rw[List.mem_singleton.1 hx];exact hm,hM⟩
theorem Za(H:Heap)(rv nv:Value)(L:List Rq)(NL:List PNote)(lsn:Int)(hr:RdRq H rv L)(hM:MayP L)(hn:RdNts H nv NL)(hl:1≤lsn)(hnl:NL.length≤140737488351232):
  Spec Tryz.prog 75 [rv,nv,.int .i64 lsn] [.mem H] (λu post=>∃out L' H',H.le H'∧RdNts H' u out∧out.length≤3∧NtOk L lsn out L'∧post=[.mem H']):=by
 intro W F w hS;apply vc75;unfold Vc75;(try simp only[app]at hS)
 have hS:SL W (NtO (.slice none 0 0) []::_) _:=OwnSl.nil hS
 refine⟨λus w=>∃(i:Nat) (L1:List Rq) (lv ov:Value) (out:List PNote) (H2:Heap),us=[lv,ov,.int .i64 i]∧i≤NL.length∧i≤3∧out.length≤i∧NtOk L lsn out L1∧H.le H2∧RdRq H2 lv L1∧SL W (NtO ov out::.mem H2::F) w,
  λus _=>match us with|[_,_,.int _ i]=>(NL.length-i).toNat|_=>0,⟨0,L,rv,.slice none 0 0,[],H,rfl,by omega,by omega,by simp,⟨rfl,by simp,hM⟩,Heap.le_refl H,hr,hS⟩,?_⟩
 clear hS
 rintro lv ov v8 w ⟨i,L1,_,_,out,H2,hus,hi,hi3,hol,hO,h02,hlv,hS⟩
 cases hus
 have hend:∀{w:World},SL W (NtO ov out::.mem H2::F) w→∃post,(∃out L' H',H.le H'∧RdNts H' ov out∧out.length≤3∧NtOk L lsn out L'∧post=[.mem H'])∧SL W (app post F) w:=λhS=>by
  obtain⟨H3,h23,hR,hS⟩:=OwnSl.freeze (hS.perm (.swap _ _ _))
  exact⟨_,⟨out,L1,H3,Heap.le_trans h02 h23,hR,by omega,hO,rfl⟩,hS⟩
 have hn2:=hn.mono h02
 have hL64:=hO.rq.1
 refine zt hn ?_
 repeat first|refine Gp ?_|refine Gw λw hS=>?_|refine Gb λb w hS=>?_
 refine zf (λh=>?_) (λh=>hend hS)
 repeat first|refine Gp ?_|refine Gw λw hS=>?_|refine Gb λb w hS=>?_
 refine zf (λh3=>?_) (λh3=>hend hS)
 have hil:i<NL.length:=by omega
 have hx:NL[i]?=some NL[i]:=List.getElem?_eq_getElem hil
 (apply ze (YR H2 lv L1 hlv (by omega)) hS;exact Xp;clear hS)
 rintro qv post rfl w hS
 (try simp only[app]at hS)
 have hql:(openR L1).length≤64:=Nat.le_trans (List.length_filter_le _ _) hL64
 refine⟨λus w=>∃q:Bool,us=[.bool q]∧(q=false→0<(openR L1).length)∧SL W (RqO qv (openR L1)::NtO ov out::.mem H2::F) w,?_,?_⟩
 ·refine yh hS Xh encNote_len hn2 hx hil (i:=0) rfl ?_
  (apply ze (zY NL[i].kind 2 (by decide) (by decide)) hS;exact Xp;clear hS)
  (rintro v post ⟨rfl,rfl⟩ w hS;(try simp only[app]at hS);(repeat (first|refine Gp ?_|refine Gw λw hS=>?_|refine Gb λb w hS=>?_)))
  refine zf (λh0=>?_) (λh0=>?_)
  ·exact⟨true,rfl,λh=>by (cases h),SL.into hS Xi⟩
  ·refine zC hS (v:=qv) Xh ?_
   repeat first|refine Gp ?_|refine Gw λw hS=>?_|refine Gb λb w hS=>?_
   exact⟨_,rfl,λh=>by have:=of_decide_eq_false h;omega,SL.into hS Xi⟩
 clear hS
 rintro v39 w ⟨q,hus,hq,hS⟩
 cases hus
 refine yP (λhqt=>?_) (λhqf=>?_)
 ·repeat first|refine Gp ?_|refine Gw λw hS=>?_|refine Gb λb w hS=>?_
  refine yh hS Xh encNote_len hn2 hx hil (i:=2) rfl ?_
  refine yV hn2 hil λab ao hb=>zW ?_
  have hc3:=hb 3 (.int .i64 NL[i].weight) (by decide) (flat_at encNote_len NL i 3 _ _ hx rfl)
  refine yK hS Xh hc3 ?_
  (apply ze (zY NL[i].table 2 (by decide) (by decide)) hS;exact Xp;clear hS)
  (rintro v post ⟨rfl,rfl⟩ w hS;(try simp only[app]at hS);(repeat (first|refine Gp ?_|refine Gw λw hS=>?_|refine Gb λb w hS=>?_)))
  refine yK hS Xh hc3 ⟨rfl,?_⟩
  have hmw:=md_lt NL[i].weight 8 (by decide)
  (apply ze (zY NL[i].weight 8 (by decide) (by decide)) hS;exact Xp;clear hS)
  (rintro v post ⟨rfl,rfl⟩ w hS;(try simp only[app]at hS);(repeat (first|refine Gp ?_|refine Gw λw hS=>?_|refine Gb λb w hS=>?_)))
  (apply ze (Zf H2 lv L1 (md NL[i].table 2) (1+md NL[i].weight 8) lsn hlv (by omega)) hS;exact Xp;clear hS)
  rintro r post ⟨H3,h23,rfl,hqa⟩ w hS
  have h03:=Heap.le_trans h02 h23
  generalize (md NL[i].table 2:Int)=tb at *
  generalize (1+(md NL[i].weight 8:Int))=wt at *
  cases hc:acceptR L1 tb wt lsn with
  | none=>
   rw[hc]at hqa
   obtain rfl:=hqa
   (try simp only[app]at hS)
   repeat first|refine Gp ?_|refine Gw λw hS=>?_|refine Gb λb w hS=>?_
   exact⟨⟨i+1,L1,lv,ov,out,H3,rfl,by omega,by omega,by omega,hO,h03,hlv.mono h23,SL.into hS Xi⟩,by dsimp only;omega⟩
  | some L2=>
   rw[hc]at hqa
   obtain⟨y,rfl,hy⟩:=hqa
   obtain⟨a1,a2,a3,a4,a5,a6,a7⟩:=acceptR_in hc
   have he:=acceptR_eq hc
   have hl2:L2.length=L1.length+1:=by rw[he];simp
   have hj:L2.length-1<L2.length:=by omega
   have hlast:L2[L2.length-1]?=some (newRq L1 tb wt lsn):=by
    rw[hl2,he];simp
   (try simp only[app]at hS)
   repeat first|refine Gp ?_|refine Gw λw hS=>?_|refine Gb λb w hS=>?_
   refine zt hy ?_
   refine zt hy ?_
   repeat first|refine Gp ?_|refine Gw λw hS=>?_|refine Gb λb w hS=>?_
   rw[show (L2.length:Int)-1=((L2.length-1:Nat):Int) by omega]
   refine yh hS Xh encRq_len hy hlast hj (i:=1) (u:=.int .i64 tb) rfl ?_
   refine zt hy ?_
   repeat first|refine Gp ?_|refine Gw λw hS=>?_|refine Gb λb w hS=>?_
   rw[show (L2.length:Int)-1=((L2.length-1:Nat):Int) by omega]
   refine yh hS Xh encRq_len hy hlast hj (i:=2) (u:=.int .i64 wt) rfl ?_
   repeat first|refine Gp ?_|refine Gw λw hS=>?_|refine Gb λb w hS=>?_
   have hno:noteR L1 ⟨1,(L2.length:Int),tb,wt,lsn,0,false⟩=some L2:=by
    unfold noteR
    rw[if_neg (by show ¬(1:Int)=2;decide)]
    simp only[hc]
    rw[if_pos trivial]
   have hmn:mayNote ⟨1,(L2.length:Int),tb,wt,lsn,0,false⟩ lsn=true:=by
    unfold mayNote
    rw[decide_eq_true_iff]
    exact⟨by show (1:Int)≤(L2.length:Int);omega,by show (L2.length:Int)≤64;omega,.inl ⟨rfl,a3,a4,a5,a6,a7,Int.le_refl _,rfl,rfl⟩⟩
   refine yu (n:=out.length) (xs:=out) (y:=⟨1,(L2.length:Int),tb,wt,lsn,0,false⟩) (enc:=encNote) hS Xr Xh encNote_len encNote_one rfl (by omega) (by omega) λu w hS=>?_
   repeat first|refine Gp ?_|refine Gw λw hS=>?_|refine Gb λb w hS=>?_
   refine⟨⟨i+1,L2,y,u,_,H3,rfl,by omega,by omega,by rw[List.length_append,List.length_singleton];omega,hO.snoc hno hmn (acceptR_may hc),h03,hy,?_⟩,by dsimp only;omega⟩
   exact SL.into (hS.snocL (x:=⟨1,(L2.length:Int),tb,wt,lsn,0,false⟩)) Xi
 ·have hq0:=hq hqf
  refine yh hS Xh encNote_len hn2 hx hil (i:=1) rfl ?_
  refine zC hS (v:=qv) Xh ?_
  have hmj:=md_lt NL[i].id (openR L1).length hq0
  (apply ze (zY NL[i].id (openR L1).length hq0 (by omega)) hS;exact Xp;clear hS)
  (rintro v post ⟨rfl,rfl⟩ w hS;(try simp only[app]at hS);(repeat (first|refine Gp ?_|refine Gw λw hS=>?_|refine Gb λb w hS=>?_)))
  generalize hjj:md NL[i].id (openR L1).length=j at *
  refine Zd hS (v:=qv) (enc:=encRq) (xs:=openR L1) Xh encRq_len (List.getElem?_eq_getElem hmj) hmj ?_
  have hrm:(openR L1)[j]∈L1:=(List.mem_filter.1 (List.getElem_mem hmj)).1
  generalize (openR L1)[j]=r at *
  have hcur:=hO.rq.cur r hrm
  obtain⟨jr,hjr,hje⟩:=List.getElem_of_mem hrm
  have hrid:r.id=((jr:Nat):Int)+1:=by have:=(hO.rq.2 jr hjr).1.1;rw[hje]at this;exact this
  obtain⟨rid,rt,rw_,rat,rcur,rch,rd⟩:=r
  simp only at hcur hrid
  refine Gb λrb w hS=>?_
  unfold encRq at hS
  simp only at hS
  have hmc:=md_lt NL[i].cursor 4 (by decide)
  refine⟨λus w=>∃nb:Nat,us=[ptrO nb]∧SL W (.pt nb [.int .i64 2,.int .i64 rid,.int .i64 0,.int .i64 0,.int .i64 0,.int .i64 (rcur+md NL[i].cursor 4),.bool NL[i].done] 98::NtO ov out::.mem H2::F) w,?_,?_⟩
  ·repeat first|refine Gp ?_|refine Gw λw hS=>?_|refine Gb λb w hS=>?_
   refine yV hn2 hil λab ao hb=>zW ?_
   have hc5:=hb 5 (.int .i64 NL[i].cursor) (by decide) (flat_at encNote_len NL i 5 _ _ hx rfl)
   have hc6:=hb 6 (.bool NL[i].done) (by decide) (flat_at encNote_len NL i 6 _ _ hx rfl)
   have hSv:∀{w:World} {l:List Chunk},SL W l w→Has (.mem H2) l→True:=λ_ _=>trivial
   refine yK hS Xh hc5 ?_
   refine yV hn2 hil λab2 ao2 hb2=>zW ?_
   have hc62:=hb2 6 (.bool NL[i].done) (by decide) (flat_at encNote_len NL i 6 _ _ hx rfl)
   refine yK hS Xh hc62 ?_
   refine⟨?_,?_⟩
   ·(apply ze (z8 NL[i].cursor 4 (by decide) (by decide)) hS;exact Xp;clear hS)
    (rintro v post ⟨rfl,rfl⟩ w hS;(try simp only[app]at hS);(repeat (first|refine Gp ?_|refine Gw λw hS=>?_|refine Gb λb w hS=>?_)))
    refine yK hS Xh hc62 ⟨rfl,?_⟩
    repeat first|refine Gp ?_|refine Gw λw hS=>?_|refine Gb λb w hS=>?_
    refine yK hS Xh hc62 ⟨rfl,?_⟩
    repeat first|refine Gp ?_|refine Gw λw hS=>?_|refine Gb λb w hS=>?_
    exact⟨_,rfl,SL.into hS Xi⟩
   ·repeat first|refine Gp ?_|refine Gw λw hS=>?_|refine Gb λb w hS=>?_
    refine yK hS Xh hc5 ⟨rfl,?_⟩
    refine yK hS Xh hc62 ⟨rfl,?_⟩
    (apply ze (z8 NL[i].cursor 4 (by decide) (by decide)) hS;exact Xp;clear hS)
    (rintro v post ⟨rfl,rfl⟩ w hS;(try simp only[app]at hS);(repeat (first|refine Gp ?_|refine Gw λw hS=>?_|refine Gb λb w hS=>?_)))
    refine yK hS Xh hc62 ⟨rfl,?_⟩
    repeat first|refine Gp ?_|refine Gw λw hS=>?_|refine Gb λb w hS=>?_
    exact⟨_,rfl,SL.into hS Xi⟩
  clear hS
  rintro v13 w ⟨nb,hus,hS⟩
  cases hus
  generalize hcu:rcur+(md NL[i].cursor 4:Int)=cu at *
  repeat first|refine Gp ?_|refine Gw λw hS=>?_|refine Gb λb w hS=>?_
  (apply ze (ZA H2 lv L1 rid cu NL[i].done hlv (by omega) (by omega)) hS;exact Xp;clear hS)
  rintro r post ⟨H3,h23,rfl,hqa⟩ w hS
  have h03:=Heap.le_trans h02 h23
  cases hc:chunkR L1 rid cu NL[i].done with
  | none=>
   rw[hc]at hqa
   obtain rfl:=hqa
   (try simp only[app]at hS)
   repeat first|refine Gp ?_|refine Gw λw hS=>?_|refine Gb λb w hS=>?_
   exact⟨⟨i+1,L1,lv,ov,out,H3,rfl,by omega,by omega,by omega,hO,h03,hlv.mono h23,SL.into hS Xi⟩,by dsimp only;omega⟩
  | some L2=>
   rw[hc]at hqa
   obtain⟨y,rfl,hy⟩:=hqa
   obtain⟨b1,b2,b3,b4⟩:=chunkR_in hc
   (try simp only[app]at hS)
   repeat first|refine Gp ?_|refine Gw λw hS=>?_|refine Gb λb w hS=>?_
   have hno:noteR L1 ⟨2,rid,0,0,0,cu,NL[i].done⟩=some L2:=by
    unfold noteR
    rw[if_pos rfl];exact hc
   have hmn:mayNote ⟨2,rid,0,0,0,cu,NL[i].done⟩ lsn=true:=by
    unfold mayNote
    rw[decide_eq_true_iff]
    exact⟨b2,by show rid≤64;omega,.inr ⟨rfl,rfl,rfl,rfl,by show 0≤cu;omega,b4⟩⟩
   refine yu (n:=out.length) (xs:=out) (y:=⟨2,rid,0,0,0,cu,NL[i].done⟩) (enc:=encNote) hS Xr Xh encNote_len encNote_one rfl (by omega) (by omega) λu w hS=>?_
   repeat first|refine Gp ?_|refine Gw λw hS=>?_|refine Gb λb w hS=>?_
   refine⟨⟨i+1,L2,y,u,_,H3,rfl,by omega,by omega,by rw[List.length_append,List.length_singleton];omega,hO.snoc hno hmn (chunkR_may hc),h03,hy,?_⟩,by dsimp only;omega⟩
   exact SL.into (hS.snocL (x:=⟨2,rid,0,0,0,cu,NL[i].done⟩)) Xi
def opI(o:AOp)(k L:Nat):AOp:=⟨1+md o.lsn L,(chOf ⟨o.table,o.key,o.gone,o.val⟩ k).table,(chOf ⟨o.table,o.key,o.gone,o.val⟩ k).key,(chOf ⟨o.table,o.key,o.gone,o.val⟩ k).gone,(chOf ⟨o.table,o.key,o.gone,o.val⟩ k).val⟩
def piOf(t:PItem)(k lsn:Nat):PItem:=⟨((lsn+1+md t.lsn 3:Nat):Int),(t.ops.take 5).map λo=>opI o k (lsn+1+md t.lsn 3),[]⟩
theorem chOf_more(c:Chg)(k:Nat)(hk:0<k)(hk8:k≤8):0≤(chOf c k).table∧(chOf c k).table<k∧1≤(chOf c k).key∧(chOf c k).key≤1099511627776∧(chOf c k).val.size≤32∧((chOf c k).gone=true→(chOf c k).val=emp):=by
 have h1:=md_lt c.table k hk
 have h2:=md_lt c.key 12 (by decide)
 have h3:=md_lt c.key 1099511627776 (by decide)
 refine⟨Int.natCast_nonneg _,by show (md c.table k:Int)<k;omega,?_,?_,?_,?_⟩
 ·unfold chOf;simp only;split<;>omega
 ·unfold chOf;simp only;split<;>omega
 ·unfold chOf;simp only;split
  ·decide
  ·unfold cutOf;rw[ByteArray.size_extract];omega
 ·intro h
  have h:c.gone=true:=h
  unfold chOf;simp only;rw[if_pos h];rfl
theorem piOf_may(t:PItem)(k lsn:Nat)(hk:0<k)(hk8:k≤8)(hl:lsn+3≤1099511627776){out:List PNote}(ho:out.length≤256)(hm:∀n∈out,mayNote n (piOf t k lsn).lsn=true):mayItem {piOf t k lsn with notes:=out}=true:=by
 have h3:=md_lt t.lsn 3 (by decide)
 refine mayItem_iff.2 ⟨⟨by show (1:Int)≤((lsn+1+md t.lsn 3:Nat):Int);omega,by show ((lsn+1+md t.lsn 3:Nat):Int)≤_;omega,?_,ho⟩,λo hx=>?_,hm⟩
 ·show ((t.ops.take 5).map _).length≤4096
  rw[List.length_map,List.length_take];omega
 ·obtain⟨o,_,rfl⟩:=List.mem_map.1 hx
  obtain⟨c1,c2,c3,c4,c5,c6⟩:=chOf_more ⟨o.table,o.key,o.gone,o.val⟩ k hk hk8
  have hb:=md_lt o.lsn (lsn+1+md t.lsn 3) (by omega)
  unfold mayOp
  rw[decide_eq_true_iff]
  refine⟨by show (1:Int)≤1+(md o.lsn _:Int);omega,by show 1+(md o.lsn (lsn+1+md t.lsn 3):Int)≤((lsn+1+md t.lsn 3:Nat):Int);omega,c1,by show (chOf ⟨o.table,o.key,o.gone,o.val⟩ k).table<8;omega,c3,c4,c5,c6⟩
theorem piOf_tabs(t:PItem)(k lsn:Nat)(hk:0<k)(hk8:k≤8)(out:List PNote):tabsOk k {piOf t k lsn with notes:=out}=true:=by
 unfold tabsOk
 rw[List.all_eq_true]
 intro o hx
 obtain⟨o,_,rfl⟩:=List.mem_map.1 hx
 exact decide_eq_true (chOf_more ⟨o.table,o.key,o.gone,o.val⟩ k hk hk8).2.1
theorem ZQ(H:Heap)(x:ItV)(t:PItem)(hx:ItIs H x t)(k lsn:Nat)(hk:0<k)(hk8:k≤8)(hl:lsn≤1000000000000000)(hn:t.ops.length≤140737488351232):
  Spec Tryz.prog 53 [agg (encIt x),.int .i64 k,.int .i64 lsn] [.mem H] (λu post=>∃ov H',H.le H'∧u=agg [.int .i64 (piOf t k lsn).lsn,ov,.slice none 0 0]∧RdOps H' ov (piOf t k lsn).ops∧post=[.mem H']):=by
 intro W F w hS;apply vc53;unfold Vc53;(try simp only[app]at hS)
 refine zQ hS λxb w hS=>?_
 have ex:encIt x=[.int .i64 t.lsn,x.ov,x.nv]:=by unfold encIt;rw[hx.lsn]
 rw[ex]at hS
 refine Gb λzb w hS=>?_
 have hm3:=md_lt t.lsn 3 (by decide)
 repeat first|refine Gp ?_|refine Gw λw hS=>?_|refine Gb λb w hS=>?_
 (apply ze (z8 t.lsn 3 (by decide) (by decide)) hS;exact Xp;clear hS)
 rintro v post ⟨rfl,rfl⟩ w hS
 (try simp only[app]at hS)
 refine Qb ?_
 have hP:(piOf t k lsn).lsn=((lsn+1+md t.lsn 3:Nat):Int):=rfl
 have hOps:(piOf t k lsn).ops=(t.ops.take 5).map λo=>opI o k (lsn+1+md t.lsn 3):=rfl
 rw[hP,hOps]
 generalize hLL:lsn+1+md t.lsn 3=L at *
 refine Gp ?_
 refine Gb λib w hS=>?_
 have hS:=OwnSl.nil (t:=96) (sz:=5) hS
 have hS:SL W (OpO (.slice none 0 0) ((t.ops.take 0).map λo=>opI o k L)::_) _:=hS
 refine⟨λus w=>∃(i:Nat) (ov:Value),us=[.int .i64 i]∧i≤t.ops.length∧i≤5∧SL W (OpO ov ((t.ops.take i).map λo=>opI o k L)::.pt ib [.int .i64 (L:Nat),ov,.slice none 0 0] 46::.pt zb [.int .i64 0,.slice none 0 0,.slice none 0 0] 46::.pt xb [.int .i64 t.lsn,x.ov,x.nv] 46::.mem H::F) w,
  λus _=>match us with|[.int _ i]=>(t.ops.length-i).toNat|_=>0,⟨0,.slice none 0 0,rfl,by omega,by omega,SL.into hS Xi⟩,?_⟩
 clear hS
 rintro v8 w ⟨i,ov,hus,hi,hi5,hS⟩
 cases hus
 have hend:i=min 5 t.ops.length→∀{w:World},SL W (OpO ov ((t.ops.take i).map λo=>opI o k L)::.pt ib [.int .i64 (L:Nat),ov,.slice none 0 0] 46::.pt zb [.int .i64 0,.slice none 0 0,.slice none 0 0] 46::.pt xb [.int .i64 t.lsn,x.ov,x.nv] 46::.mem H::F) w →
   zj 3 (ptrO ib) w λv65=>zu 3 (ptrO zb) v65 w λw_17=>zj 3 (ptrO zb) w_17 λr=>∃post,(∃ov H',H.le H'∧r=agg [.int .i64 (L:Nat),ov,.slice none 0 0]∧RdOps H' ov ((t.ops.take 5).map λo=>opI o k L)∧post=[.mem H'])∧SL W (app post F) w_17:=λe w hS=>by
  have h1:=OwnSl.one hS
  have et:t.ops.take 5=t.ops.take i:=by rw[List.take_eq_take_iff];omega
  obtain⟨H1,h01,hR,hS⟩:=OwnSl.freeze (SL.into hS (t:=.mem H::OpO ov ((t.ops.take i).map λo=>opI o k L)::.pt ib [.int .i64 (L:Nat),ov,.slice none 0 0] 46::.pt zb [.int .i64 0,.slice none 0 0,.slice none 0 0] 46::F) Xi)
  refine zG hS Xh rfl ?_
  refine zZ (vs:=[.int .i64 (L:Nat),ov,.slice none 0 0]) hS Xu rfl rfl (λv hv=>by
   simp only[List.mem_cons,List.not_mem_nil,or_false]at hv
   rcases hv with rfl|rfl|rfl
   ·rfl
   ·exact h1
   ·rfl) λw hS=>?_
  repeat first|refine Gp ?_|refine Gw λw hS=>?_|refine Gb λb w hS=>?_
  exact⟨_,⟨ov,H1,h01,rfl,by rw[et];exact hR,rfl⟩,SL.into hS Xi⟩
 repeat first|refine Gp ?_|refine Gw λw hS=>?_|refine Gb λb w hS=>?_
 refine zt hx.ops ?_
 repeat first|refine Gp ?_|refine Gw λw hS=>?_|refine Gb λb w hS=>?_
 refine zf (λh=>?_) (λh=>hend (by omega) hS)
 repeat first|refine Gp ?_|refine Gw λw hS=>?_|refine Gb λb w hS=>?_
 refine zf (λh5=>?_) (λh5=>hend (by omega) hS)
 have hil:i<t.ops.length:=by omega
 repeat first|refine Gp ?_|refine Gw λw hS=>?_|refine Gb λb w hS=>?_
 refine zM hS Xh encOp_len' hx.ops (x:=t.ops[i]) (by simp[hil]) hil ?_
 have ht:(t.ops.take (i+1)).map (λo=>opI o k L)=(t.ops.take i).map (λo=>opI o k L)++[opI t.ops[i] k L]:=by rw[List.take_succ_eq_append_getElem hil,List.map_append];rfl
 generalize t.ops[i]=o at *
 obtain⟨ol,ot,ok,og,oval⟩:=o
 refine Gb λob w hS=>?_
 unfold encOp at hS
 simp only at hS
 have hLpos:0<L:=by omega
 repeat first|refine Gp ?_|refine Gw λw hS=>?_|refine Gb λb w hS=>?_
 (apply ze (YK ⟨ot,ok,og,oval⟩ k hk hk8) hS;exact Xp;clear hS)
 rintro v post ⟨rfl,rfl⟩ w hS
 (try simp only[app]at hS)
 have ho:opI ⟨ol,ot,ok,og,oval⟩ k L=⟨1+md ol L,(chOf ⟨ot,ok,og,oval⟩ k).table,(chOf ⟨ot,ok,og,oval⟩ k).key,(chOf ⟨ot,ok,og,oval⟩ k).gone,(chOf ⟨ot,ok,og,oval⟩ k).val⟩:=rfl
 rw[ho]at ht
 generalize chOf ⟨ot,ok,og,oval⟩ k=c at *
 obtain⟨ct,ck,cg,cv⟩:=c
 simp only at ht
 have hml:=md_lt ol L hLpos
 repeat first|refine Gp ?_|refine Gw λw hS=>?_|refine Gb λb w hS=>?_
 (apply ze (z8 ol L hLpos (by omega)) hS;exact Xp;clear hS)
 (rintro v post ⟨rfl,rfl⟩ w hS;(try simp only[app]at hS);(repeat (first|refine Gp ?_|refine Gw λw hS=>?_|refine Gb λb w hS=>?_)))
 refine yu (n:=((t.ops.take i).map λo=>opI o k L).length) (xs:=(t.ops.take i).map λo=>opI o k L) (y:=⟨1+md ol L,ct,ck,cg,cv⟩) (enc:=encOp) hS Xr Xh encOp_len' (λx=>encOp_one x) rfl (by rw[List.length_map,List.length_take];omega) (by rw[List.length_map,List.length_take];omega) λu w hS=>?_
 have h1:=OwnSl.one hS
 repeat first|refine Gp ?_|refine Gw λw hS=>?_|refine Gb λb w hS=>?_
 refine⟨⟨i+1,u,rfl,by omega,by omega,?_⟩,by dsimp only;omega⟩
 rw[ht]
 exact SL.into (hS.snocL (x:=⟨1+md ol L,ct,ck,cg,cv⟩)) Xi
theorem enc18_it{y:O18V}:∀j v,(encIt y.it)[j]?=some v→(enc18 y)[2+j]?=some v
 | 0,v,h=>h
 | 1,v,h=>h
 | 2,v,h=>h
 | j+3,v,h=>by simp[encIt]at h
structure IQ(k:PSink)(o:O18)(z:PItem):Prop where
 ok:IOk z
 keys:∀x∈z.ops,inI64 x.key
 may:md o.n 13=0→k.ts.length=2→k.lsn+3≤1099511627776→k.lsn<z.lsn∧z.lsn≤k.lsn+3∧∃L,fitsR 2 k.reqs z=some L
theorem piOf_iok(t:PItem)(k lsn:Nat)(hk:0<k)(hk8:k≤8){out:List PNote}(ho:out.length≤3)(hm:∀n∈out,∃l,mayNote n l=true):IOk {piOf t k lsn with notes:=out}∧∀x∈(piOf t k lsn).ops,inI64 x.key:=by
 refine⟨⟨λn hn=>?_,?_,by show out.length≤_;omega⟩,λx hx=>?_⟩
 ·obtain⟨l,h⟩:=hm n hn
  unfold mayNote at h
  rw[decide_eq_true_eq]at h
  unfold inI64;omega
 ·show ((t.ops.take 5).map _).length≤_
  rw[List.length_map,List.length_take];omega
 ·obtain⟨o,_,rfl⟩:=List.mem_map.1 hx
  have:=chOf_more ⟨o.table,o.key,o.gone,o.val⟩ k hk hk8
  unfold inI64
  show -9223372036854775808≤(chOf ⟨o.table,o.key,o.gone,o.val⟩ k).key∧(chOf ⟨o.table,o.key,o.gone,o.val⟩ k).key≤_
  omega
theorem Yy(rkp xp rlp rp:Nat)(H:Heap)(k:PSink)(xo:O18V)(o:O18)(hx:Is18 H xo o)(hok:ok18 o)(hlsn:0≤k.lsn∧k.lsn≤1099511627776)(hM:MayP k.reqs):
  Spec Tryz.prog 17 [ptrO rkp,agg (enc18 xo)] [.ob (RSnkO rkp xp rlp rp H k),.mem H] (λv post=>∃xv z H',H.le H'∧v=agg (encIt xv)∧ItIs H' xv z∧IQ k o z∧post=[.ob (RSnkO rkp xp rlp rp H' k),.mem H']):=by
 intro W F w hS;apply vc17;unfold Vc17;(try simp only[app]at hS)
 refine zQ hS λab w hS=>?_
 obtain⟨lsn,hls⟩:=Int.eq_ofNat_of_zero_le hlsn.1
 have hit:=hx.it
 refine Gb λzb w hS=>?_
 have hdone:∀{w:World} {l:List Chunk} {xv:ItV} {z:PItem} {H':Heap},H.le H'→ItIs H' xv z→IQ k o z→SL W (.pt zb [.int .i64 0,.slice none 0 0,.slice none 0 0] 46::.ob (RSnkO rkp xp rlp rp H' k)::.mem H'::l) w→(∀w',SL W (.ob (RSnkO rkp xp rlp rp H' k)::.mem H'::.pt zb (encIt xv) 46::l) w'→SL W (.ob (RSnkO rkp xp rlp rp H' k)::.mem H'::F) w')→zu 3 (ptrO zb) (agg (encIt xv)) w λw_17=>zj 3 (ptrO zb) w_17 λr=>∃post,(∃xv z H',H.le H'∧r=agg (encIt xv)∧ItIs H' xv z∧IQ k o z∧post=[.ob (RSnkO rkp xp rlp rp H' k),.mem H'])∧SL W (app post F) w_17:=λhh hz hq hS hw=>by
  refine zZ hS Xu rfl rfl (encIt_one hz) λw hS=>?_
  refine zG hS Xh rfl ?_
  exact⟨_,⟨_,_,_,hh,rfl,hz,hq,rfl⟩,hw _ (SL.into hS Xi)⟩
 have en:(enc18 xo)[1]?=some (.int .i64 o.n):=by rw[← hx.n];rfl
 repeat first|refine Gp ?_|refine Gw λw hS=>?_|refine Gb λb w hS=>?_
 rw[hx.n]
 (apply ze (zY o.n 13 (by decide) (by decide)) hS;exact Xp;clear hS)
 (rintro v post ⟨rfl,rfl⟩ w hS;(try simp only[app]at hS);(repeat (first|refine Gp ?_|refine Gw λw hS=>?_|refine Gb λb w hS=>?_)))
 refine zf (λh12=>?_) (λh12=>?_)
 ·repeat first|refine Gp ?_|refine Gw λw hS=>?_|refine Gb λb w hS=>?_
  refine YN hS Xh rfl enc18_it ?_
  refine hdone (l:=.pt ab (enc18 xo) 51::F) (Heap.le_refl H) hit ⟨⟨λn hn=>(hok.item.nts n hn).2.1,hok.item.nops,hok.item.nnts⟩,λx hx=>(hok.item.ops x hx).2.2,λh0=>by omega⟩ (SL.into hS Xi) (λw h=>SL.into h Xi)
 ·obtain⟨rv,pv,⟨hr,hp⟩,hS⟩:=RSnkO.open (k:=k) hS Xr
  have hpm:∀x,piOf o.item 2 lsn=x→x.lsn=(piOf o.item 2 lsn).lsn∧x.ops=(piOf o.item 2 lsn).ops:=λx h=>by subst h;exact⟨rfl,rfl⟩
  have hpl:(piOf o.item 2 lsn).lsn=((lsn+1+md o.item.lsn 3:Nat):Int):=rfl
  have hm3:=md_lt o.item.lsn 3 (by decide)
  have hno:=hok.item.nops
  have hnn:=hok.item.nnts
  have hS:=SL.into hS (t:=.pt ab (enc18 xo) 51::.pt zb [.int .i64 0,.slice none 0 0,.slice none 0 0] 46::.pt rkp (rkcells xp rlp rp rv k.lsn pv) 41::.mem H::.ob (Ref H rp k.ts)::.ob (RLogO rlp xp k.g)::.ob (RDO H xp k.d)::F) Xi
  refine⟨λus w=>∃(ib:Nat) (ov:Value) (H1:Heap),us=[ptrO ib]∧H.le H1∧RdOps H1 ov (piOf o.item 2 lsn).ops∧SL W (.pt ib [.int .i64 (piOf o.item 2 lsn).lsn,ov,.slice none 0 0] 46::.pt ab (enc18 xo) 51::.pt zb [.int .i64 0,.slice none 0 0,.slice none 0 0] 46::.pt rkp (rkcells xp rlp rp rv k.lsn pv) 41::.mem H1::.ob (Ref H rp k.ts)::.ob (RLogO rlp xp k.g)::.ob (RDO H xp k.d)::F) w,?_,?_⟩
  ·repeat first|refine Gp ?_|refine Gw λw hS=>?_|refine Gb λb w hS=>?_
   refine YN hS Xh rfl enc18_it ?_
   repeat first|refine Gp ?_|refine Gw λw hS=>?_|refine Gb λb w hS=>?_
   rw[hls]
   have hone:∀{ov:Value} {H1:Heap},RdOps H1 ov (piOf o.item 2 lsn).ops→∀v∈([.int .i64 (piOf o.item 2 lsn).lsn,ov,.slice none 0 0]:List Value),v.oneCell'=true:=λhov v hv=>by
    simp only[List.mem_cons,List.not_mem_nil,or_false]at hv
    rcases hv with rfl|rfl|rfl
    ·rfl
    ·exact RdSl.one hov
    ·rfl
   refine⟨?_,?_⟩
   ·(apply ze (ZQ H xo.it o.item hit 2 lsn (by decide) (by decide) (by omega) hno) hS;exact Xp;clear hS)
    rintro v post ⟨ov,H1,h01,rfl,hov,rfl⟩ w hS
    (try simp only[app]at hS)
    refine Gb λib w hS=>?_
    refine zZ (vs:=[.int .i64 (piOf o.item 2 lsn).lsn,ov,.slice none 0 0]) hS Xu rfl rfl (hone hov) λw hS=>?_
    exact⟨ib,ov,H1,rfl,h01,hov,SL.into hS (by rw[hls];exact Xi)⟩
   ·refine Gb λib w hS=>?_
    refine YN hS Xh rfl enc18_it ⟨rfl,?_⟩
    repeat first|refine Gp ?_|refine Gw λw hS=>?_|refine Gb λb w hS=>?_
    rw[hls]
    refine⟨rfl,?_⟩
    (apply ze (ZQ H xo.it o.item hit 2 lsn (by decide) (by decide) (by omega) hno) hS;exact Xp;clear hS)
    rintro v post ⟨ov,H1,h01,rfl,hov,rfl⟩ w hS
    (try simp only[app]at hS)
    refine zZ (vs:=[.int .i64 (piOf o.item 2 lsn).lsn,ov,.slice none 0 0]) hS Xu rfl rfl (hone hov) λw hS=>?_
    exact⟨ib,ov,H1,rfl,h01,hov,SL.into hS (by rw[hls];exact Xi)⟩
  ·clear hS
   rintro v5 w ⟨ib,ov,H1,hus,h01,hov,hS⟩
   cases hus
   repeat first|refine Gp ?_|refine Gw λw hS=>?_|refine Gb λb w hS=>?_
   rw[hx.n]
   (apply ze (zY o.n 13 (by decide) (by decide)) hS;exact Xp;clear hS)
   (rintro v post ⟨rfl,rfl⟩ w hS;(try simp only[app]at hS);(repeat (first|refine Gp ?_|refine Gw λw hS=>?_|refine Gb λb w hS=>?_)))
   refine zf (λh11=>?_) (λh11=>?_)
   ·repeat first|refine Gp ?_|refine Gw λw hS=>?_|refine Gb λb w hS=>?_
    refine zf (λhpos=>?_) (λhpos=>?_)
    ·repeat first|refine Gp ?_|refine Gw λw hS=>?_|refine Gb λb w hS=>?_
     rw[show xo.it.lsn=o.item.lsn from hit.lsn,hls]
     have hmb:=md_lt o.item.lsn lsn (by omega)
     (apply ze (z8 o.item.lsn lsn (by omega) (by omega)) hS;exact Xp;clear hS)
     (rintro v post ⟨rfl,rfl⟩ w hS;(try simp only[app]at hS);(repeat (first|refine Gp ?_|refine Gw λw hS=>?_|refine Gb λb w hS=>?_)))
     have hS:=Ref.monoP h01 hS Xr
     have hS:=RDO.monoP h01 hS Xr
     have hS:=RSnkO.put k hS (hr.mono h01) (hp.mono h01) Xp
     exact⟨_,⟨⟨1+md o.item.lsn lsn,.slice none 0 0,.slice none 0 0⟩,⟨1+md o.item.lsn lsn,[],[]⟩,H1,h01,rfl,⟨rfl,RdSl.nil _ _,RdSl.nil _ _⟩,⟨⟨by simp,by simp,by simp⟩,by simp,λh0=>by omega⟩,rfl⟩,SL.into hS Xi⟩
    ·repeat first|refine Gp ?_|refine Gw λw hS=>?_|refine Gb λb w hS=>?_
     (apply ze (Za H1 rv xo.it.nv k.reqs o.item.notes (piOf o.item 2 lsn).lsn (hr.mono h01) hM (hit.nts.mono h01) (by rw[hpl];omega) hnn) hS;exact Xp;clear hS)
     rintro v post ⟨out,L',H2,h12,hnv,hol,hO,rfl⟩ w hS
     (try simp only[app]at hS)
     have h02:=Heap.le_trans h01 h12
     have h1:=RdSl.one hnv
     repeat first|refine Gp ?_|refine Gw λw hS=>?_|refine Gb λb w hS=>?_
     have hS:=Ref.monoP h02 hS Xr
     have hS:=RDO.monoP h02 hS Xr
     have hS:=RSnkO.put k hS (hr.mono h02) (hp.mono h02) Xp
     refine hdone (xv:=⟨(piOf o.item 2 lsn).lsn,ov,v⟩) (z:={piOf o.item 2 lsn with notes:=out}) (l:=F) h02 ⟨rfl,hov.mono h12,hnv⟩ ?_ (SL.into hS Xi) (λw h=>SL.into h Xi)
     refine⟨(piOf_iok o.item 2 lsn (by decide) (by decide) hol λn hn=>⟨_,hO.may n hn⟩).1,(piOf_iok o.item 2 lsn (by decide) (by decide) hol λn hn=>⟨_,hO.may n hn⟩).2,λh0 h2 h3=>⟨?_,?_,L',?_⟩⟩
     ·show k.lsn<((lsn+1+md o.item.lsn 3:Nat):Int);omega
     ·show ((lsn+1+md o.item.lsn 3:Nat):Int)≤k.lsn+3;omega
     ·unfold fitsR
      rw[if_pos ⟨piOf_may o.item 2 lsn (by decide) (by decide) (by omega) (by omega) hO.may,piOf_tabs o.item 2 lsn (by decide) (by decide) out⟩]
      exact hO.run
   ·repeat first|refine Gp ?_|refine Gw λw hS=>?_|refine Gb λb w hS=>?_
    (apply ze (Za H1 rv xo.it.nv k.reqs o.item.notes (piOf o.item 2 lsn).lsn (hr.mono h01) hM (hit.nts.mono h01) (by rw[hpl];omega) hnn) hS;exact Xp;clear hS)
    rintro v post ⟨out,L',H2,h12,hnv,hol,hO,rfl⟩ w hS
    (try simp only[app]at hS)
    have h02:=Heap.le_trans h01 h12
    have h1:=RdSl.one hnv
    repeat first|refine Gp ?_|refine Gw λw hS=>?_|refine Gb λb w hS=>?_
    have hS:=Ref.monoP h02 hS Xr
    have hS:=RDO.monoP h02 hS Xr
    have hS:=RSnkO.put k hS (hr.mono h02) (hp.mono h02) Xp
    refine hdone (xv:=⟨(piOf o.item 2 lsn).lsn,ov,v⟩) (z:={piOf o.item 2 lsn with notes:=out}) (l:=F) h02 ⟨rfl,hov.mono h12,hnv⟩ ?_ (SL.into hS Xi) (λw h=>SL.into h Xi)
    refine⟨(piOf_iok o.item 2 lsn (by decide) (by decide) hol λn hn=>⟨_,hO.may n hn⟩).1,(piOf_iok o.item 2 lsn (by decide) (by decide) hol λn hn=>⟨_,hO.may n hn⟩).2,λh0 h2 h3=>⟨?_,?_,L',?_⟩⟩
    ·show k.lsn<((lsn+1+md o.item.lsn 3:Nat):Int);omega
    ·show ((lsn+1+md o.item.lsn 3:Nat):Int)≤k.lsn+3;omega
    ·unfold fitsR
     rw[if_pos ⟨piOf_may o.item 2 lsn (by decide) (by decide) (by omega) (by omega) hO.may,piOf_tabs o.item 2 lsn (by decide) (by decide) out⟩]
     exact hO.run
end Go.Proofs.YtnmhmnnadkclbaaGreat
namespace Go.Proofs.YtnmhmnnadkclbaaGreat
set_option linter.unusedVariables false
set_option maxRecDepth 100000
open Go.RowKit
theorem PInv.mono{n:Nat}{k:PSink}{j j':Nat}{xs:List PItem}{m:Option PItem}(h:PInv n k j xs m)(hj:j≤j'):PInv n k j' xs m:=by
 have h1:=h.len
 have h2:=h.ops
 have h3:=h.pl
 exact⟨h.s,by omega,h.g.mono (by omega),h.d.mono (by omega),by omega,by omega,h.plm,h.keep⟩
theorem enc18_one{H:Heap}{x:O18V}{o:O18}(h:Is18 H x o):∀v∈enc18 x,v.oneCell'=true:=λv hv=>by
 unfold enc18 at hv
 simp only[List.mem_append,List.mem_cons,List.not_mem_nil,or_false]at hv
 rcases hv with (((rfl|rfl)|hv)|hv)|rfl
 ·rfl
 ·rfl
 ·exact encIt_one h.it v hv
 ·exact encFt_one _ v hv
 ·exact RdSl.one h.kv
theorem enc18_ft{y:O18V}:∀j v,(encFt y.ft)[j]?=some v→(enc18 y)[5+j]?=some v
 | 0,v,h=>h
 | 1,v,h=>h
 | j+2,v,h=>by simp[encFt]at h
theorem ftOf_keep(f:PFt):(ftOf f).keep≤9223372036854775807:=by
 have:=md_lt f.keep 300 (by decide)
 unfold ftOf
 split
 ·show (md f.keep 300:Int)≤_;omega
 ·show (0:Int)≤_;decide
theorem pushed{p:List PFt}{f:PFt}(hf:mayFt f=true)(hp:p.length<1024):pushFt p [f]=p++[f]:=by rw[pushFt_one,if_pos ⟨hf,hp⟩]
section
variable {W w:World} {l F:List Chunk}
theorem RDO.new{H:Heap}{xp:Nat}(hS:SL W (.pt xp [.slice none 0 0,.int .i64 0,.bool false,.int .i64 0] 29::l) w):SL W (.ob (RDO H xp s00)::l) w:=by
 have hS:SL W (.ob (OwnSl (.slice none 0 0) 61 3 0 [])::.pt xp [.slice none 0 0,.int .i64 0,.bool false,.int .i64 0] 29::l) w:=OwnSl.nil hS
 exact (RDO.iff (H:=H) (s:=s00)).2 ⟨Value.slice none 0 0,[],⟨rfl,λy hy=>by cases hy⟩,SL.into hS (t:=.pt xp [.slice none 0 0,.int .i64 0,.bool false,.int .i64 0] 29::.ob (OwnSl (.slice none 0 0) 61 3 0 [])::l) Xi⟩
end
end Go.Proofs.YtnmhmnnadkclbaaGreat
namespace Go.Proofs.YtnmhmnnadkclbaaGreat
set_option linter.unusedVariables false
open Go.RowKit
structure Up(k:PSink):Prop where
 off:k.d.off=false
 arm:k.d.arm=0
theorem PInv.of_s{n:Nat}{k:PSink}{j:Nat}{xs xs':List PItem}{m m':Option PItem}(h:PInv n k j xs m)(hs:SInv n k xs' m')(hl:xs'.length≤j):PInv n k j xs' m':=⟨hs,hl,h.g,h.d,h.ops,h.pl,h.plm,h.keep⟩
theorem PInv.fault{n:Nat}{k:PSink}{j:Nat}{xs:List PItem}{m:Option PItem}(h:PInv n k j xs m)(hj:j≤100)(hu:Up k){f:PFt}(hp:k.plan=[f]){x:PItem}{L:List Rq}(hl:k.lsn<x.lsn)(hf:fitsR n k.reqs x=some L):
  (k.commitK x).2=9∧Up (k.commitK x).1∧(k.commitK x).1.plan=[] ∧
   ((f.kind=3∧(k.commitK x).1.lsn=x.lsn∧PInv n (k.commitK x).1 (j+1) (xs++[x]) none)∨(f.kind≠3∧(k.commitK x).1.tr=k.tr∧∃m',PInv n (k.commitK x).1 (j+1) xs m')):=by
 have hlen:=h.len
 have hm:=(fitsR_may hf).1
 have hfm:mayFt f=true:=h.plm f (by rw[hp];exact .head _)
 obtain⟨ys,m2,hI⟩:=h.commit hj x
 have h1:¬(mayItem x=false∨(k.lsn<x.lsn∧fitsR k.ts.length k.reqs x=none)):=by
  rintro (h1|⟨_,h1⟩)
  ·rw[hm]at h1;cases h1
  ·rw[h.s.len,hf]at h1;cases h1
 have hk':SInv n {k with plan:=[]} xs m:=h.s.plan []
 have e0:k.commitK x=if f.kind=3 then ((PSink.writeK {k with plan:=[]} x L).1,if (PSink.writeK {k with plan:=[]} x L).2=0 then 9 else (PSink.writeK {k with plan:=[]} x L).2) else if f.kind=2 then ((PSink.tearK {k with plan:=[]} x f.keep).1,if (PSink.tearK {k with plan:=[]} x f.keep).2=0 then 9 else (PSink.tearK {k with plan:=[]} x f.keep).2) else ({k with plan:=[]},9):=by
  unfold PSink.commitK
  rw[if_neg h1,if_neg (by rw[hu.off];decide),hp]
  simp only
  rw[h.s.len,hf]
  simp only[Option.getD_some,hl,and_true,if_true]
 by_cases h3:f.kind=3
 ·rw[if_pos h3]at e0
  rcases writeK_inv hk' h.d.arm0 hu.off (by omega) (L:=L) hf hl with ⟨w1,w2,w3,w4,w5,w6,w7⟩|⟨_,_,_,_,_,w6,_⟩
  ·rw[w1,if_pos rfl]at e0
   rw[e0]at hI ⊢
   exact⟨rfl,⟨w5,w6 hu.arm⟩,w4,.inl ⟨h3,congrArg (·.2.2) w3,hI.of_s w2 (by rw[List.length_append,List.length_singleton];omega)⟩⟩
  ·exact absurd hu.arm w6
 ·rw[if_neg h3]at e0
  by_cases h2:f.kind=2
  ·rw[if_pos h2]at e0
   have hk0:0≤f.keep:=by
    unfold mayFt at hfm
    rw[decide_eq_true_eq]at hfm
    omega
   obtain⟨j1,j2,j3,_,j5⟩:=tearK_inv hk' h.d.arm0 hu.off (by omega) hm hk0
   rcases j5 with ⟨q1,q2,q3⟩|⟨_,_,q3⟩
   ·rw[q1,if_pos rfl]at e0
    rw[e0]at hI ⊢
    exact⟨rfl,⟨q2,q3 hu.arm⟩,j3,.inr ⟨h3,j2,none,hI.of_s j1 (by omega)⟩⟩
   ·exact absurd hu.arm q3
  ·rw[if_neg h2]at e0
   rw[e0]at hI ⊢
   exact⟨rfl,⟨hu.off,hu.arm⟩,rfl,.inr ⟨h3,rfl,m,hI.of_s hk' (by omega)⟩⟩
theorem runT_eq{n:Nat}{k k':PSink}{xs:List PItem}{m m':Option PItem}(h:SInv n k xs m)(h':SInv n k' xs m'):k.tr=k'.tr:=Option.some.inj (h.run.symm.trans h'.run)
def k0n(n:Nat)(size:Int):PSink:=⟨⟨[],8192,size,none⟩,s00,(t00 n).1,[],0,[]⟩
theorem k0n_inv{n:Nat}(n1:1≤n)(n8:n≤8){size:Int}(s0:64≤size)(s1:size≤65536):openG s00 8192 size=(s00,.ok ⟨[],8192,size,none⟩)∧PInv n (k0n n size) 0 [] none:=by
 have hog:openG s00 8192 size=(s00,.ok ⟨[],8192,size,none⟩):=by
  unfold openG
  rw[if_neg (by omega)]
  rfl
 obtain⟨k,h1,h2,_⟩:=PInv.first n1 n8 s0 s1
 have e:openK s00 ((n:Nat):Int) size=(s00,.ok (k0n n size)):=by
  unfold openK
  rw[if_neg (by omega),Int.toNat_natCast]
  simp only[hog]
  rfl
 rw[e]at h1
 simp only[Prod.mk.injEq,Except.ok.injEq]at h1
 rw[h1.2]
 exact⟨hog,h2⟩
structure Two(k x:PSink)(i j:Nat)(ys:List PItem):Prop where
 ki:PInv 2 k j ys none
 xi:PInv 2 x i ys none
 ku:Up k
 xu:Up x
 kp:k.plan=[]
 xp:x.plan=[]
 l:x.lsn≤3*i
theorem Two.tr{k x:PSink}{i j:Nat}{ys:List PItem}(h:Two k x i j ys):k.ts=x.ts∧k.reqs=x.reqs∧k.lsn=x.lsn:=by
 have:=runT_eq h.ki.s h.xi.s
 exact⟨congrArg (·.1) this,congrArg (·.2.1) this,congrArg (·.2.2) this⟩
theorem Two.item{k x:PSink}{i j:Nat}{ys:List PItem}(h:Two k x i j ys)(hi:i≤100){o:O18}{z:PItem}(hq:IQ x o z)(ho:o.n=0):x.lsn<z.lsn∧z.lsn≤x.lsn+3∧∃L,fitsR 2 x.reqs z=some L:=by
 have hl:=h.l
 exact hq.may (by rw[ho];rfl) h.xi.s.len (by omega)
end Go.Proofs.YtnmhmnnadkclbaaGreat
namespace Go.Proofs.YtnmhmnnadkclbaaGreat
set_option linter.unusedVariables false
set_option maxRecDepth 100000
open Go.RowKit
theorem Is18.n0{H:Heap}{x:O18V}{o:O18}(h:Is18 H x o):Is18 H {x with n:=0} {o with n:=0}:=⟨h.kind,rfl,h.it,h.ft,h.kv⟩
theorem ok18.n0{o:O18}(h:ok18 o):ok18 {o with n:=0}:=⟨h.kind,by show inI64 0;unfold inI64;decide,h.item,h.ft,h.keep⟩
end Go.Proofs.YtnmhmnnadkclbaaGreat
namespace Go.Proofs.YtnmhmnnadkclbaaGreat
set_option linter.unusedVariables false
set_option maxRecDepth 100000
open Go.RowKit
structure Its(H:Heap)(vs:List ItV)(zs:List PItem):Prop where
 len:vs.length=zs.length
 at_:∀j (h:j<vs.length) (h':j<zs.length),ItIs H vs[j] zs[j]
end Go.Proofs.YtnmhmnnadkclbaaGreat
namespace Go.Proofs.YtnmhmnnadkclbaaGreat
set_option linter.unusedVariables false
set_option maxRecDepth 100000
open Go.RowKit
theorem commitK_no{n:Nat}{k:PSink}(hn:k.ts.length=n){t:PItem}(h:mayItem t=false∨(k.lsn<t.lsn∧fitsR n k.reqs t=none)):k.commitK t=(k,1):=by
 subst hn
 unfold PSink.commitK
 rw[if_pos h]
theorem commitK_oldF{k:PSink}{f:PFt}(ho:k.d.off=false)(hp:k.plan=[f]){x:PItem}(hm:mayItem x=true)(hl:¬k.lsn<x.lsn):k.commitK x=({k with plan:=[]},9):=by
 unfold PSink.commitK
 rw[if_neg,if_neg (by rw[ho];decide),hp]
 ·simp only
  by_cases h3:f.kind=3
  ·rw[if_pos h3,if_neg hl]
  ·rw[if_neg h3,if_neg (λh=>hl h.2)]
 ·rintro (h1|⟨h1,_⟩)
  ·rw[hm]at h1;cases h1
  ·exact hl h1
def badO:AOp:=⟨1,2,1,false,⟨#[]⟩⟩
def badC(n:Int):PNote:=⟨2,n+1,0,0,0,0,false⟩
def badA(n:Int):PNote:=⟨1,n+2,0,1,1,0,false⟩
def bads(lsn n:Int):List PItem:=[⟨0,[],[]⟩,⟨lsn+1,[badO],[]⟩,⟨lsn+1,[],[badC n]⟩,⟨lsn+1,[],[badA n]⟩]
theorem bads_no{L:List Rq}{lsn:Int}{t:PItem}(h:t∈bads lsn L.length):mayItem t=false∨(lsn<t.lsn∧fitsR 2 L t=none):=by
 unfold bads at h
 simp only[List.mem_cons,List.not_mem_nil,or_false]at h
 rcases h with rfl|rfl|rfl|rfl
 ·left;decide
 ·right
  exact⟨by show lsn<lsn+1;omega,fitsR_tab (i:=0) (by show 0<1;decide) (by show ((2:Nat):Int)≤2;decide)⟩
 ·right
  refine⟨by show lsn<lsn+1;omega,?_⟩
  unfold fitsR
  split
  ·show (match noteR L (badC L.length) with|some L'=>notesR L' []|none=>none)=none
   have:noteR L (badC L.length)=none:=by
    unfold noteR badC
    rw[if_pos rfl]
    unfold chunkR
    rw[if_neg (λh=>by have:=h.2.2;simp only at this;omega)]
   rw[this]
  ·rfl
 ·right
  refine⟨by show lsn<lsn+1;omega,?_⟩
  unfold fitsR
  split
  ·show (match noteR L (badA L.length) with|some L'=>notesR L' []|none=>none)=none
   have:noteR L (badA L.length)=none:=by
    unfold noteR badA
    rw[if_neg (by show ¬(1:Int)=2;decide)]
    simp only
    cases hc:acceptR L 0 1 1 with
    | none=>rfl
    | some L'=>
     simp only
     have hl:=acceptR_len hc
     rw[if_neg (by omega)]
   rw[this]
  ·rfl
theorem bads_ok{lsn n:Int}(h0:0≤n)(h1:n≤64){t:PItem}(h:t∈bads lsn n):IOk t∧∀o∈t.ops,inI64 o.key:=by
 unfold bads at h
 simp only[List.mem_cons,List.not_mem_nil,or_false]at h
 rcases h with rfl|rfl|rfl|rfl
 ·exact⟨⟨by simp,by simp,by simp⟩,by simp⟩
 ·exact⟨⟨by simp,by simp,by simp⟩,λo ho=>by rw[List.mem_singleton.1 ho];unfold badO inI64;decide⟩
 ·exact⟨⟨λn hn=>by rw[List.mem_singleton.1 hn];unfold badC inI64;simp only;omega,by simp,by simp⟩,by simp⟩
 ·exact⟨⟨λn hn=>by rw[List.mem_singleton.1 hn];unfold badA inI64;simp only;omega,by simp,by simp⟩,by simp⟩
theorem Zs(H:Heap)(v:Value)(zv:ItV)(z:PItem)(f0:PFt)(l:List O18)(hv:Rd18 H v l)(hz:ItIs H zv z)(hokz:okItemA z)(hok:∀o∈l,ok18 o):
  Spec Tryz.prog 6 [v,agg (encIt zv),agg (encFt f0)] [.mem H] (λv post=>v= .bool true∧∃H' l,H.le H'∧post= .mem H'::l):=by
 intro W F w hS;apply vc6;unfold Vc6;(try simp only[app]at hS)
 obtain⟨xs,hxl,hxr,hxi⟩:=hv
 refine zQ hS λyb w hS=>?_
 refine zQ hS λfb w hS=>?_
 (apply ze (Yk) hS;exact Xp;clear hS)
 rintro _ post ⟨dp,rfl,rfl⟩ w hS
 (try simp only[app]at hS)
 obtain⟨k0,ho,hI0,hp0,hd0,hl0,he0⟩:=PInv.first (n:=2) (by decide) (by decide) (size:=300) (by decide) (by decide)
 have ho:openK s00 2 300=(k0.d,.ok k0):=ho
 (apply ze (ZZ H dp s00 2 300 (s00_ok 0) (by decide) (by decide) he0) hS;exact Xp;clear hS)
 rw[ho]
 rintro r post ⟨kp,gp,lp,pp,H1,h01,rfl,rfl⟩ w hS
 (try simp only[app]at hS)
 repeat first|refine Gp ?_|refine Gw λw hS=>?_|refine Gb λb w hS=>?_
 refine⟨_,rfl,zS hS ?_⟩
 clear hS;intro xp w hS
 have hS:=RDO.new (H:=H1) hS
 (apply ze (rnew_ok H1 2 (by decide) (by decide)) hS;exact Xp;clear hS)
 rintro _ post ⟨rp,rfl,rfl⟩ w hS
 (try simp only[app]at hS)
 refine ZN rfl ?_
 refine⟨_,rfl,zS hS ?_⟩
 clear hS;intro rkp w hS
 have hS:SL W (.pt rkp [ptrO xp,.pointer none,ptrO rp,.slice none 0 0,.int .i64 0,.slice none 0 0] 41::_) w:=hS
 repeat first|refine Gp ?_|refine Gw λw hS=>?_|refine Gb λb w hS=>?_
 obtain⟨hog,hX0⟩:=k0n_inv (n:=2) (by decide) (by decide) (size:=2000) (by decide) (by decide)
 (apply ze (ZU H1 xp s00 8192 2000 (s00_ok 0) (by decide) (by decide) (by decide)) hS;exact Xp;clear hS)
 rw[hog]
 rintro r post ⟨rlp,H2,h12,rfl,rfl⟩ w hS
 (try simp only[app]at hS)
 repeat first|refine Gp ?_|refine Gw λw hS=>?_|refine Gb λb w hS=>?_
 have hS:=SnkO.monoP h12 hS Xr
 have hS:=Ref.monoP h12 hS Xr
 have hS:SL W (.ob (RSnkO rkp xp rlp rp H2 (k0n 2 2000))::_) w:=RSnkO.putN (H:=H2) (ts:=List.replicate 2 []) (lsn:=0) (reqs:=[]) (plan:=[]) hS (RdSl.nil _ _) (RdSl.nil _ _) Xp
 have hT0:Two k0 (k0n 2 2000) 0 0 []:=⟨hI0,hX0,⟨by rw[hd0];rfl,by rw[hd0];rfl⟩,⟨rfl,rfl⟩,hp0,rfl,by decide⟩
 have h02:=Heap.le_trans h01 h12
 (apply ze (Zk) hS;exact Xp;clear hS)
 (rintro v post ⟨rfl,rfl⟩ w hS;(try simp only[app]at hS);(repeat (first|refine Gp ?_|refine Gw λw hS=>?_|refine Gb λb w hS=>?_)))
 refine zA ?_
 repeat first|refine Gp ?_|refine Gw λw hS=>?_|refine Gb λb w hS=>?_
 refine zA ?_
 repeat first|refine Gp ?_|refine Gw λw hS=>?_|refine Gb λb w hS=>?_
 refine zf (λh=>absurd rfl h) (λ_=>?_)
 refine zG hS Xh rfl ?_
 (apply ze (Y4 zv z H2 (hz.mono h02)) hS;exact Xp;clear hS)
 (rintro v post ⟨rfl,rfl⟩ w hS;(try simp only[app]at hS);(repeat (first|refine Gp ?_|refine Gw λw hS=>?_|refine Gb λb w hS=>?_)))
 refine zf (λhg=>?_) (λhg=>?_)
 ·(apply ze (Zk) hS;exact Xp;clear hS)
  (rintro v post ⟨rfl,rfl⟩ w hS;(try simp only[app]at hS);(repeat (first|refine Gp ?_|refine Gw λw hS=>?_|refine Gb λb w hS=>?_)))
  exact⟨_,⟨rfl,H2,[],h02,rfl⟩,SL.into hS Xi⟩
 refine⟨λus w=>∃(i:Nat) (H2:Heap) (k x:PSink) (ys:List PItem),us=[]∧i≤10∧H.le H2∧Two k x i i ys∧SL W (.ob (SnkO kp gp dp lp pp H2 k)::.ob (RSnkO rkp xp rlp rp H2 x)::.mem H2::.pt yb (encIt zv) 46::.pt fb (encFt f0) 48::F) w,?_,?_⟩
 ·refine⟨λus w=>∃(i:Nat) (H2:Heap) (k x:PSink) (ys:List PItem),us=[.int .i64 i]∧i≤10∧i≤l.length∧H.le H2∧Two k x i i ys∧SL W (.ob (SnkO kp gp dp lp pp H2 k)::.ob (RSnkO rkp xp rlp rp H2 x)::.mem H2::.pt yb (encIt zv) 46::.pt fb (encFt f0) 48::F) w,
   λus _=>match us with|[.int _ i]=>(l.length-i).toNat|_=>0,⟨0,H2,k0,k0n 2 2000,[],rfl,by omega,by omega,h02,hT0,SL.into hS Xi⟩,?_⟩
  clear hS hp0 hl0 h01 h12 h02 hI0 ho hd0 he0 hT0 hX0 hog
  rintro v6 w ⟨i,H2,k,x,ys,hus,hi,hil,h02,hT,hS⟩
  cases hus
  refine zt hxr ?_
  repeat first|refine Gp ?_|refine Gw λw hS=>?_|refine Gb λb w hS=>?_
  refine zf (λha=>?_) (λha=>⟨i,H2,k,x,ys,rfl,hi,h02,hT,SL.into hS Xi⟩)
  repeat first|refine Gp ?_|refine Gw λw hS=>?_|refine Gb λb w hS=>?_
  refine zf (λhb=>?_) (λhb=>⟨i,H2,k,x,ys,rfl,hi,h02,hT,SL.into hS Xi⟩)
  have hl:i<l.length:=by omega
  have hi10:i<10:=by omega
  have hix:i<xs.length:=by omega
  have hx:xs[i]?=some xs[i]:=List.getElem?_eq_getElem hix
  have hxo:=(hxi i hl hix).mono h02
  have hoko:=(hok _ (List.getElem_mem hl)).n0
  generalize xs[i]=u at *
  generalize l[i]=o at *
  refine zM hS Xh enc18_len (hxr.mono h02) hx hl ?_
  refine Gb λab w hS=>?_
  refine zZ hS Xu rfl rfl (enc18_one hxo) λw hS=>?_
  refine zW (Qe hS λw hS=>?_)
  have hS:SL W (.pt ab (enc18 {u with n:=0}) _::_) w:=hS
  refine zG hS Xh rfl ?_
  have htx:=hT.xi.tx (by omega)
  (apply ze (Yy rkp xp rlp rp H2 x _ {o with n:=0} hxo.n0 hoko ⟨htx.l0,htx.l1⟩ htx.rq) hS;exact Xp;clear hS)
  rintro v post ⟨xv,y,H3,h23,rfl,hy,hq,rfl⟩ w hS
  obtain⟨hlt,hle,L,hfit⟩:=hT.item (by omega) hq rfl
  (try simp only[app]at hS)
  have hS:=SnkO.monoP h23 hS Xr
  refine Gb λqb w hS=>?_
  refine zZ hS Xu rfl rfl (encIt_one hy) λw hS=>?_
  refine zG hS Xh rfl ?_
  have hxk:=hT.xi.kok (by omega) (by decide)
  have hkk:=hT.ki.kok (by omega) (by decide)
  (apply ze (Z1 rkp xp rlp rp H3 x xv y hy hxk hT.xi.keep) hS;exact Xp;clear hS)
  rintro v post ⟨rfl,H4,h34,rfl⟩ w hS
  (try simp only[app]at hS)
  refine zG hS Xh rfl ?_
  have hS:=SnkO.monoP h34 hS Xr
  (apply ze (z6 kp gp dp lp pp H4 k xv y (hy.mono h34) hq.ok hq.keys hkk) hS;exact Xp;clear hS)
  rintro v post ⟨rfl,H5,h45,rfl⟩ w hS
  (try simp only[app]at hS)
  obtain⟨e1,e2,e3⟩:=hT.tr
  obtain⟨a1,a2,a3,a4,a5,a6⟩:=hT.ki.good (by omega) hT.ku.off hT.ku.arm hT.kp (x:=y) (L:=L) (by rw[e3];exact hlt) (by rw[e2];exact hfit)
  obtain⟨g1,g2,g3,g4,g5,g6⟩:=hT.xi.good (by omega) hT.xu.off hT.xu.arm hT.xp hlt hfit
  have hxn':(x.commitK y).1.lsn=y.lsn:=congrArg (·.2.2) g3
  have hl3:=hT.l
  rw[a1]
  repeat first|refine Gp ?_|refine Gw λw hS=>?_|refine Gb λb w hS=>?_
  refine zf (λh=>absurd rfl h) (λ_=>?_)
  repeat first|refine Gp ?_|refine Gw λw hS=>?_|refine Gb λb w hS=>?_
  have hS:=RSnkO.monoP h45 hS Xr
  exact⟨⟨i+1,H5,_,_,ys++[y],rfl,by omega,by omega,Heap.le_trans h02 (Heap.le_trans h23 (Heap.le_trans h34 h45)),⟨a2,g2,⟨a4,a5⟩,⟨g4,g5⟩,a6,g6,by omega⟩,SL.into hS Xi⟩,by dsimp only;omega⟩
 clear hS hp0 hl0 h01 h12 h02 hI0 ho hd0 he0 hT0 hX0 hog
 rintro w ⟨i,H2,k,x,ys,-,hi,h02,hT,hS⟩
 repeat first|refine Gp ?_|refine Gw λw hS=>?_|refine Gb λb w hS=>?_
 (apply ze (yp kp gp dp lp pp H2 k) hS;exact Xp;clear hS)
 (rintro v post ⟨rfl,rfl⟩ w hS;(try simp only[app]at hS);(repeat (first|refine Gp ?_|refine Gw λw hS=>?_|refine Gb λb w hS=>?_)))
 refine zA ?_
 repeat first|refine Gp ?_|refine Gw λw hS=>?_|refine Gb λb w hS=>?_
 (apply ze (yp kp gp dp lp pp H2 k) hS;exact Xp;clear hS)
 (rintro v post ⟨rfl,rfl⟩ w hS;(try simp only[app]at hS);(repeat (first|refine Gp ?_|refine Gw λw hS=>?_|refine Gb λb w hS=>?_)))
 (apply ze (YM f0) hS;exact Xp;clear hS)
 rintro v post ⟨rfl,rfl⟩ w hS
 (try simp only[app]at hS)
 have hfm:=ftOf_may f0
 have hfk:=ftOf_keep f0
 generalize ftOf f0=f at *
 refine Gb λqb w hS=>?_
 have hS:=OwnSl.full (n:=1) (sz:=2) (cells:=(([f]:List PFt).map encFt).flatten) (t:=48) rfl hS
 obtain⟨H3,h23,hR2,hS⟩:=zK (H:=H2) hS Xp
 obtain⟨rv2,hrq,hS⟩:=SnkO.open (k:=k) hS Xr
 (apply ze (qm H3 pp k.plan [f] _ hR2 (by simp) (by rw[hT.kp];decide)) hS;exact Xp;clear hS)
 (rintro v post ⟨rfl,rfl⟩ w hS;(try simp only[app]at hS);(repeat (first|refine Gp ?_|refine Gw λw hS=>?_|refine Gb λb w hS=>?_)))
 have hpu:=pushed (p:=k.plan) hfm (by rw[hT.kp];decide)
 have hone:(((pushFt k.plan [f]).length-k.plan.length:Nat):Int)=1:=by rw[hpu,List.length_append,List.length_singleton];omega
 rw[hone]
 repeat first|refine Gp ?_|refine Gw λw hS=>?_|refine Gb λb w hS=>?_
 refine zf (λh=>absurd rfl h) (λ_=>?_)
 rw[hpu]at hS
 have hS:SL W (.ob (SnkO kp gp dp lp pp H3 {k with plan:=k.plan++[f]})::_) w:=SnkO.putN (H:=H3) (reqs:=k.reqs) hS (hrq.mono h23) Xp
 have hS:=RSnkO.monoP h23 hS Xr
 have hP:PInv 2 {k with plan:=k.plan++[f]} (i+1) ys none:=hT.ki.push hfm hfk
 have hpl1:({k with plan:=k.plan++[f]}:PSink).plan=[f]:=by show k.plan++[f]=[f];rw[hT.kp];rfl
 have hkf:({k with plan:=k.plan++[f]}:PSink).ts=x.ts∧({k with plan:=k.plan++[f]}:PSink).reqs=x.reqs∧({k with plan:=k.plan++[f]}:PSink).lsn=x.lsn:=hT.tr
 have hku:Up {k with plan:=k.plan++[f]}:=⟨hT.ku.off,hT.ku.arm⟩
 have hxi:=hT.xi
 have hrq64:x.reqs.length≤64:=(hT.xi.tx (by omega)).rq.1
 have hxl0:0≤x.lsn:=(hT.xi.tx (by omega)).l0
 have hxl1:x.lsn≤1099511627776:=(hT.xi.tx (by omega)).l1
 clear hT hpu hone
 generalize ({k with plan:=k.plan++[f]}:PSink)=kf at *
 have hfk2:=hP.kok (by omega) (by decide)
 have hno:∀{t:PItem},t∈bads x.lsn x.reqs.length→kf.commitK t=(kf,1):=λht=>by
  have:=bads_no ht
  rw[← hkf.2.2,← hkf.2.1]at this
  exact commitK_no hP.s.len this
 obtain⟨I2,hI2⟩:∃I2:List Value→World→Prop,I2=λus w=>∃(Hz:Heap) (bl:Value) (bv:List ItV),us=[bl]∧H3.le Hz∧RdSl Hz 3 bl bv.length (bv.map encIt).flatten∧Its Hz bv (bads x.lsn x.reqs.length)∧SL W (.ob (SnkO kp gp dp lp pp Hz kf)::.ob (RSnkO rkp xp rlp rp Hz x)::.mem Hz::.pt yb (encIt zv) 46::F) w:=⟨_,rfl⟩
 obtain⟨rv,pv,⟨hr,hp⟩,hS⟩:=RSnkO.open (k:=x) hS Xr
 refine⟨I2,?_,?_⟩
 ·have hfin:∀{w:World} {ob c1 c2:Nat},SL W (.pt ob (encOp badO) 96::.pt c1 (encNote (badC x.reqs.length)) 98::.pt c2 (encNote (badA x.reqs.length)) 98::.pt rkp (rkcells xp rlp rp rv x.lsn pv) 41::.ob (Ref H3 rp x.ts)::.ob (RLogO rlp xp x.g)::.ob (RDO H3 xp x.d)::.ob (SnkO kp gp dp lp pp H3 kf)::.mem H3::.pt yb (encIt zv) 46::F) w →
    zq (zrow [.int .i64 0,.slice none 0 0,.slice none 0 0] 4) [(0,3,agg [.int .i64 0,.slice none 0 0,.slice none 0 0]),(3,3,agg [.int .i64 (x.lsn+1),.slice (some ⟨ob,0,none⟩) 1 1,.slice none 0 0]),(6,3,agg [.int .i64 (x.lsn+1),.slice none 0 0,.slice (some ⟨c1,0,none⟩) 1 1]),(9,3,agg [.int .i64 (x.lsn+1),.slice none 0 0,.slice (some ⟨c2,0,none⟩) 1 1])] 46 4 w λv w=>I2 [v] w:=λ{w ob c1 c2} hS=>by
   refine zD (cells:=[.int .i64 0,.slice none 0 0,.slice none 0 0,.int .i64 (x.lsn+1),.slice (some ⟨ob,0,none⟩) 1 1,.slice none 0 0,.int .i64 (x.lsn+1),.slice none 0 0,.slice (some ⟨c1,0,none⟩) 1 1,.int .i64 (x.lsn+1),.slice none 0 0,.slice (some ⟨c2,0,none⟩) 1 1]) hS (by simp[fillL,Value.cells,zrow]) λqb w hS=>?_
   obtain⟨Ha,h3a,hA,hS⟩:=SL.rdNew (H:=H3) (b:=ob) (n:=1) (sz:=5) hS Xp rfl
   obtain⟨Hb,hab,hB,hS⟩:=SL.rdNew (H:=Ha) (b:=c1) (n:=1) (sz:=7) hS Xp rfl
   obtain⟨Hc,hbc,hC,hS⟩:=SL.rdNew (H:=Hb) (b:=c2) (n:=1) (sz:=7) hS Xp rfl
   obtain⟨Hd,hcd,hD,hS⟩:=SL.rdNew (H:=Hc) (b:=qb) (n:=4) (sz:=3) hS Xp rfl
   have hbd:=Heap.le_trans hbc hcd
   have had:=Heap.le_trans hab hbd
   have h3d:=Heap.le_trans h3a had
   have hS:=SnkO.monoP h3d hS Xr
   have hS:=Ref.monoP h3d hS Xr
   have hS:=RDO.monoP h3d hS Xr
   have hS:=RSnkO.put x hS (hr.mono h3d) (hp.mono h3d) Xp
   rw[hI2]
   refine⟨Hd,_,[⟨0,.slice none 0 0,.slice none 0 0⟩,⟨x.lsn+1,.slice (some ⟨ob,0,none⟩) 1 1,.slice none 0 0⟩,⟨x.lsn+1,.slice none 0 0,.slice (some ⟨c1,0,none⟩) 1 1⟩,⟨x.lsn+1,.slice none 0 0,.slice (some ⟨c2,0,none⟩) 1 1⟩],rfl,h3d,hD,⟨rfl,λj a b=>?_⟩,SL.into hS Xi⟩
   have a:j<4:=a
   match j,a with
   | 0,_=>exact⟨rfl,RdSl.nil _ _,RdSl.nil _ _⟩
   | 1,_=>exact⟨rfl,hA.mono had,RdSl.nil _ _⟩
   | 2,_=>exact⟨rfl,RdSl.nil _ _,hB.mono hbd⟩
   | 3,_=>exact⟨rfl,RdSl.nil _ _,hC.mono hcd⟩
  repeat first|refine Gp ?_|refine Gw λw hS=>?_|refine Gb λb w hS=>?_
  refine zt hr ?_
  repeat first|refine Gp ?_|refine Gw λw hS=>?_|refine Gb λb w hS=>?_
  refine zt hr ?_
  repeat first|refine Gp ?_|refine Gw λw hS=>?_|refine Gb λb w hS=>?_
  refine⟨?_,?_,?_⟩
  ·refine Gb λob w hS=>?_
   have hS:SL W (.pt ob (encOp badO) 96::_) _:=hS
   refine⟨?_,?_⟩
   ·refine Gb λc1 w hS=>?_
    have hS:SL W (.pt c1 (encNote (badC x.reqs.length)) 98::_) _:=hS
    refine Gb λc2 w hS=>?_
    have hS:SL W (.pt c2 (encNote (badA x.reqs.length)) 98::_) _:=hS
    exact hfin (SL.into hS Xi)
   ·refine Gb λc2 w hS=>?_
    have hS:SL W (.pt c2 (encNote (badA x.reqs.length)) 98::_) _:=hS
    refine Gb λc1 w hS=>?_
    have hS:SL W (.pt c1 (encNote (badC x.reqs.length)) 98::_) _:=hS
    exact hfin (SL.into hS Xi)
  ·refine Gb λc1 w hS=>?_
   have hS:SL W (.pt c1 (encNote (badC x.reqs.length)) 98::_) _:=hS
   refine⟨?_,?_⟩
   ·refine Gb λob w hS=>?_
    have hS:SL W (.pt ob (encOp badO) 96::_) _:=hS
    refine Gb λc2 w hS=>?_
    have hS:SL W (.pt c2 (encNote (badA x.reqs.length)) 98::_) _:=hS
    exact hfin (SL.into hS Xi)
   ·refine Gb λc2 w hS=>?_
    have hS:SL W (.pt c2 (encNote (badA x.reqs.length)) 98::_) _:=hS
    refine Gb λob w hS=>?_
    have hS:SL W (.pt ob (encOp badO) 96::_) _:=hS
    exact hfin (SL.into hS Xi)
  ·refine Gb λc2 w hS=>?_
   have hS:SL W (.pt c2 (encNote (badA x.reqs.length)) 98::_) _:=hS
   refine⟨?_,?_⟩
   ·refine Gb λob w hS=>?_
    have hS:SL W (.pt ob (encOp badO) 96::_) _:=hS
    refine Gb λc1 w hS=>?_
    have hS:SL W (.pt c1 (encNote (badC x.reqs.length)) 98::_) _:=hS
    exact hfin (SL.into hS Xi)
   ·refine Gb λc1 w hS=>?_
    have hS:SL W (.pt c1 (encNote (badC x.reqs.length)) 98::_) _:=hS
    refine Gb λob w hS=>?_
    have hS:SL W (.pt ob (encOp badO) 96::_) _:=hS
    exact hfin (SL.into hS Xi)
 clear hS
 intro bl w hI
 rw[hI2]at hI
 obtain⟨Hz,_,bv,e,h3z,hbl,hits,hS⟩:=hI
 cases e
 have hb4:bv.length=4:=hits.len
 have h0z:=Heap.le_trans h02 (Heap.le_trans h23 h3z)
 refine⟨λus w=>∃(j:Nat) (Hj:Heap),us=[.int .i64 j]∧j≤4∧Hz.le Hj∧SL W (.ob (SnkO kp gp dp lp pp Hj kf)::.ob (RSnkO rkp xp rlp rp Hj x)::.mem Hj::.pt yb (encIt zv) 46::F) w,
  λus _=>match us with|[.int _ j]=>(4-j).toNat|_=>0,⟨0,Hz,rfl,by omega,Heap.le_refl Hz,hS⟩,?_⟩
 clear hS
 rintro v14 w ⟨j,Hj,hus,hj,hzj,hS⟩
 cases hus
 refine zt hbl ?_
 repeat first|refine Gp ?_|refine Gw λw hS=>?_|refine Gb λb w hS=>?_
 refine zf (λh=>?_) (λh=>?_)
 ·have hjl:j<bv.length:=by omega
  have hjb:j<(bads x.lsn x.reqs.length).length:=by rw[← hits.len];exact hjl
  have hit:=(hits.at_ j hjl hjb).mono hzj
  have hmem:(bads x.lsn x.reqs.length)[j]∈bads x.lsn x.reqs.length:=List.getElem_mem hjb
  have hbo:=bads_ok (by omega) (by omega) hmem
  refine zM hS Xh encIt_len (hbl.mono hzj) (List.getElem?_eq_getElem hjl) hjl ?_
  (apply ze (z6 kp gp dp lp pp Hj kf bv[j] (bads x.lsn x.reqs.length)[j] hit hbo.1 hbo.2 hfk2) hS;exact Xp;clear hS)
  rw[hno hmem]
  rintro v post ⟨rfl,Hk,hjk,rfl⟩ w hS
  (try simp only[app]at hS)
  repeat first|refine Gp ?_|refine Gw λw hS=>?_|refine Gb λb w hS=>?_
  refine zf (λh=>absurd rfl h) (λ_=>?_)
  (apply ze (yp kp gp dp lp pp Hk kf) hS;exact Xp;clear hS)
  (rintro v post ⟨rfl,rfl⟩ w hS;(try simp only[app]at hS);(repeat (first|refine Gp ?_|refine Gw λw hS=>?_|refine Gb λb w hS=>?_)))
  obtain⟨rw2,hrw,hS⟩:=SnkO.open (k:=kf) hS Xr
  (apply ze (Zp pp kf.plan) hS;exact Xp;clear hS)
  (rintro v post ⟨rfl,rfl⟩ w hS;(try simp only[app]at hS);(repeat (first|refine Gp ?_|refine Gw λw hS=>?_|refine Gb λb w hS=>?_)))
  refine zf (λh=>absurd (by rw[hpl1];rfl) h) (λ_=>?_)
  repeat first|refine Gp ?_|refine Gw λw hS=>?_|refine Gb λb w hS=>?_
  have hS:=SnkO.put kf hS hrw Xp
  have hS:=RSnkO.monoP hjk hS Xr
  exact⟨⟨j+1,Hk,rfl,by omega,Heap.le_trans hzj hjk,SL.into hS Xi⟩,by dsimp only;omega⟩
 have h0j:=Heap.le_trans h0z hzj
 have hzz:=hz.mono h0j
 have hzok:IOk z:=⟨λn hn=>(hokz.nts n hn).2.1,hokz.nops,hokz.nnts⟩
 have hzk:∀o∈z.ops,inI64 o.key:=λo ho=>(hokz.ops o ho).2.2
 obtain⟨zl,zo,zn⟩:=zv
 have hzl:zl=z.lsn:=hzz.lsn
 subst hzl
 simp only[encIt]at hS
 refine⟨λus w=>∃(q:Bool) (Hk:Heap),us=[.bool q]∧(q=true↔(mayItem z=false∨(x.lsn<z.lsn∧fitsR 2 x.reqs z=none)))∧Hj.le Hk∧SL W (.ob (SnkO kp gp dp lp pp Hk kf)::.ob (RSnkO rkp xp rlp rp Hk x)::.mem Hk::.pt yb [.int .i64 z.lsn,zo,zn] 46::F) w,?_,?_⟩
 ·repeat first|refine Gp ?_|refine Gw λw hS=>?_|refine Gb λb w hS=>?_
  (apply ze (yd Hj ⟨z.lsn,zo,zn⟩ z hzz) hS;exact Xp;clear hS)
  (rintro v post ⟨rfl,rfl⟩ w hS;(try simp only[app]at hS);(repeat (first|refine Gp ?_|refine Gw λw hS=>?_|refine Gb λb w hS=>?_)))
  refine zL (λhm=>?_) (λhm=>?_)
  ·exact⟨true,Hj,rfl,⟨λ_=>.inl hm,λ_=>rfl⟩,Heap.le_refl Hj,SL.into hS Xi⟩
  ·obtain⟨rv,pv,⟨hr,hp⟩,hS⟩:=RSnkO.open (k:=x) hS Xr
   repeat first|refine Gp ?_|refine Gw λw hS=>?_|refine Gb λb w hS=>?_
   have hS:=RSnkO.put x hS hr hp Xp
   refine zf (λhl=>?_) (λhl=>?_)
   ·repeat first|refine Gp ?_|refine Gw λw hS=>?_|refine Gb λb w hS=>?_
    (apply ze (y0 rkp xp rlp rp Hj x ⟨z.lsn,zo,zn⟩ z hzz (by omega)) hS;exact Xp;clear hS)
    rintro v post ⟨rfl,Hk,hjk,rfl⟩ w hS
    (try simp only[app]at hS)
    repeat first|refine Gp ?_|refine Gw λw hS=>?_|refine Gb λb w hS=>?_
    have hS:=SnkO.monoP hjk hS Xr
    refine⟨_,Hk,rfl,?_,hjk,SL.into hS Xi⟩
    rw[hxi.s.len,hm]
    cases fitsR 2 x.reqs z with
    | none=>exact⟨λ_=>.inr ⟨by omega,rfl⟩,λ_=>rfl⟩
    | some L=>exact⟨λh=>(Bool.false_ne_true h).elim,λh=>by rcases h with h|⟨_,h⟩<;>cases h⟩
   ·refine⟨false,Hj,rfl,?_,Heap.le_refl Hj,SL.into hS Xi⟩
    rw[hm]
    exact⟨λh=>absurd h (by decide),λh=>by
     rcases h with h|⟨h,_⟩
     ·cases h
     ·exact absurd h (by omega)⟩
 clear hS
 rintro v162 w ⟨q,Hk,hus,hq,hjk,hS⟩
 cases hus
 have hzk2:=hzz.mono hjk
 have h0k:=Heap.le_trans h0j hjk
 cases q with
 | true=>
  refine zB ?_
  have hqq:=hq.1 rfl
  have hcm:kf.commitK z=(kf,1):=commitK_no hP.s.len (by rw[hkf.2.2,hkf.2.1];exact hqq)
  repeat first|refine Gp ?_|refine Gw λw hS=>?_|refine Gb λb w hS=>?_
  (apply ze (z6 kp gp dp lp pp Hk kf ⟨z.lsn,zo,zn⟩ z hzk2 hzok hzk hfk2) hS;exact Xp;clear hS)
  rw[hcm]
  rintro v post ⟨rfl,Hl,hkl,rfl⟩ w hS
  (try simp only[app]at hS)
  repeat first|refine Gp ?_|refine Gw λw hS=>?_|refine Gb λb w hS=>?_
  refine zf (λ_=>?_) (λh=>absurd rfl h)
  (apply ze (yp kp gp dp lp pp Hl kf) hS;exact Xp;clear hS)
  (rintro v post ⟨rfl,rfl⟩ w hS;(try simp only[app]at hS);(repeat (first|refine Gp ?_|refine Gw λw hS=>?_|refine Gb λb w hS=>?_)))
  obtain⟨rw2,hrw,hS⟩:=SnkO.open (k:=kf) hS Xr
  (apply ze (Zp pp kf.plan) hS;exact Xp;clear hS)
  (rintro v post ⟨rfl,rfl⟩ w hS;(try simp only[app]at hS);(repeat (first|refine Gp ?_|refine Gw λw hS=>?_|refine Gb λb w hS=>?_)))
  refine zf (λ_=>?_) (λh=>absurd (by rw[hpl1];rfl) h)
  have hS:=SnkO.put kf hS hrw Xp
  have hS:=RSnkO.monoP hkl hS Xr
  obtain⟨rv,pv,⟨hr,hp⟩,hS⟩:=RSnkO.open (k:=x) hS Xr
  repeat first|refine Gp ?_|refine Gw λw hS=>?_|refine Gb λb w hS=>?_
  (apply ze (Zt kp gp dp lp pp Hl kf) hS;exact Xp;clear hS)
  (rintro v post ⟨rfl,rfl⟩ w hS;(try simp only[app]at hS);(repeat (first|refine Gp ?_|refine Gw λw hS=>?_|refine Gb λb w hS=>?_)))
  refine zf (λ_=>?_) (λh=>absurd hkf.2.2 h)
  repeat first|refine Gp ?_|refine Gw λw hS=>?_|refine Gb λb w hS=>?_
  have hrqk:=hfk2.rq
  (apply ze (qy kp gp dp lp pp Hl kf hrqk) hS;exact Xp;clear hS)
  rintro u post ⟨Hm,hlm,hu,rfl⟩ w hS
  (try simp only[app]at hS)
  repeat first|refine Gp ?_|refine Gw λw hS=>?_|refine Gb λb w hS=>?_
  (apply ze (plain_req Hm u rv kf.reqs x.reqs hu (hr.mono hlm) (by omega)) hS;exact Xp;clear hS)
  (rintro v post ⟨rfl,rfl⟩ w hS;(try simp only[app]at hS);(repeat (first|refine Gp ?_|refine Gw λw hS=>?_|refine Gb λb w hS=>?_)))
  rw[decide_eq_true hkf.2.1]
  exact⟨_,⟨rfl,Hm,[],Heap.le_trans h0k (Heap.le_trans hkl hlm),rfl⟩,SL.into hS Xi⟩
 | false=>
  refine zA ?_
  have hm:mayItem z=true:=by
   cases hb:mayItem z with
   | true=>rfl
   | false=>exact absurd (hq.2 (.inl hb)) (by decide)
  have hc:(kf.commitK z).2=9∧(kf.commitK z).1.plan=[]∧(¬x.lsn<z.lsn→(kf.commitK z).1.lsn=x.lsn∧(kf.commitK z).1.ts=x.ts)∧∃N m,KOk (kf.commitK z).1 N m:=by
   obtain⟨ys',m',hc1⟩:=hP.commit (by omega) z
   refine⟨?_,?_,?_,_,_,hc1.kok (by omega) (by decide)⟩
   all_goals by_cases hl:x.lsn<z.lsn
   ·obtain⟨L,hL⟩:∃L,fitsR 2 x.reqs z=some L:=by
     cases hf:fitsR 2 x.reqs z with
     | none=>exact absurd (hq.2 (.inr ⟨hl,hf⟩)) (by decide)
     | some L=>exact⟨L,rfl⟩
    exact (hP.fault (by omega) hku hpl1 (x:=z) (L:=L) (by rw[hkf.2.2];exact hl) (by rw[hkf.2.1];exact hL)).1
   ·rw[commitK_oldF hku.off hpl1 hm (by rw[hkf.2.2];exact hl)]
   ·obtain⟨L,hL⟩:∃L,fitsR 2 x.reqs z=some L:=by
     cases hf:fitsR 2 x.reqs z with
     | none=>exact absurd (hq.2 (.inr ⟨hl,hf⟩)) (by decide)
     | some L=>exact⟨L,rfl⟩
    exact (hP.fault (by omega) hku hpl1 (x:=z) (L:=L) (by rw[hkf.2.2];exact hl) (by rw[hkf.2.1];exact hL)).2.2.1
   ·rw[commitK_oldF hku.off hpl1 hm (by rw[hkf.2.2];exact hl)]
   ·exact λh=>absurd hl h
   ·rw[commitK_oldF hku.off hpl1 hm (by rw[hkf.2.2];exact hl)]
    exact λ_=>⟨hkf.2.2,hkf.1⟩
  obtain⟨c1,c2,c3,N,m,c4⟩:=hc
  repeat first|refine Gp ?_|refine Gw λw hS=>?_|refine Gb λb w hS=>?_
  (apply ze (z6 kp gp dp lp pp Hk kf ⟨z.lsn,zo,zn⟩ z hzk2 hzok hzk hfk2) hS;exact Xp;clear hS)
  rintro v post ⟨rfl,Hl,hkl,rfl⟩ w hS
  (try simp only[app]at hS)
  rw[c1]
  generalize (kf.commitK z).1=kc at *
  repeat first|refine Gp ?_|refine Gw λw hS=>?_|refine Gb λb w hS=>?_
  refine zf (λ_=>?_) (λh=>absurd rfl h)
  (apply ze (yp kp gp dp lp pp Hl kc) hS;exact Xp;clear hS)
  (rintro v post ⟨rfl,rfl⟩ w hS;(try simp only[app]at hS);(repeat (first|refine Gp ?_|refine Gw λw hS=>?_|refine Gb λb w hS=>?_)))
  obtain⟨rw2,hrw,hS⟩:=SnkO.open (k:=kc) hS Xr
  (apply ze (Zp pp kc.plan) hS;exact Xp;clear hS)
  (rintro v post ⟨rfl,rfl⟩ w hS;(try simp only[app]at hS);(repeat (first|refine Gp ?_|refine Gw λw hS=>?_|refine Gb λb w hS=>?_)))
  refine zf (λ_=>?_) (λh=>absurd (by rw[c2];rfl) h)
  have hS:=SnkO.put kc hS hrw Xp
  have hS:=RSnkO.monoP hkl hS Xr
  obtain⟨rv,pv,⟨hr,hp⟩,hS⟩:=RSnkO.open (k:=x) hS Xr
  have h0l:=Heap.le_trans h0k hkl
  repeat first|refine Gp ?_|refine Gw λw hS=>?_|refine Gb λb w hS=>?_
  refine zf (λhl=>?_) (λhl=>?_)
  ·exact⟨_,⟨rfl,Hl,[],h0l,rfl⟩,SL.into hS Xi⟩
  obtain⟨d1,d2⟩:=c3 (by omega)
  repeat first|refine Gp ?_|refine Gw λw hS=>?_|refine Gb λb w hS=>?_
  (apply ze (Zt kp gp dp lp pp Hl kc) hS;exact Xp;clear hS)
  (rintro v post ⟨rfl,rfl⟩ w hS;(try simp only[app]at hS);(repeat (first|refine Gp ?_|refine Gw λw hS=>?_|refine Gb λb w hS=>?_)))
  refine zf (λ_=>?_) (λh=>absurd d1 h)
  have hs2:small kc.ts 0:=small_mono c4.room (by omega)
  have hs3:small x.ts 0:=by rw[← d2];exact hs2
  obtain⟨rv3,hrv,hS⟩:=SnkO.open (k:=kc) hS Xr
  repeat first|refine Gp ?_|refine Gw λw hS=>?_|refine Gb λb w hS=>?_
  (apply ze (ZE gp kc.ts 0 hs2) hS;exact Xp;clear hS)
  rintro u1 post rfl w hS
  (try simp only[app]at hS)
  repeat first|refine Gp ?_|refine Gw λw hS=>?_|refine Gb λb w hS=>?_
  (apply ze (ZB Hl rp x.ts 0 hs3) hS;exact Xp;clear hS)
  rintro u2 post rfl w hS
  (try simp only[app]at hS)
  have hcl:=cellsAt_small (t:=0) hs2
  obtain⟨Hm,hlm,hR1,hS⟩:=zK (H:=Hl) (v:=u1) hS Xp
  obtain⟨Hn,hmn,hR2,hS⟩:=zK (H:=Hm) (v:=u2) hS Xp
  rw[← d2]at hR2
  (apply ze (plain_cell Hn u1 u2 _ _ (hR1.mono hmn) hR2 (by omega)) hS;exact Xp;clear hS)
  (rintro v post ⟨rfl,rfl⟩ w hS;(try simp only[app]at hS);(repeat (first|refine Gp ?_|refine Gw λw hS=>?_|refine Gb λb w hS=>?_)))
  rw[decide_eq_true rfl]
  exact⟨_,⟨rfl,Hn,[],Heap.le_trans h0l (Heap.le_trans hlm hmn),rfl⟩,SL.into hS Xi⟩
theorem sinkRefuses_law(l:List O18)(z:PItem)(f:PFt)(ok:∀o∈l,ok18 o)(okz:okItemA z)(v:Value)(cs csf:Array Value)(w:World)(hl:RdS t18 w Nob l v)(hz:tItem.rd w Nob z cs.toList)(hf:tFt.rd w Nob f csf.toList):
  Calls Tryz.prog 6 #[v,.agg cs,.agg csf] w λe w'=>e= .returned (.bool true)∧Below w.heap.size w w':=by
 obtain⟨zv,e1,hzv⟩:=tItem_rd hz
 have e2:=tFt_rd hf
 have e1:cs=(encIt zv).toArray:=by rw[← e1]
 have e2:csf=(encFt f).toArray:=by rw[← e2]
 subst e1 e2
 exact (YV (Zs (Heap.of w) v zv z f l (Rd18.of hl) hzv okz ok)).calls
end Go.Proofs.YtnmhmnnadkclbaaGreat
