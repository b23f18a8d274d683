/-
  Texts of the proof, joined: Own, OpT, CellsN, BytesT, SinkT, PlayS, Law18I, Law18Q, Law18S, RingS, GateS, RetS, WrM.
-/
import Derived.Test.YtnmhmnnadkclbaaGreatJ10
import Derived.Test.YtnmhmnnadkclbaaGreatRows
import Derived.Test.YtnmhmnnadkclbaaGreatQVcF
import Derived.Test.YtnmhmnnadkclbaaGreatQVcT
import Derived.Test.YtnmhmnnadkclbaaGreatQVcN
namespace Go.Proofs.YtnmhmnnadkclbaaGreat
set_option linter.unusedVariables false
theorem Tryz.own:ownKnob Tryz.prog.godebug=none:=by kernel_rfl
theorem Tryz.laidOut:laidOutB Tryz.prog=true:=by kernel_rfl
end Go.Proofs.YtnmhmnnadkclbaaGreat
namespace Go.Proofs.YtnmhmnnadkclbaaGreat
set_option linter.unusedVariables false
set_option maxRecDepth 100000
open Go.ChangeShapes Go.WideShapes Go.ChangeAt Go.RowKit
def tAOp:GoT AOp:=(tPair (tInt .i64) (tPair (tInt .i64) (tPair (tInt .i64) (tPair tBool (tPair tStr tUnit))))).via λo=>(o.lsn,o.table,o.key,o.gone,o.val,())
theorem tAOp_rd{w:World}{M:MS}{o:AOp}{cs:List Value}(h:tAOp.rd w M o cs):cs=encOp o:=by
 obtain⟨c1,c2,rfl,h1,c3,c4,rfl,h3,c5,c6,rfl,h5,c7,c8,rfl,h7,c9,c10,rfl,h9,h10⟩:=h
 have h1':c1=[.int .i64 o.lsn]:=h1
 have h3':c3=[.int .i64 o.table]:=h3
 have h5':c5=[.int .i64 o.key]:=h5
 have h7':c7=[.bool o.gone]:=h7
 have h9':c9=[.string o.val]:=h9
 have h10':c10=[]:=h10
 subst h1' h3' h5' h7' h9' h10'
 rfl
def okAOp(o:AOp):Prop:=inK .i64 o.lsn∧inK .i64 o.table∧inK .i64 o.key∧okStr o.val
theorem QS:Opens Tryz.prog 96 tAOp okAOp:=
 yH (yw (λo:AOp=>(o.lsn,o.table,o.key,o.gone,o.val,())) (λx=>⟨x.1,x.2.1,x.2.2.1,x.2.2.2.1,x.2.2.2.2.1⟩) (λ_=>rfl)
  (zX Tryz.underlying96 (by kernel_rfl) (fields_cons (zu Tryz.underlying2 (by kernel_rfl)) rfl (fields_cons (zu Tryz.underlying3 (by kernel_rfl)) rfl (fields_cons (zu Tryz.underlying2 (by kernel_rfl)) rfl (fields_cons (ZS Tryz.underlying4 (by kernel_rfl)) rfl (fields_cons (QA Tryz.underlying9 (by kernel_rfl)) rfl (fields_nil _ _)))))))) (λo h=>⟨h.1,h.2.1,h.2.2.1,h.2.2.2.2.1⟩)
theorem RdS.cellsN{α:Type}{T:GoT α}{w:World}{xs:List α}{v:Value}(h:RdS T w Nob xs v)(hT:0<T.n):
  ∃css:List (List Value),css.length=xs.length∧RdSl (Heap.of w) T.n v xs.length css.flatten∧∀i (h:i<xs.length) (h':i<css.length),T.rd w Nob xs[i] css[i]:=by
 obtain⟨a,cap,rfl,hc,hx⟩:=h.out
 have hex:∀i,∃cs:List Value,cs.length=T.n∧∀h:i<xs.length,T.rd w Nob xs[i] cs∧∃b off,a=some ⟨b,off,none⟩∧At w Nob b (off+i*T.n) cs:=λi=>by
  by_cases hi:i<xs.length
  ·obtain⟨b,off,cs,ha,hr,hat⟩:=hx i hi
   exact⟨cs,T.len hr,λ_=>⟨hr,b,off,ha,hat⟩⟩
  ·exact⟨List.replicate T.n undef,by simp,λh=>absurd h hi⟩
 obtain⟨f,hf⟩:=Classical.axiomOfChoice hex
 have hlen:∀x∈(List.range xs.length).map f,x.length=T.n:=λx hx=>by
  obtain⟨i,_,rfl⟩:=List.mem_map.1 hx;exact (hf i).1
 have hfl:((List.range xs.length).map f).flatten.length=xs.length*T.n:=by rw[flatten_length (n:=T.n) _ hlen];simp
 refine⟨(List.range xs.length).map f,by simp,⟨hfl,a,cap,rfl,hc,?_⟩,λi hi hi'=>?_⟩
 ·rcases Nat.eq_zero_or_pos xs.length with h0|h0
  ·exact .inl h0
  ·right
   obtain⟨_,b,off,rfl,_⟩:=(hf 0).2 h0
   refine⟨b,off,rfl,λj u hu=>?_⟩
   have hj:=(List.getElem?_eq_some_iff.1 hu).1
   rw[hfl]at hj
   have hi:j / T.n<xs.length:=(Nat.div_lt_iff_lt_mul hT).2 hj
   obtain⟨_,b',off',hab,hat⟩:=(hf (j / T.n)).2 hi
   simp at hab
   obtain⟨rfl,rfl⟩:=hab
   have hmod:j % T.n<(f (j / T.n)).length:=by rw[(hf _).1];exact Nat.mod_lt _ hT
   have hg:=flatten_get (n:=T.n) ((List.range xs.length).map f) hlen (j / T.n) (j % T.n) (by simpa using hi) ((f (j / T.n))[j % T.n]'hmod) (by simp[List.getElem?_eq_getElem hmod])
   have hdm:j / T.n*T.n+j % T.n=j:=by rw[Nat.mul_comm];exact Nat.div_add_mod j T.n
   rw[hdm,hu]at hg
   have hu':u=(f (j / T.n))[j % T.n]:=Option.some.inj hg
   have:=hat.2 (j % T.n) u (by rw[hu'];exact List.getElem?_eq_getElem hmod)
   rw[show off+j / T.n*T.n+j % T.n=off+j by omega]at this
   unfold World.cell? at this
   unfold Heap.cell Heap.of
   simp only at this ⊢
   split at this
   ·rename_i c t f he';rw[he'];simpa using this
   ·cases this
 ·simpa using ((hf i).2 hi).1
def tNote:GoT PNote:=(tPair (tInt .i64) (tPair (tInt .i64) (tPair (tInt .i64) (tPair (tInt .i64) (tPair (tInt .i64) (tPair (tInt .i64) (tPair tBool tUnit))))))).via λo=>(o.kind,o.id,o.table,o.weight,o.at_,o.cursor,o.done,())
theorem tNote_rd{w:World}{M:MS}{o:PNote}{cs:List Value}(h:tNote.rd w M o cs):cs=encNote o:=by
 obtain⟨c1,c2,rfl,h1,c3,c4,rfl,h3,c5,c6,rfl,h5,c7,c8,rfl,h7,c9,c10,rfl,h9,c11,c12,rfl,h11,c13,c14,rfl,h13,h14⟩:=h
 have h1':c1=[.int .i64 o.kind]:=h1
 have h3':c3=[.int .i64 o.id]:=h3
 have h5':c5=[.int .i64 o.table]:=h5
 have h7':c7=[.int .i64 o.weight]:=h7
 have h9':c9=[.int .i64 o.at_]:=h9
 have h11':c11=[.int .i64 o.cursor]:=h11
 have h13':c13=[.bool o.done]:=h13
 have h14':c14=[]:=h14
 subst h1' h3' h5' h7' h9' h11' h13' h14'
 rfl
def okNoteA(o:PNote):Prop:=inI64 o.kind∧inI64 o.id∧inI64 o.table∧inI64 o.weight∧inI64 o.at_∧inI64 o.cursor
theorem Qn:Opens Tryz.prog 98 tNote okNoteA:=
 yH (yw (λo:PNote=>(o.kind,o.id,o.table,o.weight,o.at_,o.cursor,o.done,())) (λx=>⟨x.1,x.2.1,x.2.2.1,x.2.2.2.1,x.2.2.2.2.1,x.2.2.2.2.2.1,x.2.2.2.2.2.2.1⟩) (λ_=>rfl)
  (zX Tryz.underlying98 (by kernel_rfl) (fields_cons (zu Tryz.underlying3 (by kernel_rfl)) rfl (fields_cons (zu Tryz.underlying3 (by kernel_rfl)) rfl (fields_cons (zu Tryz.underlying3 (by kernel_rfl)) rfl (fields_cons (zu Tryz.underlying3 (by kernel_rfl)) rfl
   (fields_cons (zu Tryz.underlying2 (by kernel_rfl)) rfl (fields_cons (zu Tryz.underlying2 (by kernel_rfl)) rfl (fields_cons (ZS Tryz.underlying4 (by kernel_rfl)) rfl (fields_nil _ _))))))))))
  (λo h=>⟨inK_i64 h.1,inK_i64 h.2.1,inK_i64 h.2.2.1,inK_i64 h.2.2.2.1,inK_i64 h.2.2.2.2.1,inK_i64 h.2.2.2.2.2.1⟩)
def okOpA(o:AOp):Prop:=inI64 o.lsn∧inI64 o.table∧inI64 o.key
def tItem:GoT PItem:=(tPair (tInt .i64) (tPair (tSlice tAOp) (tPair (tSlice tNote) tUnit))).via λx=>(x.lsn,x.ops,x.notes,())
theorem tItem_rd{w:World}{t:PItem}{cs:List Value}(h:tItem.rd w Nob t cs):∃x:ItV,cs=encIt x∧ItIs (Heap.of w) x t:=by
 obtain⟨c1,c2,rfl,h1,c3,c4,rfl,h3,c5,c6,rfl,h5,h6⟩:=h
 have h1':c1=[.int .i64 t.lsn]:=h1
 obtain⟨ov,h3',hov⟩:∃v,c3=[v]∧RdS tAOp w Nob t.ops v:=h3
 obtain⟨nv,h5',hnv⟩:∃v,c5=[v]∧RdS tNote w Nob t.notes v:=h5
 have h6':c6=[]:=h6
 subst h1' h3' h5' h6'
 exact⟨⟨t.lsn,ov,nv⟩,rfl,rfl,hov.flat tAOp_rd (λ_=>rfl),hnv.flat tNote_rd (λ_=>rfl)⟩
structure okItemA(t:PItem):Prop where
 lsn:inI64 t.lsn
 nops:t.ops.length≤140737488351232
 nnts:t.notes.length≤140737488351232
 ops:∀o∈t.ops,okOpA o
 nts:∀n∈t.notes,okNoteA n
theorem QO:Opens Tryz.prog 46 tItem okItemA:=
 yH (yw (λt:PItem=>(t.lsn,t.ops,t.notes,())) (λx=>⟨x.1,x.2.1,x.2.2.1⟩) (λ_=>rfl)
  (zX Tryz.underlying46 (by kernel_rfl) (fields_cons (zu Tryz.underlying2 (by kernel_rfl)) rfl
   (fields_cons (opens_slice (b:=48) QS Tryz.underlying43 (by kernel_rfl) (by kernel_rfl) (by decide)) rfl
    (fields_cons (opens_slice (b:=56) Qn Tryz.underlying44 (by kernel_rfl) (by kernel_rfl) (by decide)) rfl (fields_nil _ _))))))
  (λt h=>by
   have h2:=h.2.1
   have h3:=h.2.2.1
   exact⟨inK_i64 h.1,by have:=h2.1;simp only at this;omega,by have:=h3.1;simp only at this;omega,λo ho=>by have:=h2.2 o ho;exact⟨inK_i64 this.1,inK_i64 this.2.1,inK_i64 this.2.2.1⟩,λn hn=>h3.2 n hn⟩)
def tFt:GoT PFt:=(tPair (tInt .i64) (tPair (tInt .i64) tUnit)).via λf=>(f.kind,f.keep,())
theorem tFt_rd{w:World}{M:MS}{f:PFt}{cs:List Value}(h:tFt.rd w M f cs):cs=encFt f:=by
 obtain⟨c1,c2,rfl,h1,c3,c4,rfl,h3,h4⟩:=h
 have h1':c1=[.int .i64 f.kind]:=h1
 have h3':c3=[.int .i64 f.keep]:=h3
 have h4':c4=[]:=h4
 subst h1' h3' h4'
 rfl
def okFtA(f:PFt):Prop:=inI64 f.kind∧inI64 f.keep
theorem ftOpens:Opens Tryz.prog 48 tFt okFtA:=
 yH (yw (λf:PFt=>(f.kind,f.keep,())) (λx=>⟨x.1,x.2.1⟩) (λ_=>rfl)
  (zX Tryz.underlying48 (by kernel_rfl) (fields_cons (zu Tryz.underlying3 (by kernel_rfl)) rfl (fields_cons (zu Tryz.underlying3 (by kernel_rfl)) rfl (fields_nil _ _)))))
  (λf h=>⟨inK_i64 h.1,inK_i64 h.2.1⟩)
end Go.Proofs.YtnmhmnnadkclbaaGreat
namespace Go.Proofs.YtnmhmnnadkclbaaGreat
set_option linter.unusedVariables false
set_option maxRecDepth 100000
open Go.RowKit
def cutOf(s:ByteArray)(n:Nat):ByteArray:=s.extract 0 (min s.size n)
theorem Q5(s:ByteArray)(n:Nat):SP 197 [.string s,.int .i64 n] [] (Gives (.string (cutOf s n)) []):=by
 intro W F w hS;apply vc197;unfold Vc197;(try simp only[app]at hS)
 repeat first|refine Gp ?_|refine Gw λw hS=>?_|refine Gb λb w hS=>?_
 rw[show min (s.size:Int) (n:Int)=((min s.size n:Nat):Int) by omega]
 refine⟨s,0,min s.size n,rfl,⟨.i64,rfl⟩,rfl,Nat.zero_le _,Nat.min_le_left _ _,?_⟩
 (exact⟨_,⟨rfl,rfl⟩,SL.into hS Xi⟩)
def chOf(c:Chg)(k:Nat):Chg:=⟨md c.table k,if md c.key 31=30 then ((1+md c.key 1099511627776:Nat):Int) else ((1+md c.key 12:Nat):Int),c.gone,if c.gone then ⟨#[]⟩ else cutOf c.val 32⟩
theorem qg(c:Chg)(k:Nat)(h1:0<k)(h2:k≤8):SP 134 [agg (encChg c),.int .i64 k] [] (Gives (agg (encChg (chOf c k))) []):=by
 intro W F w hS;apply vc134;unfold Vc134;(try simp only[app]at hS)
 obtain⟨table,key,gone,val⟩:=c
 refine⟨_,rfl,zJ hS ?_⟩
 clear hS;intro p w hS
 refine zJ hS ?_
 clear hS;intro q w hS
 simp only[encChg]at hS
 have hm12:=md_lt key 12 (by decide)
 have hmb:=md_lt key 1099511627776 (by decide)
 have hme:(1:Int)+(md key 12:Int)=((1+md key 12:Nat):Int):=by omega
 have hmf:(1:Int)+(md key 1099511627776:Int)=((1+md key 1099511627776:Nat):Int):=by omega
 refine⟨λus w=>∃x:Nat,us=[.pointer (some ⟨x,0,none⟩)]∧SL W (.pt x [.int .i64 (md table k:Nat),.int .i64 ((1+md key 12:Nat):Int),.bool gone,.string ⟨#[]⟩] 170::.pt q [.int .i64 0,.int .i64 0,.bool false,.string ⟨#[]⟩] 170::.pt p [.int .i64 table,.int .i64 key,.bool gone,.string val] 170::F) w,?_,?_⟩
 ·refine yi hS ?_
  clear hS;intro w hS
  repeat first|refine Gp ?_|refine Gw λw hS=>?_|refine Gb λb w hS=>?_
  refine⟨?_,?_⟩
  ·(apply zd (yg table k h1 (by omega)) hS;exact Xp;clear hS)
   (rintro v post ⟨rfl,rfl⟩ w hS;(try simp only[app]at hS);(repeat (first|refine Gp ?_|refine Gw λw hS=>?_|refine Gb λb w hS=>?_)))
   refine⟨?_,?_⟩
   ·(apply zd (zV key 12 (by decide) (by decide)) hS;exact Xp;clear hS)
    (rintro v post ⟨rfl,rfl⟩ w hS;(try simp only[app]at hS);(repeat (first|refine Gp ?_|refine Gw λw hS=>?_|refine Gb λb w hS=>?_)))
    rw[hme]at hS
    exact⟨_,rfl,SL.into hS Xi⟩
   ·repeat first|refine Gp ?_|refine Gw λw hS=>?_|refine Gb λb w hS=>?_
    (apply zd (zV key 12 (by decide) (by decide)) hS;exact Xp;clear hS)
    (rintro v post ⟨rfl,rfl⟩ w hS;(try simp only[app]at hS);(repeat (first|refine Gp ?_|refine Gw λw hS=>?_|refine Gb λb w hS=>?_)))
    rw[hme]at hS
    exact⟨_,rfl,SL.into hS Xi⟩
  ·repeat first|refine Gp ?_|refine Gw λw hS=>?_|refine Gb λb w hS=>?_
   (apply zd (yg table k h1 (by omega)) hS;exact Xp;clear hS)
   (rintro v post ⟨rfl,rfl⟩ w hS;(try simp only[app]at hS);(repeat (first|refine Gp ?_|refine Gw λw hS=>?_|refine Gb λb w hS=>?_)))
   (apply zd (zV key 12 (by decide) (by decide)) hS;exact Xp;clear hS)
   (rintro v post ⟨rfl,rfl⟩ w hS;(try simp only[app]at hS);(repeat (first|refine Gp ?_|refine Gw λw hS=>?_|refine Gb λb w hS=>?_)))
   rw[hme]at hS
   exact⟨_,rfl,SL.into hS Xi⟩
 ·clear hS
  rintro v5 w ⟨x,hus,hS⟩
  cases hus
  refine⟨λus w=>us=[]∧SL W (.pt x [.int .i64 (md table k:Nat),.int .i64 (chOf ⟨table,key,gone,val⟩ k).key,.bool gone,.string ⟨#[]⟩] 170::.pt q [.int .i64 0,.int .i64 0,.bool false,.string ⟨#[]⟩] 170::.pt p [.int .i64 table,.int .i64 key,.bool gone,.string val] 170::F) w,?_,?_⟩
  ·repeat first|refine Gp ?_|refine Gw λw hS=>?_|refine Gb λb w hS=>?_
   (apply zd (zV key 31 (by decide) (by decide)) hS;exact Xp;clear hS)
   (rintro v post ⟨rfl,rfl⟩ w hS;(try simp only[app]at hS);(repeat (first|refine Gp ?_|refine Gw λw hS=>?_|refine Gb λb w hS=>?_)))
   refine ze (λh=>?_) (λh=>?_)
   ·have hk:(chOf ⟨table,key,gone,val⟩ k).key=((1+md key 1099511627776:Nat):Int):=by unfold chOf;simp only;rw[if_pos (by omega)]
    rw[hk]
    repeat first|refine Gp ?_|refine Gw λw hS=>?_|refine Gb λb w hS=>?_
    (apply zd (zV key 1099511627776 (by decide) (by decide)) hS;exact Xp;clear hS)
    (rintro v post ⟨rfl,rfl⟩ w hS;(try simp only[app]at hS);(repeat (first|refine Gp ?_|refine Gw λw hS=>?_|refine Gb λb w hS=>?_)))
    rw[hmf]at hS
    exact SL.into hS Xi
   ·have hk:(chOf ⟨table,key,gone,val⟩ k).key=((1+md key 12:Nat):Int):=by unfold chOf;simp only;rw[if_neg (by omega)]
    rw[hk]
    exact⟨rfl,SL.into hS Xi⟩
  ·clear hS
   rintro w ⟨-,hS⟩
   repeat first|refine Gp ?_|refine Gw λw hS=>?_|refine Gb λb w hS=>?_
   cases gone with
   | true=>
    refine zr ?_
    repeat first|refine Gp ?_|refine Gw λw hS=>?_|refine Gb λb w hS=>?_
    have e:encChg (chOf ⟨table,key,true,val⟩ k)=[.int .i64 (md table k:Nat),.int .i64 (chOf ⟨table,key,true,val⟩ k).key,.bool true,.string ⟨#[]⟩]:=rfl
    rw[e]
    (exact⟨_,⟨rfl,rfl⟩,SL.into hS Xi⟩)
   | false=>
    refine zy ?_
    repeat first|refine Gp ?_|refine Gw λw hS=>?_|refine Gb λb w hS=>?_
    (apply zd (Q5 val 32) hS;exact Xp;clear hS)
    (rintro v post ⟨rfl,rfl⟩ w hS;(try simp only[app]at hS);(repeat (first|refine Gp ?_|refine Gw λw hS=>?_|refine Gb λb w hS=>?_)))
    have e:encChg (chOf ⟨table,key,false,val⟩ k)=[.int .i64 (md table k:Nat),.int .i64 (chOf ⟨table,key,false,val⟩ k).key,.bool false,.string (cutOf val 32)]:=rfl
    rw[e]
    (exact⟨_,⟨rfl,rfl⟩,SL.into hS Xi⟩)
abbrev RqO(v:Value)(l:List Rq):Chunk:=.ob (OwnSl v 89 7 l.length (l.map encRq).flatten)
def openR(L:List Rq):List Rq:=L.filter λr=>!r.done
theorem openR_take{L:List Rq}{i:Nat}(h:i<L.length):openR (L.take (i+1))=if L[i].done=true then openR (L.take i) else openR (L.take i)++[L[i]]:=by
 unfold openR
 rw[List.take_succ_eq_append_getElem h,List.filter_append]
 cases hd:L[i].done<;>simp[hd]
theorem ropenq_spec(H:Heap)(v:Value)(L:List Rq)(hv:RdRq H v L)(hL:L.length≤1000):SP 160 [v] [.mem H] (λu post=>post=[RqO u (openR L),.mem H]):=by
 intro W F w hS;apply vc160;unfold Vc160;(try simp only[app]at hS)
 have hS:SL W (RqO (.slice none 0 0) (openR (L.take 0))::_) _:=OwnSl.nil hS
 refine⟨λus w=>∃(i:Nat) (u:Value),us=[u,.int .i64 i]∧i≤L.length∧SL W (RqO u (openR (L.take i))::.mem H::F) w,
  λus _=>match us with|[_,.int _ i]=>(L.length-i).toNat|_=>0,⟨0,_,rfl,by omega,hS⟩,?_⟩
 clear hS
 rintro u v4 w ⟨i,_,hus,hi,hS⟩
 cases hus
 refine zq hv ?_
 repeat first|refine Gp ?_|refine Gw λw hS=>?_|refine Gb λb w hS=>?_
 refine ze (λh=>?_) (λh=>?_)
 ·have hil:i<L.length:=by omega
  have ht:=openR_take hil
  have hol:(openR (L.take i)).length≤i:=Nat.le_trans (List.length_filter_le _ _) (by rw[List.length_take];omega)
  refine zY hS Xh encRq_len hv (x:=L[i]) (by simp[hil]) hil (i:=6) rfl ?_
  repeat first|refine Gp ?_|refine Gw λw hS=>?_|refine Gb λb w hS=>?_
  refine zK (λhd=>?_) (λhd=>?_)
  ·rw[if_neg (by rw[hd];decide)]at ht
   refine zH hS Xh encRq_len hv (x:=L[i]) (by simp[hil]) hil ?_
   repeat first|refine Gp ?_|refine Gw λw hS=>?_|refine Gb λb w hS=>?_
   refine yD (n:=(openR (L.take i)).length) (xs:=openR (L.take i)) (y:=L[i]) (enc:=encRq) hS Xr Xh encRq_len encRq_one rfl (by omega) (by omega) λu2 w hS=>?_
   repeat first|refine Gp ?_|refine Gw λw hS=>?_|refine Gb λb w hS=>?_
   refine⟨⟨i+1,u2,rfl,by omega,?_⟩,by dsimp only;omega⟩
   rw[ht]
   exact SL.into (hS.snocL (x:=L[i])) Xi
  ·rw[if_pos hd]at ht
   repeat first|refine Gp ?_|refine Gw λw hS=>?_|refine Gb λb w hS=>?_
   refine⟨⟨i+1,u,rfl,by omega,?_⟩,by dsimp only;omega⟩
   rw[ht];exact hS
 ·have:i=L.length:=by omega
  subst this
  rw[List.take_length]at hS
  exact⟨_,rfl,hS⟩
def opI(o:AOp)(k L:Nat):AOp:=⟨1+md o.lsn L,(chOf ⟨o.table,o.key,o.gone,o.val⟩ k).table,(chOf ⟨o.table,o.key,o.gone,o.val⟩ k).key,(chOf ⟨o.table,o.key,o.gone,o.val⟩ k).gone,(chOf ⟨o.table,o.key,o.gone,o.val⟩ k).val⟩
def piOf(t:PItem)(k lsn:Nat):PItem:=⟨((lsn+1+md t.lsn 3:Nat):Int),(t.ops.take 5).map λo=>opI o k (lsn+1+md t.lsn 3),[]⟩
theorem chOf_more(c:Chg)(k:Nat)(hk:0<k)(hk8:k≤8):0≤(chOf c k).table∧(chOf c k).table<k∧1≤(chOf c k).key∧(chOf c k).key≤1099511627776∧(chOf c k).val.size≤32∧((chOf c k).gone=true→(chOf c k).val=emp):=by
 have h1:=md_lt c.table k hk
 have h2:=md_lt c.key 12 (by decide)
 have h3:=md_lt c.key 1099511627776 (by decide)
 refine⟨Int.natCast_nonneg _,by show (md c.table k:Int)<k;omega,?_,?_,?_,?_⟩
 ·unfold chOf;simp only;split<;>omega
 ·unfold chOf;simp only;split<;>omega
 ·unfold chOf;simp only;split
  ·decide
  ·unfold cutOf;rw[ByteArray.size_extract];omega
 ·intro h
  have h:c.gone=true:=h
  unfold chOf;simp only;rw[if_pos h];rfl
theorem piOf_may(t:PItem)(k lsn:Nat)(hk:0<k)(hk8:k≤8)(hl:lsn+3≤1099511627776){out:List PNote}(ho:out.length≤256)(hm:∀n∈out,mayNote n (piOf t k lsn).lsn=true):mayItem {piOf t k lsn with notes:=out}=true:=by
 have h3:=md_lt t.lsn 3 (by decide)
 refine mayItem_iff.2 ⟨⟨by show (1:Int)≤((lsn+1+md t.lsn 3:Nat):Int);omega,by show ((lsn+1+md t.lsn 3:Nat):Int)≤_;omega,?_,ho⟩,λo hx=>?_,hm⟩
 ·show ((t.ops.take 5).map _).length≤4096
  rw[List.length_map,List.length_take];omega
 ·obtain⟨o,_,rfl⟩:=List.mem_map.1 hx
  obtain⟨c1,c2,c3,c4,c5,c6⟩:=chOf_more ⟨o.table,o.key,o.gone,o.val⟩ k hk hk8
  have hb:=md_lt o.lsn (lsn+1+md t.lsn 3) (by omega)
  unfold mayOp
  rw[decide_eq_true_iff]
  refine⟨by show (1:Int)≤1+(md o.lsn _:Int);omega,by show 1+(md o.lsn (lsn+1+md t.lsn 3):Int)≤((lsn+1+md t.lsn 3:Nat):Int);omega,c1,by show (chOf ⟨o.table,o.key,o.gone,o.val⟩ k).table<8;omega,c3,c4,c5,c6⟩
theorem piOf_tabs(t:PItem)(k lsn:Nat)(hk:0<k)(hk8:k≤8)(out:List PNote):tabsOk k {piOf t k lsn with notes:=out}=true:=by
 unfold tabsOk
 rw[List.all_eq_true]
 intro o hx
 obtain⟨o,_,rfl⟩:=List.mem_map.1 hx
 exact decide_eq_true (chOf_more ⟨o.table,o.key,o.gone,o.val⟩ k hk hk8).2.1
theorem qs(H:Heap)(x:ItV)(t:PItem)(hx:ItIs H x t)(k lsn:Nat)(hk:0<k)(hk8:k≤8)(hl:lsn≤1000000000000000)(hn:t.ops.length≤140737488351232):
  SP 53 [agg (encIt x),.int .i64 k,.int .i64 lsn] [.mem H] (λu post=>∃ov H',H.le H'∧u=agg [.int .i64 (piOf t k lsn).lsn,ov,.slice none 0 0]∧RdOps H' ov (piOf t k lsn).ops∧post=[.mem H']):=by
 intro W F w hS;apply vc53;unfold Vc53;(try simp only[app]at hS)
 refine zB hS λxb w hS=>?_
 have ex:encIt x=[.int .i64 t.lsn,x.ov,x.nv]:=by unfold encIt;rw[hx.lsn]
 rw[ex]at hS
 refine Gb λzb w hS=>?_
 have hm3:=md_lt t.lsn 3 (by decide)
 repeat first|refine Gp ?_|refine Gw λw hS=>?_|refine Gb λb w hS=>?_
 (apply zd (zV t.lsn 3 (by decide) (by decide)) hS;exact Xp;clear hS)
 rintro v post ⟨rfl,rfl⟩ w hS
 (try simp only[app]at hS)
 refine Qb ?_
 have hP:(piOf t k lsn).lsn=((lsn+1+md t.lsn 3:Nat):Int):=rfl
 have hOps:(piOf t k lsn).ops=(t.ops.take 5).map λo=>opI o k (lsn+1+md t.lsn 3):=rfl
 rw[hP,hOps]
 generalize hLL:lsn+1+md t.lsn 3=L at *
 refine Gp ?_
 refine Gb λib w hS=>?_
 have hS:=OwnSl.nil (t:=96) (sz:=5) hS
 have hS:SL W (OpO (.slice none 0 0) ((t.ops.take 0).map λo=>opI o k L)::_) _:=hS
 refine⟨λus w=>∃(i:Nat) (ov:Value),us=[.int .i64 i]∧i≤t.ops.length∧i≤5∧SL W (OpO ov ((t.ops.take i).map λo=>opI o k L)::.pt ib [.int .i64 (L:Nat),ov,.slice none 0 0] 46::.pt zb [.int .i64 0,.slice none 0 0,.slice none 0 0] 46::.pt xb [.int .i64 t.lsn,x.ov,x.nv] 46::.mem H::F) w,
  λus _=>match us with|[.int _ i]=>(t.ops.length-i).toNat|_=>0,⟨0,.slice none 0 0,rfl,by omega,by omega,SL.into hS Xi⟩,?_⟩
 clear hS
 rintro v8 w ⟨i,ov,hus,hi,hi5,hS⟩
 cases hus
 have hend:i=min 5 t.ops.length→∀{w:World},SL W (OpO ov ((t.ops.take i).map λo=>opI o k L)::.pt ib [.int .i64 (L:Nat),ov,.slice none 0 0] 46::.pt zb [.int .i64 0,.slice none 0 0,.slice none 0 0] 46::.pt xb [.int .i64 t.lsn,x.ov,x.nv] 46::.mem H::F) w →
   zi 3 (ptrO ib) w λv65=>zn 3 (ptrO zb) v65 w λw_17=>zi 3 (ptrO zb) w_17 λr=>∃post,(∃ov H',H.le H'∧r=agg [.int .i64 (L:Nat),ov,.slice none 0 0]∧RdOps H' ov ((t.ops.take 5).map λo=>opI o k L)∧post=[.mem H'])∧SL W (app post F) w_17:=λe w hS=>by
  have h1:=OwnSl.one hS
  have et:t.ops.take 5=t.ops.take i:=by rw[List.take_eq_take_iff];omega
  obtain⟨H1,h01,hR,hS⟩:=OwnSl.freeze (SL.into hS (t:=.mem H::OpO ov ((t.ops.take i).map λo=>opI o k L)::.pt ib [.int .i64 (L:Nat),ov,.slice none 0 0] 46::.pt zb [.int .i64 0,.slice none 0 0,.slice none 0 0] 46::F) Xi)
  refine zA hS Xh rfl ?_
  refine zP (vs:=[.int .i64 (L:Nat),ov,.slice none 0 0]) hS Xu rfl rfl (λv hv=>by
   simp only[List.mem_cons,List.not_mem_nil,or_false]at hv
   rcases hv with rfl|rfl|rfl
   ·rfl
   ·exact h1
   ·rfl) λw hS=>?_
  repeat first|refine Gp ?_|refine Gw λw hS=>?_|refine Gb λb w hS=>?_
  exact⟨_,⟨ov,H1,h01,rfl,by rw[et];exact hR,rfl⟩,SL.into hS Xi⟩
 repeat first|refine Gp ?_|refine Gw λw hS=>?_|refine Gb λb w hS=>?_
 refine zq hx.ops ?_
 repeat first|refine Gp ?_|refine Gw λw hS=>?_|refine Gb λb w hS=>?_
 refine ze (λh=>?_) (λh=>hend (by omega) hS)
 repeat first|refine Gp ?_|refine Gw λw hS=>?_|refine Gb λb w hS=>?_
 refine ze (λh5=>?_) (λh5=>hend (by omega) hS)
 have hil:i<t.ops.length:=by omega
 repeat first|refine Gp ?_|refine Gw λw hS=>?_|refine Gb λb w hS=>?_
 refine zH hS Xh encOp_len' hx.ops (x:=t.ops[i]) (by simp[hil]) hil ?_
 have ht:(t.ops.take (i+1)).map (λo=>opI o k L)=(t.ops.take i).map (λo=>opI o k L)++[opI t.ops[i] k L]:=by rw[List.take_succ_eq_append_getElem hil,List.map_append];rfl
 generalize t.ops[i]=o at *
 obtain⟨ol,ot,ok,og,oval⟩:=o
 refine Gb λob w hS=>?_
 unfold encOp at hS
 simp only at hS
 have hLpos:0<L:=by omega
 repeat first|refine Gp ?_|refine Gw λw hS=>?_|refine Gb λb w hS=>?_
 (apply zd (qg ⟨ot,ok,og,oval⟩ k hk hk8) hS;exact Xp;clear hS)
 rintro v post ⟨rfl,rfl⟩ w hS
 (try simp only[app]at hS)
 have ho:opI ⟨ol,ot,ok,og,oval⟩ k L=⟨1+md ol L,(chOf ⟨ot,ok,og,oval⟩ k).table,(chOf ⟨ot,ok,og,oval⟩ k).key,(chOf ⟨ot,ok,og,oval⟩ k).gone,(chOf ⟨ot,ok,og,oval⟩ k).val⟩:=rfl
 rw[ho]at ht
 generalize chOf ⟨ot,ok,og,oval⟩ k=c at *
 obtain⟨ct,ck,cg,cv⟩:=c
 simp only at ht
 have hml:=md_lt ol L hLpos
 repeat first|refine Gp ?_|refine Gw λw hS=>?_|refine Gb λb w hS=>?_
 (apply zd (zV ol L hLpos (by omega)) hS;exact Xp;clear hS)
 (rintro v post ⟨rfl,rfl⟩ w hS;(try simp only[app]at hS);(repeat (first|refine Gp ?_|refine Gw λw hS=>?_|refine Gb λb w hS=>?_)))
 refine yD (n:=((t.ops.take i).map λo=>opI o k L).length) (xs:=(t.ops.take i).map λo=>opI o k L) (y:=⟨1+md ol L,ct,ck,cg,cv⟩) (enc:=encOp) hS Xr Xh encOp_len' (λx=>encOp_one x) rfl (by rw[List.length_map,List.length_take];omega) (by rw[List.length_map,List.length_take];omega) λu w hS=>?_
 have h1:=OwnSl.one hS
 repeat first|refine Gp ?_|refine Gw λw hS=>?_|refine Gb λb w hS=>?_
 refine⟨⟨i+1,u,rfl,by omega,by omega,?_⟩,by dsimp only;omega⟩
 rw[ht]
 exact SL.into (hS.snocL (x:=⟨1+md ol L,ct,ck,cg,cv⟩)) Xi
structure Up(k:PSink):Prop where
 off:k.d.off=false
 arm:k.d.arm=0
theorem PInv.of_s{n:Nat}{k:PSink}{j:Nat}{xs xs':List PItem}{m m':Option PItem}(h:PInv n k j xs m)(hs:SInv n k xs' m')(hl:xs'.length≤j):PInv n k j xs' m':=⟨hs,hl,h.g,h.d,h.ops,h.pl,h.plm,h.keep⟩
theorem PInv.mono{n:Nat}{k:PSink}{j j':Nat}{xs:List PItem}{m:Option PItem}(h:PInv n k j xs m)(hj:j≤j'):PInv n k j' xs m:=by
 have h1:=h.len
 have h2:=h.ops
 have h3:=h.pl
 exact⟨h.s,by omega,h.g.mono (by omega),h.d.mono (by omega),by omega,by omega,h.plm,h.keep⟩
theorem ftOf_keep(f:PFt):(ftOf f).keep≤9223372036854775807:=by
 have:=md_lt f.keep 300 (by decide)
 unfold ftOf
 split
 ·show (md f.keep 300:Int)≤_;omega
 ·show (0:Int)≤_;decide
theorem pushed{p:List PFt}{f:PFt}(hf:mayFt f=true)(hp:p.length<1024):pushFt p [f]=p++[f]:=by rw[pushFt_one,if_pos ⟨hf,hp⟩]
section
variable {W w:World} {l F:List Chunk}
theorem RDO.new{H:Heap}{xp:Nat}(hS:SL W (.pt xp [.slice none 0 0,.int .i64 0,.bool false,.int .i64 0] 29::l) w):SL W (.ob (RDO H xp s00)::l) w:=by
 have hS:SL W (.ob (OwnSl (.slice none 0 0) 61 3 0 [])::.pt xp [.slice none 0 0,.int .i64 0,.bool false,.int .i64 0] 29::l) w:=OwnSl.nil hS
 exact (RDO.iff (H:=H) (s:=s00)).2 ⟨Value.slice none 0 0,[],⟨rfl,λy hy=>by cases hy⟩,SL.into hS (t:=.pt xp [.slice none 0 0,.int .i64 0,.bool false,.int .i64 0] 29::.ob (OwnSl (.slice none 0 0) 61 3 0 [])::l) Xi⟩
end
def Ring(b cap:Nat)(L:List ByteArray):zG:=HEx λc:Nat=>HEx λfirst:Nat=>HEx λA:List ByteArray=>
 zT (A.length=cap∧0<cap∧cap≤64∧first<cap∧L.length≤cap∧∀i,i<L.length→A[(first+i) % cap]?=L[i]?)
 [.pt b [.slice (some ⟨c,0,none⟩) cap cap,.int .i64 first,.int .i64 L.length] 246,.pt c (A.map .string) 9]
theorem Ring.open{W w:World}{b cap:Nat}{L:List ByteArray}{l:List Chunk}(h:SL W (.ob (Ring b cap L)::l) w):∃(c first:Nat) (A:List ByteArray),
  (A.length=cap∧0<cap∧cap≤64∧first<cap∧L.length≤cap∧∀i,i<L.length→A[(first+i) % cap]?=L[i]?) ∧
  SL W (.pt b [.slice (some ⟨c,0,none⟩) cap cap,.int .i64 first,.int .i64 L.length] 246::.pt c (A.map .string) 9::l) w:=by
 simpa only[Ring,SL.ex,SL.fact,List.cons_append,List.nil_append] using h
theorem Ring.close{W w:World}{b c first cap:Nat}{L A:List ByteArray}{l:List Chunk}(hA:A.length=cap∧0<cap∧cap≤64∧first<cap∧L.length≤cap∧∀i,i<L.length→A[(first+i) % cap]?=L[i]?)
  (h:SL W (.pt b [.slice (some ⟨c,0,none⟩) cap cap,.int .i64 first,.int .i64 L.length] 246::.pt c (A.map .string) 9::l) w):SL W (.ob (Ring b cap L)::l) w:=by
 simp only[Ring,SL.ex,SL.fact,List.cons_append,List.nil_append]
 exact⟨c,first,A,hA,h⟩
theorem mod_inj{cap first i j:Nat}(hi:i<cap)(hj:j<cap)(h:(first+i) % cap=(first+j) % cap):i=j:=by
 have h1:=Nat.div_add_mod (first+i) cap
 have h2:=Nat.div_add_mod (first+j) cap
 rw[h]at h1
 rcases Nat.lt_trichotomy ((first+i) / cap) ((first+j) / cap) with hd|hd|hd
 ·have:=Nat.mul_le_mul_left cap hd
  simp only[Nat.succ_eq_add_one,Nat.mul_add,Nat.mul_one]at this;omega
 ·rw[hd]at h1;omega
 ·have:=Nat.mul_le_mul_left cap hd
  simp only[Nat.succ_eq_add_one,Nat.mul_add,Nat.mul_one]at this;omega
theorem ZA(b c cap first n i:Nat)(hc0:0<cap)(hcap:cap≤64)(hf:first<cap)(hi:i≤64):
  SP 201 [.pointer (some ⟨b,0,none⟩),.int .i64 i] [.pt b [.slice (some ⟨c,0,none⟩) cap cap,.int .i64 first,.int .i64 n] 246]
   (Gives (.int .i64 (((first+i) % cap:Nat):Int)) [.pt b [.slice (some ⟨c,0,none⟩) cap cap,.int .i64 first,.int .i64 n] 246]):=by
 intro W F w hS;apply vc201;unfold Vc201;(try simp only[app]at hS)
 repeat first|refine Gp ?_|refine Gw λw hS=>?_|refine Gb λb w hS=>?_
 (exact⟨_,⟨rfl,rfl⟩,SL.into hS Xi⟩)
theorem ZX(b cap:Nat)(L:List ByteArray):SP 59 [.pointer (some ⟨b,0,none⟩)] [.ob (Ring b cap L)] (Gives (.int .i64 L.length) [.ob (Ring b cap L)]):=by
 intro W F w hS;apply vc59;unfold Vc59;(try simp only[app]at hS)
 obtain⟨c,first,A,hA,hS⟩:=Ring.open hS
 repeat first|refine Gp ?_|refine Gw λw hS=>?_|refine Gb λb w hS=>?_
 have hS:=Ring.close hA hS
 (exact⟨_,⟨rfl,rfl⟩,SL.into hS Xi⟩)
theorem QY(b cap:Nat)(L:List ByteArray):SP 142 [.pointer (some ⟨b,0,none⟩)] [.ob (Ring b cap L)] (Gives (.int .i64 cap) [.ob (Ring b cap L)]):=by
 intro W F w hS;apply vc142;unfold Vc142;(try simp only[app]at hS)
 obtain⟨c,first,A,hA,hS⟩:=Ring.open hS
 repeat first|refine Gp ?_|refine Gw λw hS=>?_|refine Gb λb w hS=>?_
 have hS:=Ring.close hA hS
 (exact⟨_,⟨rfl,rfl⟩,SL.into hS Xi⟩)
theorem QE(b cap:Nat)(L:List ByteArray)(s:ByteArray):SP 143 [.pointer (some ⟨b,0,none⟩),.string s] [.ob (Ring b cap L)]
  (Gives (.bool (decide (L.length<cap))) [.ob (Ring b cap (if L.length<cap then L++[s] else L))]):=by
 intro W F w hS;apply vc143;unfold Vc143;(try simp only[app]at hS)
 obtain⟨c,first,A,hA,hS⟩:=Ring.open hS
 obtain⟨h1,h2,h3,h4,h5,h6⟩:=hA
 repeat first|refine Gp ?_|refine Gw λw hS=>?_|refine Gb λb w hS=>?_
 refine ze (λh=>?_) (λh=>?_)
 ·have hlt:¬L.length<cap:=by omega
  simp only[hlt,if_false,decide_false]
  have hS:=Ring.close ⟨h1,h2,h3,h4,h5,h6⟩ hS
  (exact⟨_,⟨rfl,rfl⟩,SL.into hS Xi⟩)
 ·have hlt:L.length<cap:=by omega
  have hk:(first+L.length) % cap<cap:=Nat.mod_lt _ h2
  simp only[hlt,if_true,decide_true]
  repeat first|refine Gp ?_|refine Gw λw hS=>?_|refine Gb λb w hS=>?_
  (apply zd (ZA b c cap first L.length L.length h2 h3 h4 (by omega)) hS;exact Xp;clear hS)
  rintro v post ⟨rfl,rfl⟩ w hS
  (try simp only[app]at hS)
  repeat first|refine Gp ?_|refine Gw λw hS=>?_|refine Gb λb w hS=>?_
  refine zC hk ?_
  refine yW hS (cs:=A.map .string) Xu (u:=.string (A[(first+L.length) % cap]'(by omega))) ?_ rfl ?_
  ·simp[h1,hk]
  clear hS;intro w hS
  repeat first|refine Gp ?_|refine Gw λw hS=>?_|refine Gb λb w hS=>?_
  have hS:=Ring.close (L:=L++[s]) (A:=A.set ((first+L.length) % cap) s) (b:=b) (c:=c) (first:=first) (cap:=cap) ⟨by simp[h1],h2,h3,h4,by simp;omega,λi hi=>?_⟩ (l:=F) (by simpa [List.map_set] using hS)
  ·(exact⟨_,⟨rfl,rfl⟩,SL.into hS Xi⟩)
  ·by_cases he:i=L.length
   ·subst he;simp[h1,hk]
   ·have hi':i<L.length:=by simp at hi;omega
    rw[List.getElem?_set_ne (λe=>he (mod_inj (by omega) hlt e.symm)),h6 i hi',List.getElem?_append_left hi']
theorem new_ok(n:Nat)(h1:1≤n)(h2:n≤64):SP 193 [.int .i64 n] [] (λv post=>∃b:Nat,v= .tuple #[.pointer (some ⟨b,0,none⟩),.int .i64 0]∧post=[.ob (Ring b n [])]):=by
 intro W F w hS;apply vc193;unfold Vc193;(try simp only[app]at hS)
 repeat first|refine Gp ?_|refine Gw λw hS=>?_|refine Gb λb w hS=>?_
 refine ze (λh=>by omega) (λ_=>?_)
 repeat first|refine Gp ?_|refine Gw λw hS=>?_|refine Gb λb w hS=>?_
 refine ze (λh=>by omega) (λ_=>?_)
 refine s_mk hS (Nat.le_refl _) (by omega) (by omega) ?_
 clear hS;intro c w hS
 repeat first|refine Gp ?_|refine Gw λw hS=>?_|refine Gb λb w hS=>?_
 refine⟨_,rfl,zJ hS ?_⟩
 clear hS;intro b w hS
 have hS:=Ring.close (A:=List.replicate n ⟨#[]⟩) (L:=[]) (first:=0) (cap:=n) (b:=b) (c:=c) (l:=F) ⟨by simp,by omega,by omega,by omega,by simp,λi hi=>by simp at hi⟩ (by simpa [zrow] using hS)
 exact⟨_,⟨b,rfl,rfl⟩,hS⟩
theorem peek_no(b cap:Nat):SP 268 [.pointer (some ⟨b,0,none⟩)] [.ob (Ring b cap [])] (Gives (.tuple #[.string ⟨#[]⟩,.bool false]) [.ob (Ring b cap [])]):=by
 intro W F w hS;apply vc268;unfold Vc268;(try simp only[app]at hS)
 obtain⟨c,first,A,hA,hS⟩:=Ring.open hS
 repeat first|refine Gp ?_|refine Gw λw hS=>?_|refine Gb λb w hS=>?_
 refine ze (λh=>?_) (λh=>absurd rfl h)
 have hS:=Ring.close hA hS
 (exact⟨_,⟨rfl,rfl⟩,SL.into hS Xi⟩)
theorem head_get{cap first:Nat}{s:ByteArray}{L A:List ByteArray}(h4:first<cap)(h6:∀i,i<(s::L).length→A[(first+i) % cap]?=(s::L)[i]?):(A.map Value.string)[first]?=some (.string s):=by
 have h0:=h6 0 (by simp)
 simp only[Nat.add_zero,Nat.mod_eq_of_lt h4,List.getElem?_cons_zero]at h0
 simp[h0]
theorem peek_yes(b cap:Nat)(s:ByteArray)(L:List ByteArray):SP 268 [.pointer (some ⟨b,0,none⟩)] [.ob (Ring b cap (s::L))] (Gives (.tuple #[.string s,.bool true]) [.ob (Ring b cap (s::L))]):=by
 intro W F w hS;apply vc268;unfold Vc268;(try simp only[app]at hS)
 obtain⟨c,first,A,hA,hS⟩:=Ring.open hS
 obtain⟨h1,h2,h3,h4,h5,h6⟩:=hA
 repeat first|refine Gp ?_|refine Gw λw hS=>?_|refine Gb λb w hS=>?_
 refine ze (λh=>by simp at h;omega) (λh=>?_)
 repeat first|refine Gp ?_|refine Gw λw hS=>?_|refine Gb λb w hS=>?_
 refine zC h4 ?_
 refine zS hS (cs:=A.map .string) (.tl .hd) (v:=.string s) (by simpa using head_get h4 h6) ?_
 have hS:=Ring.close ⟨h1,h2,h3,h4,h5,h6⟩ hS
 (exact⟨_,⟨rfl,rfl⟩,SL.into hS Xi⟩)
theorem pop_no(b cap:Nat):SP 237 [.pointer (some ⟨b,0,none⟩)] [.ob (Ring b cap [])] (Gives (.tuple #[.string ⟨#[]⟩,.bool false]) [.ob (Ring b cap [])]):=by
 intro W F w hS;apply vc237;unfold Vc237;(try simp only[app]at hS)
 (apply zd (peek_no b cap) hS;exact Xp;clear hS)
 rintro v post ⟨rfl,rfl⟩ w hS
 (try simp only[app]at hS)
 repeat first|refine Gp ?_|refine Gw λw hS=>?_|refine Gb λb w hS=>?_
 (exact⟨_,⟨rfl,rfl⟩,SL.into hS Xi⟩)
theorem pop_yes(b cap:Nat)(s:ByteArray)(L:List ByteArray):SP 237 [.pointer (some ⟨b,0,none⟩)] [.ob (Ring b cap (s::L))] (Gives (.tuple #[.string s,.bool true]) [.ob (Ring b cap L)]):=by
 intro W F w hS;apply vc237;unfold Vc237;(try simp only[app]at hS)
 (apply zd (peek_yes b cap s L) hS;exact Xp;clear hS)
 rintro v post ⟨rfl,rfl⟩ w hS
 (try simp only[app]at hS)
 obtain⟨c,first,A,hA,hS⟩:=Ring.open hS
 obtain⟨h1,h2,h3,h4,h5,h6⟩:=hA
 simp only[List.length_cons]at hS h5
 repeat first|refine Gp ?_|refine Gw λw hS=>?_|refine Gb λb w hS=>?_
 refine zC h4 ?_
 refine yW hS (cs:=A.map .string) Xu (u:=.string s) (by simpa using head_get h4 h6) rfl ?_
 clear hS;intro w hS
 repeat first|refine Gp ?_|refine Gw λw hS=>?_|refine Gb λb w hS=>?_
 (apply zd (ZA b c cap first (L.length+1) 1 h2 h3 h4 (by omega)) hS;exact Xp;clear hS)
 rintro v post ⟨rfl,rfl⟩ w hS
 (try simp only[app]at hS)
 repeat first|refine Gp ?_|refine Gw λw hS=>?_|refine Gb λb w hS=>?_
 have hS:=Ring.close (L:=L) (A:=A.set first ⟨#[]⟩) (b:=b) (c:=c) (first:=(first+1) % cap) (cap:=cap) (l:=F) ⟨by simp[h1],h2,h3,Nat.mod_lt _ h2,by omega,λi hi=>?_⟩ (by simpa [List.map_set] using hS)
 ·(exact⟨_,⟨rfl,rfl⟩,SL.into hS Xi⟩)
 ·have e1:((first+1) % cap+i) % cap=(first+(i+1)) % cap:=by
   rw[Nat.mod_add_mod];congr 1;omega
  have e2:first≠(first+(i+1)) % cap:=λe=>by
   have:=mod_inj (cap:=cap) (first:=first) (i:=0) (j:=i+1) h2 (by omega) (by rw[Nat.add_zero,Nat.mod_eq_of_lt h4];exact e)
   omega
  rw[e1,List.getElem?_set_ne e2,h6 (i+1) (by simp;omega),List.getElem?_cons_succ]
def Gate(g b cap out:Nat)(L:List ByteArray):zG:=zT (L.length+out≤cap∧cap≤64) [.pt g [.pointer (some ⟨b,0,none⟩),.int .i64 out] 129,.ob (Ring b cap L)]
theorem Gate.open{W w:World}{g b cap out:Nat}{L:List ByteArray}{l:List Chunk}(h:SL W (.ob (Gate g b cap out L)::l) w):(L.length+out≤cap∧cap≤64) ∧
  SL W (.pt g [.pointer (some ⟨b,0,none⟩),.int .i64 out] 129::.ob (Ring b cap L)::l) w:=by
 simpa only[Gate,SL.fact,List.cons_append,List.nil_append] using h
theorem Gate.close{W w:World}{g b cap out:Nat}{L:List ByteArray}{l:List Chunk}(hA:L.length+out≤cap∧cap≤64)
  (h:SL W (.pt g [.pointer (some ⟨b,0,none⟩),.int .i64 out] 129::.ob (Ring b cap L)::l) w):SL W (.ob (Gate g b cap out L)::l) w:=by
 simp only[Gate,SL.fact,List.cons_append,List.nil_append]
 exact⟨hA,h⟩
theorem gnew_ok(n:Nat)(h1:1≤n)(h2:n≤64):SP 129 [.int .i64 n] [] (λv post=>∃g b:Nat,v= .tuple #[.pointer (some ⟨g,0,none⟩),.int .i64 0]∧post=[.ob (Gate g b n 0 [])]):=by
 intro W F w hS;apply vc129;unfold Vc129;(try simp only[app]at hS)
 (apply zd (new_ok n h1 h2) hS;exact Xp;clear hS)
 rintro v post ⟨b,rfl,rfl⟩ w hS
 (try simp only[app]at hS)
 repeat first|refine Gp ?_|refine Gw λw hS=>?_|refine Gb λb w hS=>?_
 refine ze (λh1=>absurd rfl h1) (λh1=>?_)
 repeat first|refine Gp ?_|refine Gw λw hS=>?_|refine Gb λb w hS=>?_
 refine⟨_,rfl,zJ hS ?_⟩
 clear hS;intro g w hS
 have hS:=Gate.close (out:=0) ⟨by simp,h2⟩ hS
 exact⟨_,⟨g,b,rfl,rfl⟩,hS⟩
theorem yq(g b cap out:Nat)(L:List ByteArray):SP 61 [.pointer (some ⟨g,0,none⟩)] [.ob (Gate g b cap out L)] (Gives (.int .i64 ((cap-L.length-out:Nat):Int)) [.ob (Gate g b cap out L)]):=by
 intro W F w hS;apply vc61;unfold Vc61;(try simp only[app]at hS)
 obtain⟨hA,hS⟩:=Gate.open hS
 repeat first|refine Gp ?_|refine Gw λw hS=>?_|refine Gb λb w hS=>?_
 (apply zd (QY b cap L) hS;exact Xp;clear hS)
 rintro v post ⟨rfl,rfl⟩ w hS
 (try simp only[app]at hS)
 repeat first|refine Gp ?_|refine Gw λw hS=>?_|refine Gb λb w hS=>?_
 (apply zd (ZX b cap L) hS;exact Xp;clear hS)
 rintro v post ⟨rfl,rfl⟩ w hS
 (try simp only[app]at hS)
 repeat first|refine Gp ?_|refine Gw λw hS=>?_|refine Gb λb w hS=>?_
 have hS:=Gate.close (l:=F) hA (by exact SL.into hS Xi)
 rw[show (cap:Int)-(L.length:Int)-(out:Int)=((cap-L.length-out:Nat):Int) by omega]
 (exact⟨_,⟨rfl,rfl⟩,SL.into hS Xi⟩)
theorem gpush_no(g b cap out:Nat)(L:List ByteArray)(s:ByteArray)(h:L.length+out=cap):SP 62 [.pointer (some ⟨g,0,none⟩),.string s] [.ob (Gate g b cap out L)] (Gives (.bool false) [.ob (Gate g b cap out L)]):=by
 intro W F w hS;apply vc62;unfold Vc62;(try simp only[app]at hS)
 (apply zd (yq g b cap out L) hS;exact Xp;clear hS)
 rintro v post ⟨rfl,rfl⟩ w hS
 (try simp only[app]at hS)
 repeat first|refine Gp ?_|refine Gw λw hS=>?_|refine Gb λb w hS=>?_
 refine ze (λh1=>by omega) (λh1=>?_)
 (exact⟨_,⟨rfl,rfl⟩,SL.into hS Xi⟩)
theorem gpush_yes(g b cap out:Nat)(L:List ByteArray)(s:ByteArray)(h:L.length+out<cap):SP 62 [.pointer (some ⟨g,0,none⟩),.string s] [.ob (Gate g b cap out L)] (Gives (.bool true) [.ob (Gate g b cap out (L++[s]))]):=by
 intro W F w hS;apply vc62;unfold Vc62;(try simp only[app]at hS)
 (apply zd (yq g b cap out L) hS;exact Xp;clear hS)
 rintro v post ⟨rfl,rfl⟩ w hS
 (try simp only[app]at hS)
 repeat first|refine Gp ?_|refine Gw λw hS=>?_|refine Gb λb w hS=>?_
 refine ze (λh1=>?_) (λh1=>by omega)
 obtain⟨hA,hS⟩:=Gate.open hS
 repeat first|refine Gp ?_|refine Gw λw hS=>?_|refine Gb λb w hS=>?_
 (apply zd (QE b cap L s) hS;exact Xp;clear hS)
 rintro v post ⟨rfl,rfl⟩ w hS
 (try simp only[app]at hS)
 have hlt:L.length<cap:=by omega
 simp only[hlt,if_true]at hS
 simp only[hlt,decide_true]
 have hS:=Gate.close (l:=F) (g:=g) (b:=b) (out:=out) (cap:=cap) (L:=L++[s]) ⟨by simp;omega,hA.2⟩ (by exact SL.into hS Xi)
 (exact⟨_,⟨rfl,rfl⟩,SL.into hS Xi⟩)
theorem gpop_no(g b cap out:Nat):SP 198 [.pointer (some ⟨g,0,none⟩)] [.ob (Gate g b cap out [])] (Gives (.tuple #[.string ⟨#[]⟩,.bool false]) [.ob (Gate g b cap out [])]):=by
 intro W F w hS;apply vc198;unfold Vc198;(try simp only[app]at hS)
 obtain⟨hA,hS⟩:=Gate.open hS
 repeat first|refine Gp ?_|refine Gw λw hS=>?_|refine Gb λb w hS=>?_
 (apply zd (pop_no b cap) hS;exact Xp;clear hS)
 rintro v post ⟨rfl,rfl⟩ w hS
 (try simp only[app]at hS)
 repeat first|refine Gp ?_|refine Gw λw hS=>?_|refine Gb λb w hS=>?_
 have hS:=Gate.close (l:=F) hA (by exact SL.into hS Xi)
 (exact⟨_,⟨rfl,rfl⟩,SL.into hS Xi⟩)
theorem gpop_yes(g b cap out:Nat)(s:ByteArray)(L:List ByteArray):SP 198 [.pointer (some ⟨g,0,none⟩)] [.ob (Gate g b cap out (s::L))] (Gives (.tuple #[.string s,.bool true]) [.ob (Gate g b cap (out+1) L)]):=by
 intro W F w hS;apply vc198;unfold Vc198;(try simp only[app]at hS)
 obtain⟨hA,hS⟩:=Gate.open hS
 simp only[List.length_cons]at hA
 repeat first|refine Gp ?_|refine Gw λw hS=>?_|refine Gb λb w hS=>?_
 (apply zd (pop_yes b cap s L) hS;exact Xp;clear hS)
 rintro v post ⟨rfl,rfl⟩ w hS
 (try simp only[app]at hS)
 repeat first|refine Gp ?_|refine Gw λw hS=>?_|refine Gb λb w hS=>?_
 have hS:=Gate.close (l:=F) (g:=g) (b:=b) (out:=out+1) (cap:=cap) (L:=L) ⟨by omega,hA.2⟩ (by exact SL.into hS Xi)
 (exact⟨_,⟨rfl,rfl⟩,SL.into hS Xi⟩)
def giveN(n:Int)(out:Nat):Nat:=(min (max n 0) (out:Int)).toNat
theorem giveN_eq(n:Int)(out:Nat):min (max n 0) (out:Int)=(giveN n out:Int):=by unfold giveN;omega
theorem giveN_le(n:Int)(out:Nat):giveN n out≤out:=by unfold giveN;omega
theorem qD(n:Int)(g b cap out:Nat)(L:List ByteArray):SP 137 [.pointer (some ⟨g,0,none⟩),.int .i64 n] [.ob (Gate g b cap out L)] (Gives (.int .i64 (giveN n out:Int)) [.ob (Gate g b cap (out-giveN n out) L)]):=by
 intro W F w hS;apply vc137;unfold Vc137;(try simp only[app]at hS)
 obtain⟨hA,hS⟩:=Gate.open hS
 have hg:=giveN_le n out
 repeat first|refine Gp ?_|refine Gw λw hS=>?_|refine Gb λb w hS=>?_
 rw[giveN_eq]at hS ⊢
 rw[show (out:Int)-(giveN n out:Int)=((out-giveN n out:Nat):Int) by omega]at hS
 have hS:=Gate.close (l:=F) (g:=g) (b:=b) (cap:=cap) (L:=L) (out:=out-giveN n out) ⟨by omega,hA.2⟩ (by exact SL.into hS Xi)
 (exact⟨_,⟨rfl,rfl⟩,SL.into hS Xi⟩)
theorem QJ(g b cap out:Nat)(L:List ByteArray):SP 60 [.pointer (some ⟨g,0,none⟩)] [.ob (Gate g b cap out L)] (Gives (.int .i64 out) [.ob (Gate g b cap out L)]):=by
 intro W F w hS;apply vc60;unfold Vc60;(try simp only[app]at hS)
 obtain⟨hA,hS⟩:=Gate.open hS
 repeat first|refine Gp ?_|refine Gw λw hS=>?_|refine Gb λb w hS=>?_
 have hS:=Gate.close (l:=F) hA (by exact SL.into hS Xi)
 (exact⟨_,⟨rfl,rfl⟩,SL.into hS Xi⟩)
abbrev RG(g cap cr out:Nat)(v:Value):Chunk:=.pt g [.int .i64 cap,.int .i64 cr,.int .i64 out,v] 249
theorem rgnew_ok(n:Nat)(h1:1≤n)(h2:n≤64):SP 131 [.int .i64 n] [] (λv post=>∃b:Nat,v= .pointer (some ⟨b,0,none⟩)∧post=[RG b n n 0 (.slice none 0 0)]):=by
 intro W F w hS;apply vc131;unfold Vc131;(try simp only[app]at hS)
 repeat first|refine Gp ?_|refine Gw λw hS=>?_|refine Gb λb w hS=>?_
 refine ze (λh=>by omega) (λ_=>?_)
 repeat first|refine Gp ?_|refine Gw λw hS=>?_|refine Gb λb w hS=>?_
 refine ze (λh=>by omega) (λ_=>?_)
 repeat first|refine Gp ?_|refine Gw λw hS=>?_|refine Gb λb w hS=>?_
 refine⟨_,rfl,zJ hS ?_⟩
 clear hS;intro g w hS
 exact⟨_,⟨g,rfl,rfl⟩,hS⟩
theorem rpush_no(g cap out:Nat)(v:Value)(s:ByteArray):SP 133 [.pointer (some ⟨g,0,none⟩),.string s] [RG g cap 0 out v] (Gives (.bool false) [RG g cap 0 out v]):=by
 unfold RG
 intro W F w hS;apply vc133;unfold Vc133;(try simp only[app]at hS)
 repeat first|refine Gp ?_|refine Gw λw hS=>?_|refine Gb λb w hS=>?_
 refine ze (λh1=>?_) (λh1=>absurd rfl h1)
 (exact⟨_,⟨rfl,rfl⟩,SL.into hS Xi⟩)
theorem rpush_yes(H:Heap)(g cap cr out:Nat)(v:Value)(L:List ByteArray)(s:ByteArray)(hv:RdSl H 1 v L.length (L.map .string))(hl:L.length≤64)(hcr:cr≤64):
  SP 133 [.pointer (some ⟨g,0,none⟩),.string s] [.mem H,RG g cap (cr+1) out v]
   (λu post=>∃H' v',u= .bool true∧H.le H'∧RdSl H' 1 v' (L++[s]).length ((L++[s]).map .string)∧post=[.mem H',RG g cap cr out v']):=by
 unfold RG
 intro W F w hS;apply vc133;unfold Vc133;(try simp only[app]at hS)
 repeat first|refine Gp ?_|refine Gw λw hS=>?_|refine Gb λb w hS=>?_
 refine ze (λh1=>by omega) (λh1=>?_)
 repeat first|refine Gp ?_|refine Gw λw hS=>?_|refine Gb λb w hS=>?_
 rw[show (((cr+1:Nat):Int)-1)=(cr:Int) by omega]at hS
 have hS:=OwnSl.full (n:=0) (sz:=1) rfl hS
 repeat first|refine Gp ?_|refine Gw λw hS=>?_|refine Gb λb w hS=>?_
 refine zw hS .hd (src_rd hS (.tl .hd) hv) (by simp) rfl (by simp[Value.oneCell']) (by omega) (by omega) ?_
 clear hS;intro v1 w hS
 repeat first|refine Gp ?_|refine Gw λw hS=>?_|refine Gb λb w hS=>?_
 refine zw hS (.tl .hd) (src_pt0 (cs:=[.string s]) hS .hd rfl) rfl rfl (by simp[Value.oneCell']) (by omega) (by omega) ?_
 clear hS;intro v2 w hS
 have hS:=hS.take (p:=[.mem H,.ob _]) (.cons (.tl (.tl .hd)) (.cons .hd .nil))
 obtain⟨H',h1,h2,hS⟩:=OwnSl.freeze hS
 have o1:=h2.one
 repeat first|refine Gp ?_|refine Gw λw hS=>?_|refine Gb λb w hS=>?_
 exact⟨_,⟨H',v2,rfl,h1,by simpa using h2,rfl⟩,SL.into hS Xi⟩
theorem rpop_yes(g cap cr out:Nat)(v:Value)(H:Heap)(s:ByteArray)(L:List ByteArray)(hv:RdSl H 1 v (s::L).length ((s::L).map .string))(ho:out≤64):SP 145 [.pointer (some ⟨g,0,none⟩)] [.mem H,RG g cap cr out v]
  (λu post=>∃v',u= .tuple #[.string s,.bool true]∧RdSl H 1 v' L.length (L.map .string)∧post=[.mem H,RG g cap cr (out+1) v']):=by
 unfold RG
 intro W F w hS;apply vc145;unfold Vc145;(try simp only[app]at hS)
 repeat first|refine Gp ?_|refine Gw λw hS=>?_|refine Gb λb w hS=>?_
 refine zq hv ?_
 repeat first|refine Gp ?_|refine Gw λw hS=>?_|refine Gb λb w hS=>?_
 refine ze (λh1=>by simp at h1;omega) (λh1=>?_)
 repeat first|refine Gp ?_|refine Gw λw hS=>?_|refine Gb λb w hS=>?_
 refine ZL (j:=0) hv (by simp) (λb o hb=>Qj hS .hd (hb 0 (.string s) (by omega) rfl) ?_)
 repeat first|refine Gp ?_|refine Gw λw hS=>?_|refine Gb λb w hS=>?_
 refine QX (k:=1) hv (by simp) (λv' hv'=>?_)
 have o1:=hv'.one
 repeat first|refine Gp ?_|refine Gw λw hS=>?_|refine Gb λb w hS=>?_
 exact⟨_,⟨v',rfl,by simpa using hv',rfl⟩,SL.into hS Xi⟩
theorem qW(n:Int)(g cap cr out:Nat)(v:Value)(h:cr+out≤64):SP 147 [.pointer (some ⟨g,0,none⟩),.int .i64 n] [RG g cap cr out v] (Gives (.int .i64 (giveN n out:Int)) [RG g cap (cr+giveN n out) (out-giveN n out) v]):=by
 unfold RG
 intro W F w hS;apply vc147;unfold Vc147;(try simp only[app]at hS)
 have hg:=giveN_le n out
 have e:max 0 (min n (out:Int))=(giveN n out:Int):=by unfold giveN;omega
 repeat first|refine Gp ?_|refine Gw λw hS=>?_|refine Gb λb w hS=>?_
 rw[e]at hS ⊢
 rw[show (out:Int)-(giveN n out:Int)=((out-giveN n out:Nat):Int) by omega,show (cr:Int)+(giveN n out:Int)=((cr+giveN n out:Nat):Int) by omega]at hS
 (exact⟨_,⟨rfl,rfl⟩,SL.into hS Xi⟩)
abbrev MayB(b m j:Int):Prop:=1≤b∧b≤1073741824∧b≤m∧m≤1073741824∧0≤j∧j≤1073741824
def dlyN(k:Nat)(b m:Int):Int:=min (b*2 ^ k) m
def dly(k b m:Int):Int:=if MayB b m 0 then dlyN k.toNat b m else 0
def waitB(k b m j draw:Int):Int:=if MayB b m j then dly k b m+max draw 0 % (j+1) else 0
theorem pow_mono(b:Int)(hb:0≤b){i k:Nat}(h:i≤k):b*2 ^ i≤b*2 ^ k:=
 Int.mul_le_mul_of_nonneg_left (by
  have:=Nat.pow_le_pow_right (by decide:0<2) h
  have h1:((2:Int) ^ i)=((2 ^ i:Nat):Int):=by simp
  have h2:((2:Int) ^ k)=((2 ^ k:Nat):Int):=by simp
  rw[h1,h2];omega) hb
theorem dlyN_big{k:Nat}{b m:Int}(hb:1≤b){i:Nat}(hi:i≤k)(h:m≤b*2 ^ i):dlyN k b m=m:=by
 have:=pow_mono b (by omega) hi
 unfold dlyN
 exact Int.min_eq_right (by omega)
theorem Zr(b m j:Int):SP 194 [.int .i64 b,.int .i64 m,.int .i64 j] [] (Gives (.bool (decide (MayB b m j))) []):=by
 intro W F w hS;apply vc194;unfold Vc194;(try simp only[app]at hS)
 have hF:∀{w:World},¬MayB b m j→SL W F w→∃post,Gives (.bool (decide (MayB b m j))) [] (.bool false) post∧SL W (app post F) w:=λh hS=>⟨_,⟨by rw[decide_eq_false h],rfl⟩,hS⟩
 (repeat (first|refine Gp ?_|refine Gw λw hS=>?_|refine ze (λ_=>hF (by omega) hS) (λ_=>?_)|refine ze (λ_=>?_) (λ_=>hF (by omega) hS)))
 have e:decide (j≤1073741824)=decide (MayB b m j):=by rw[decide_eq_decide];omega
 rw[e]
 exact⟨_,⟨rfl,rfl⟩,hS⟩
theorem ZQ(b m j:Int):SP 140 [.int .i64 b,.int .i64 m,.int .i64 j] [] (Gives (.bool (decide (MayB b m j))) []):=by
 intro W F w hS;apply vc140;unfold Vc140;(try simp only[app]at hS)
 have hF:∀{w:World},¬MayB b m j→SL W F w→∃post,Gives (.bool (decide (MayB b m j))) [] (.bool false) post∧SL W (app post F) w:=λh hS=>⟨_,⟨by rw[decide_eq_false h],rfl⟩,hS⟩
 (repeat (first|refine Gp ?_|refine Gw λw hS=>?_|refine ze (λ_=>hF (by omega) hS) (λ_=>?_)|refine ze (λ_=>?_) (λ_=>hF (by omega) hS)))
 have e:decide (j≤1073741824)=decide (MayB b m j):=by rw[decide_eq_decide];omega
 rw[e]
 exact⟨_,⟨rfl,rfl⟩,hS⟩
theorem YN(k b m:Int):SP 56 [.int .i64 k,.int .i64 b,.int .i64 m] [] (Gives (.int .i64 (dly k b m)) []):=by
 intro W F w hS;apply vc56;unfold Vc56;(try simp only[app]at hS)
 (apply zd (ZQ b m 0) hS;exact Xp;clear hS)
 rintro v post ⟨rfl,rfl⟩ w hS
 (try simp only[app]at hS)
 unfold dly
 by_cases hm:MayB b m 0
 ·rw[if_pos hm,decide_eq_true hm]
  obtain⟨h1,h2,h3,h4,_⟩:=hm
  repeat first|refine Gp ?_|refine Gw λw hS=>?_|refine Gb λb w hS=>?_
  refine zr ?_
  refine⟨λus w=>∃(i:Nat) (d:Int),us=[.int .i64 d,.int .i64 i]∧d=b*2 ^ i∧i≤k.toNat∧b≤d∧d≤2*m∧SL W F w,
   λus _=>match us with|[_,.int _ i]=>(k-i).toNat|_=>0,⟨0,b,rfl,by simp,by omega,by omega,by omega,hS⟩,?_⟩
  clear hS
  rintro v7 v8 w ⟨i,d,hus,hd,hi,hbd,hdm,hS⟩
  cases hus
  repeat first|refine Gp ?_|refine Gw λw hS=>?_|refine Gb λb w hS=>?_
  refine ze (λhk=>?_) (λhk=>?_)
  ·repeat first|refine Gp ?_|refine Gw λw hS=>?_|refine Gb λb w hS=>?_
   refine ze (λhl=>?_) (λhl=>?_)
   ·repeat first|refine Gp ?_|refine Gw λw hS=>?_|refine Gb λb w hS=>?_
    have h7:(1:Int)*2 ^ i≤b*2 ^ i:=Int.mul_le_mul_of_nonneg_right h1 (Int.le_of_lt (Int.pow_pos (by decide)))
    have h8:(i:Int)<2 ^ i:=by
     have h9:=@Nat.lt_two_pow_self i
     have e:((2:Int) ^ i)=((2 ^ i:Nat):Int):=by simp
     rw[e];omega
    refine Q2 (by omega) ?_
    repeat first|refine Gp ?_|refine Gw λw hS=>?_|refine Gb λb w hS=>?_
    exact⟨⟨i+1,2*d,rfl,by rw[Int.pow_succ,← Int.mul_assoc,← hd];omega,by omega,by omega,by omega,hS⟩,by dsimp only;omega⟩
   ·repeat first|refine Gp ?_|refine Gw λw hS=>?_|refine Gb λb w hS=>?_
    rw[dlyN_big h1 hi (by omega),Int.min_eq_right (by omega)]
    exact⟨_,⟨rfl,rfl⟩,hS⟩
  ·repeat first|refine Gp ?_|refine Gw λw hS=>?_|refine Gb λb w hS=>?_
   have e:k.toNat=i:=by omega
   unfold dlyN
   rw[e,← hd]
   exact⟨_,⟨rfl,rfl⟩,hS⟩
 ·rw[if_neg hm,decide_eq_false hm]
  repeat first|refine Gp ?_|refine Gw λw hS=>?_|refine Gb λb w hS=>?_
  refine zy ?_
  exact⟨_,⟨rfl,rfl⟩,hS⟩
theorem dlyN_le{k:Nat}{b m:Int}:dlyN k b m≤m:=Int.min_le_right _ _
theorem dly_in{k b m:Int}:0≤dly k b m∧dly k b m≤1073741824:=by
 unfold dly
 split
 ·rename_i h
  have h1:=@dlyN_le k.toNat b m
  have h2:=pow_mono b (by omega) (Nat.zero_le k.toNat)
  rw[Int.pow_zero,Int.mul_one]at h2
  refine⟨?_,by omega⟩
  unfold dlyN
  exact Int.le_min.2 ⟨by omega,by omega⟩
 ·omega
theorem s_shl{a:Int}{n:Nat}{K:Value→Prop}(hn:n≤30)(hr : -9223372036854775808≤a*2 ^ n∧a*2 ^ n≤9223372036854775807)(h:K (.int .i64 (a*2 ^ n))):zc .shl (.int .i64 a) (.int .i64 (n:Int)) K:=by
 refine⟨.int .i64 (a*2 ^ n),?_,h⟩
 have hmin:min n 64=n:=Nat.min_eq_left (by omega)
 show (if ((n:Nat):Int)<0 then none else some (Value.int .i64 (IntKind.i64.wrap (a*2 ^ (min ((n:Nat):Int).toNat 64)))))=_
 rw[if_neg (by omega),Int.toNat_natCast,hmin,IntWalk.i64_in _ hr]
theorem s_shr{a:Int}{n:Nat}{K:Value→Prop}(hn:n≤30)(h:K (.int .i64 (a / 2 ^ n))):zc .shr (.int .i64 a) (.int .i64 (n:Int)) K:=by
 refine⟨.int .i64 (a / 2 ^ n),?_,h⟩
 have hmin:min n 64=n:=Nat.min_eq_left (by omega)
 have hp:(0:Int)<2 ^ n:=Int.pow_pos (by decide)
 show (if ((n:Nat):Int)<0 then none else some (Value.int .i64 (a.fdiv (2 ^ (min ((n:Nat):Int).toNat 64)))))=_
 rw[if_neg (by omega),Int.toNat_natCast,hmin,Int.fdiv_eq_ediv_of_nonneg _ (by omega)]
theorem qP(k b m:Int):SP 269 [.int .i64 k,.int .i64 b,.int .i64 m] [] (Gives (.int .i64 (dly k b m)) []):=by
 intro W F w hS;apply vc269;unfold Vc269;(try simp only[app]at hS)
 repeat first|refine Gp ?_|refine Gw λw hS=>?_|refine Gb λb w hS=>?_
 (apply zd (Zr b m 0) hS;exact Xp;clear hS)
 rintro v post ⟨rfl,rfl⟩ w hS
 (try simp only[app]at hS)
 unfold dly
 by_cases hm:MayB b m 0
 ·rw[if_pos hm,decide_eq_true hm]
  obtain⟨h1,h2,h3,h4,_⟩:=hm
  repeat first|refine Gp ?_|refine Gw λw hS=>?_|refine Gb λb w hS=>?_
  refine zr ?_
  repeat first|refine Gp ?_|refine Gw λw hS=>?_|refine Gb λb w hS=>?_
  have ek:max k 0=(k.toNat:Int):=by omega
  rw[ek]
  generalize k.toNat=n at *
  refine ze (λhk=>?_) (λhk=>?_)
  ·have h5:(1073741824:Int)≤b*2 ^ 30:=by
    have:(1:Int)*2 ^ 30≤b*2 ^ 30:=Int.mul_le_mul_of_nonneg_right h1 (by decide)
    omega
   rw[dlyN_big h1 (i:=30) (by omega) (by omega)]
   exact⟨_,⟨rfl,rfl⟩,hS⟩
  ·have hp:(0:Int)<2 ^ n:=Int.pow_pos (by decide)
   refine s_shr (by omega) ?_
   repeat first|refine Gp ?_|refine Gw λw hS=>?_|refine Gb λb w hS=>?_
   refine ze (λhg=>?_) (λhg=>?_)
   ·have:m<b*2 ^ n:=(Int.ediv_lt_iff_lt_mul hp).1 hg
    rw[dlyN_big h1 (Nat.le_refl n) (by omega)]
    exact⟨_,⟨rfl,rfl⟩,hS⟩
   ·have hle:b*2 ^ n≤m:=(Int.le_ediv_iff_mul_le hp).1 (by omega)
    have h0:=pow_mono b (by omega) (Nat.zero_le n)
    rw[Int.pow_zero,Int.mul_one]at h0
    refine s_shl (by omega) (by omega) ?_
    have e:dlyN n b m=b*2 ^ n:=by unfold dlyN;exact Int.min_eq_left hle
    rw[e]
    exact⟨_,⟨rfl,rfl⟩,hS⟩
 ·rw[if_neg hm,decide_eq_false hm]
  repeat first|refine Gp ?_|refine Gw λw hS=>?_|refine Gb λb w hS=>?_
  refine zy ?_
  exact⟨_,⟨rfl,rfl⟩,hS⟩
theorem waitB_in{k b m j draw:Int}:0≤waitB k b m j draw∧waitB k b m j draw≤2147483648:=by
 unfold waitB
 split
 ·rename_i h
  obtain⟨_,_,_,_,h5,h6⟩:=h
  have h1:=@dly_in k b m
  have h2:=Int.emod_nonneg (max draw 0) (b:=j+1) (by omega)
  have h3:=Int.emod_lt_of_pos (max draw 0) (b:=j+1) (by omega)
  omega
 ·omega
theorem QI(k b m j draw:Int):SP 238 [.int .i64 k,.int .i64 b,.int .i64 m,.int .i64 j,.int .i64 draw] [] (Gives (.int .i64 (waitB k b m j draw)) []):=by
 intro W F w hS;apply vc238;unfold Vc238;(try simp only[app]at hS)
 (apply zd (Zr b m j) hS;exact Xp;clear hS)
 rintro v post ⟨rfl,rfl⟩ w hS
 (try simp only[app]at hS)
 unfold waitB
 by_cases hm:MayB b m j
 ·rw[if_pos hm,decide_eq_true hm]
  obtain⟨h1,h2,h3,h4,h5,h6⟩:=hm
  repeat first|refine Gp ?_|refine Gw λw hS=>?_|refine Gb λb w hS=>?_
  refine zr ?_
  repeat first|refine Gp ?_|refine Gw λw hS=>?_|refine Gb λb w hS=>?_
  refine qf (by omega) ?_
  rw[Int.tmod_eq_emod_of_nonneg (by omega)]
  have h7:=Int.emod_nonneg (max draw 0) (b:=j+1) (by omega)
  have h8:=Int.emod_lt_of_pos (max draw 0) (b:=j+1) (by omega)
  have h9:=@dly_in k b m
  generalize max draw 0 % (j+1)=r at *
  (apply zd (qP k b m) hS;exact Xp;clear hS)
  (rintro v post ⟨rfl,rfl⟩ w hS;(try simp only[app]at hS);(repeat (first|refine Gp ?_|refine Gw λw hS=>?_|refine Gb λb w hS=>?_)))
  (exact⟨_,⟨rfl,rfl⟩,SL.into hS Xi⟩)
 ·rw[if_neg hm,decide_eq_false hm]
  repeat first|refine Gp ?_|refine Gw λw hS=>?_|refine Gb λb w hS=>?_
  refine zy ?_
  exact⟨_,⟨rfl,rfl⟩,hS⟩
theorem qn(k b m j draw:Int):SP 203 [.int .i64 k,.int .i64 b,.int .i64 m,.int .i64 j,.int .i64 draw] [] (Gives (.int .i64 (waitB k b m j draw)) []):=by
 intro W F w hS;apply vc203;unfold Vc203;(try simp only[app]at hS)
 (apply zd (ZQ b m j) hS;exact Xp;clear hS)
 rintro v post ⟨rfl,rfl⟩ w hS
 (try simp only[app]at hS)
 unfold waitB
 by_cases hm:MayB b m j
 ·rw[if_pos hm,decide_eq_true hm]
  obtain⟨h1,h2,h3,h4,h5,h6⟩:=hm
  repeat first|refine Gp ?_|refine Gw λw hS=>?_|refine Gb λb w hS=>?_
  refine zr ?_
  repeat first|refine Gp ?_|refine Gw λw hS=>?_|refine Gb λb w hS=>?_
  refine qf (by omega) ?_
  rw[Int.tmod_eq_emod_of_nonneg (by omega)]
  have h7:=Int.emod_nonneg (max draw 0) (b:=j+1) (by omega)
  have h8:=Int.emod_lt_of_pos (max draw 0) (b:=j+1) (by omega)
  have h9:=@dly_in k b m
  generalize max draw 0 % (j+1)=r at *
  (apply zd (YN k b m) hS;exact Xp;clear hS)
  (rintro v post ⟨rfl,rfl⟩ w hS;(try simp only[app]at hS);(repeat (first|refine Gp ?_|refine Gw λw hS=>?_|refine Gb λb w hS=>?_)))
  (exact⟨_,⟨rfl,rfl⟩,SL.into hS Xi⟩)
 ·rw[if_neg hm,decide_eq_false hm]
  repeat first|refine Gp ?_|refine Gw λw hS=>?_|refine Gb λb w hS=>?_
  refine zy ?_
  exact⟨_,⟨rfl,rfl⟩,hS⟩
def clkR(now:Int):Int:=max 0 (min now 1125899906842624)
theorem clkR_in(now:Int):0≤clkR now∧clkR now≤1125899906842624:=by unfold clkR;omega
theorem Y0(now:Int):SP 202 [.int .i64 now] [] (Gives (.int .i64 (clkR now)) []):=by
 intro W F w hS;apply vc202;unfold Vc202;(try simp only[app]at hS)
 repeat first|refine Gp ?_|refine Gw λw hS=>?_|refine Gb λb w hS=>?_
 (exact⟨_,⟨rfl,rfl⟩,SL.into hS Xi⟩)
abbrev rtc(b m j f u:Int):List Value:=[.int .i64 b,.int .i64 m,.int .i64 j,.int .i64 f,.int .i64 u]
abbrev RtP(p:Nat)(b m j f u:Int):Chunk:=.pt p (rtc b m j f u) 243
abbrev RRtP(p:Nat)(b m j f u:Int):Chunk:=.pt p (rtc b m j f u) 232
theorem Qy(b m j:Int):SP 130 [.int .i64 b,.int .i64 m,.int .i64 j] [] (λv post=>if MayB b m j then ∃p:Nat,v= .tuple #[.pointer (some ⟨p,0,none⟩),.int .i64 0]∧post=[RtP p b m j 0 0] else v= .tuple #[.pointer none,.int .i64 1]∧post=[]):=by
 intro W F w hS;apply vc130;unfold Vc130;(try simp only[app]at hS)
 (apply zd (Zr b m j) hS;exact Xp;clear hS)
 rintro v post ⟨rfl,rfl⟩ w hS
 (try simp only[app]at hS)
 by_cases hm:MayB b m j
 ·rw[decide_eq_true hm]
  repeat first|refine Gp ?_|refine Gw λw hS=>?_|refine Gb λb w hS=>?_
  refine zr ?_
  repeat first|refine Gp ?_|refine Gw λw hS=>?_|refine Gb λb w hS=>?_
  refine⟨_,rfl,zJ hS λp w hS=>?_⟩
  exact⟨[RtP p b m j 0 0],(if_pos hm).mpr ⟨p,rfl,rfl⟩,hS⟩
 ·rw[decide_eq_false hm]
  repeat first|refine Gp ?_|refine Gw λw hS=>?_|refine Gb λb w hS=>?_
  refine zy ?_
  exact⟨[],(if_neg hm).mpr ⟨rfl,rfl⟩,hS⟩
theorem qq(b m j k draw:Int):SP 200 [agg [.int .i64 b,.int .i64 m,.int .i64 j],.int .i64 k,.int .i64 draw] [] (Gives (.int .i64 (waitB k b m j draw)) []):=by
 intro W F w hS;apply vc200;unfold Vc200;(try simp only[app]at hS)
 refine⟨_,rfl,zJ hS λp w hS=>?_⟩
 repeat first|refine Gp ?_|refine Gw λw hS=>?_|refine Gb λb w hS=>?_
 (apply zd (QI k b m j draw) hS;exact Xp;clear hS)
 (rintro v post ⟨rfl,rfl⟩ w hS;(try simp only[app]at hS);(repeat (first|refine Gp ?_|refine Gw λw hS=>?_|refine Gb λb w hS=>?_)))
 (exact⟨_,⟨rfl,rfl⟩,SL.into hS Xi⟩)
theorem qB(p:Nat)(b m j f u now draw:Int)(hf:0≤f∧f≤1000000000):SP 139 [.pointer (some ⟨p,0,none⟩),.int .i64 now,.int .i64 draw] [RtP p b m j f u] (Gives (.int .i64 (clkR now+waitB (f+1) b m j draw)) [RtP p b m j (f+1) (clkR now+waitB (f+1) b m j draw)]):=by
 intro W F w hS;apply vc139;unfold Vc139;(try simp only[app]at hS)
 have h1:=clkR_in now
 have h2:=@waitB_in (f+1) b m j draw
 have e:min (max now 0) 1125899906842624=clkR now:=by unfold clkR;omega
 repeat first|refine Gp ?_|refine Gw λw hS=>?_|refine Gb λb w hS=>?_
 rw[e]
 refine yS (vs:=[.int .i64 b,.int .i64 m,.int .i64 j]) hS Xh rfl (λi v h=>?_) ?_
 ·match i,h with
  | 0,h=>exact h
  | 1,h=>exact h
  | 2,h=>exact h
  | i+3,h=>simp at h
 repeat first|refine Gp ?_|refine Gw λw hS=>?_|refine Gb λb w hS=>?_
 (apply zd (qq b m j (f+1) draw) hS;exact Xp;clear hS)
 (rintro v post ⟨rfl,rfl⟩ w hS;(try simp only[app]at hS);(repeat (first|refine Gp ?_|refine Gw λw hS=>?_|refine Gb λb w hS=>?_)))
 (exact⟨_,⟨rfl,rfl⟩,SL.into hS Xi⟩)
theorem qX(p:Nat)(b m j f u:Int):SP 138 [.pointer (some ⟨p,0,none⟩)] [RtP p b m j f u] (Gives (.tuple #[]) [RtP p b m j 0 0]):=by
 intro W F w hS;apply vc138;unfold Vc138;(try simp only[app]at hS)
 repeat first|refine Gp ?_|refine Gw λw hS=>?_|refine Gb λb w hS=>?_
 (exact⟨_,⟨rfl,rfl⟩,SL.into hS Xi⟩)
theorem YJ(p:Nat)(b m j f u now:Int):SP 141 [.pointer (some ⟨p,0,none⟩),.int .i64 now] [RtP p b m j f u] (Gives (.bool (decide (u≤now))) [RtP p b m j f u]):=by
 intro W F w hS;apply vc141;unfold Vc141;(try simp only[app]at hS)
 repeat first|refine Gp ?_|refine Gw λw hS=>?_|refine Gb λb w hS=>?_
 (exact⟨_,⟨rfl,rfl⟩,SL.into hS Xi⟩)
theorem Y7(p:Nat)(b m j f u:Int):SP 58 [.pointer (some ⟨p,0,none⟩)] [RtP p b m j f u] (Gives (.int .i64 f) [RtP p b m j f u]):=by
 intro W F w hS;apply vc58;unfold Vc58;(try simp only[app]at hS)
 repeat first|refine Gp ?_|refine Gw λw hS=>?_|refine Gb λb w hS=>?_
 (exact⟨_,⟨rfl,rfl⟩,SL.into hS Xi⟩)
theorem YC(p:Nat)(b m j f u:Int):SP 151 [.pointer (some ⟨p,0,none⟩)] [RtP p b m j f u] (Gives (.int .i64 u) [RtP p b m j f u]):=by
 intro W F w hS;apply vc151;unfold Vc151;(try simp only[app]at hS)
 repeat first|refine Gp ?_|refine Gw λw hS=>?_|refine Gb λb w hS=>?_
 (exact⟨_,⟨rfl,rfl⟩,SL.into hS Xi⟩)
theorem Y2(p:Nat)(b m j f u:Int):SP 148 [.pointer (some ⟨p,0,none⟩)] [RRtP p b m j f u] (Gives (.tuple #[]) [RRtP p b m j 0 0]):=by
 intro W F w hS;apply vc148;unfold Vc148;(try simp only[app]at hS)
 repeat first|refine Gp ?_|refine Gw λw hS=>?_|refine Gb λb w hS=>?_
 (exact⟨_,⟨rfl,rfl⟩,SL.into hS Xi⟩)
theorem Y1(p:Nat)(b m j f u now draw:Int)(hf:0≤f∧f≤1000000000):SP 149 [.pointer (some ⟨p,0,none⟩),.int .i64 now,.int .i64 draw] [RRtP p b m j f u] (Gives (.int .i64 (clkR now+waitB (f+1) b m j draw)) [RRtP p b m j (f+1) (clkR now+waitB (f+1) b m j draw)]):=by
 intro W F w hS;apply vc149;unfold Vc149;(try simp only[app]at hS)
 have h1:=clkR_in now
 have h2:=@waitB_in (f+1) b m j draw
 repeat first|refine Gp ?_|refine Gw λw hS=>?_|refine Gb λb w hS=>?_
 (apply zd (Y0 now) hS;exact Xp;clear hS)
 (rintro v post ⟨rfl,rfl⟩ w hS;(try simp only[app]at hS);(repeat (first|refine Gp ?_|refine Gw λw hS=>?_|refine Gb λb w hS=>?_)))
 (apply zd (qn (f+1) b m j draw) hS;exact Xp;clear hS)
 (rintro v post ⟨rfl,rfl⟩ w hS;(try simp only[app]at hS);(repeat (first|refine Gp ?_|refine Gw λw hS=>?_|refine Gb λb w hS=>?_)))
 (exact⟨_,⟨rfl,rfl⟩,SL.into hS Xi⟩)
def it0:PItem:=⟨0,[],[]⟩
def jn(a x:PItem):PItem:=⟨x.lsn,a.ops++x.ops,a.notes++x.notes⟩
def joinL(l:List PItem):PItem:=l.foldl jn it0
structure WIt(n:Nat)(x:PItem):Prop where
 may:mayItem x=true
 tabs:tabsOk n x=true
 ops:x.ops.length≤5
 nts:x.notes=[]
def RiseI:Int→List PItem→Prop
 | _,[]=>True
 | b,x::l=>b<x.lsn∧RiseI x.lsn l
theorem RiseI.mono{b c:Int}(h:c≤b):∀{l:List PItem},RiseI b l→RiseI c l
 | [],_=>trivial
 | _::_,⟨h1,h2⟩=>⟨by omega,h2⟩
def lastL(b:Int)(l:List PItem):Int:=l.foldl (λ_ x=>x.lsn) b
theorem lastL_append(b:Int)(l l':List PItem):lastL b (l++l')=lastL (lastL b l) l':=by simp[lastL]
theorem RiseI.append{l':List PItem}:∀{l:List PItem} {b:Int},RiseI b (l++l')↔RiseI b l∧RiseI (lastL b l) l'
 | [],b=>⟨λh=>⟨trivial,h⟩,λh=>h.2⟩
 | x::l,b=>by
  show b<x.lsn∧RiseI x.lsn (l++l')↔(b<x.lsn∧RiseI x.lsn l)∧RiseI (lastL x.lsn l) l'
  rw[RiseI.append (l:=l) (b:=x.lsn)]
  exact⟨λ⟨a,b,c⟩=>⟨⟨a,b⟩,c⟩,λ⟨⟨a,b⟩,c⟩=>⟨a,b,c⟩⟩
theorem RiseI.last{b:Int}:∀{l:List PItem},RiseI b l→b≤lastL b l:=λ{l}=>by
 induction l generalizing b with
 | nil=>intro _;exact Int.le_refl _
 | cons x l ih=>rintro ⟨h1,h2⟩;have:=ih h2;show b≤lastL x.lsn l;omega
theorem RiseI.snoc{b:Int}{l:List PItem}{x:PItem}(h:RiseI b l)(hx:lastL b l<x.lsn):RiseI b (l++[x]):=RiseI.append.2 ⟨h,hx,trivial⟩
structure JOk(n:Nat)(a:PItem)(k:Nat):Prop where
 l0:0≤a.lsn
 l1:a.lsn≤1099511627776
 pos:0<k→1≤a.lsn
 nts:a.notes=[]
 len:a.ops.length≤5*k
 ops:∀o∈a.ops,mayOp o a.lsn=true
 tab:∀o∈a.ops,o.table<(n:Int)
theorem mayOp_mono{o:AOp}{l l':Int}(h:mayOp o l=true)(hl:l≤l'):mayOp o l'=true:=by
 unfold mayOp at *
 rw[decide_eq_true_eq]at *
 exact⟨h.1,by omega,h.2.2⟩
theorem WIt.iff{n:Nat}{x:PItem}(h:WIt n x):(1≤x.lsn∧x.lsn≤1099511627776)∧(∀o∈x.ops,mayOp o x.lsn=true)∧∀o∈x.ops,o.table<(n:Int):=by
 obtain⟨⟨h1,h2,_⟩,h3,_⟩:=mayItem_iff.1 h.may
 have ht:=h.tabs
 unfold tabsOk at ht
 rw[List.all_eq_true]at ht
 exact⟨⟨h1,h2⟩,h3,λo ho=>of_decide_eq_true (ht o ho)⟩
theorem JOk.zero(n:Nat):JOk n it0 0:=⟨Int.le_refl _,by show (0:Int)≤_;decide,λh=>by omega,rfl,Nat.le_refl _,λo h=>(by cases h),λo h=>(by cases h)⟩
theorem JOk.step{n:Nat}{a x:PItem}{k:Nat}(h:JOk n a k)(hx:WIt n x)(hl:a.lsn<x.lsn):JOk n (jn a x) (k+1):=by
 obtain⟨⟨h1,h2⟩,h3,h4⟩:=hx.iff
 have h5:=hx.ops
 have h6:=h.len
 refine⟨by show 0≤x.lsn;omega,h2,λ_=>h1,by show a.notes++x.notes=[];rw[h.nts,hx.nts];rfl,by show (a.ops++x.ops).length≤_;rw[List.length_append];omega,λo ho=>?_,λo ho=>?_⟩
 ·rcases List.mem_append.1 ho with ho|ho
  ·exact mayOp_mono (h.ops o ho) (by show a.lsn≤x.lsn;omega)
  ·exact h3 o ho
 ·rcases List.mem_append.1 ho with ho|ho
  ·exact h.tab o ho
  ·exact h4 o ho
theorem joinL_snoc(l:List PItem)(x:PItem):joinL (l++[x])=jn (joinL l) x:=by simp[joinL]
theorem joinL_take{l:List PItem}{i:Nat}(h:i<l.length):joinL (l.take (i+1))=jn (joinL (l.take i)) l[i]:=by
 rw[List.take_succ_eq_append_getElem h,joinL_snoc]
theorem JOk.fold{n:Nat}:∀(l:List PItem) {a:PItem} {k:Nat},JOk n a k→(∀x∈l,WIt n x)→RiseI a.lsn l→JOk n (l.foldl jn a) (k+l.length)
 | [],a,k,h,_,_=>h
 | x::l,a,k,h,hx,⟨hr1,hr2⟩=>by
  have:=JOk.fold l (h.step (hx x (.head _)) hr1) (λy hy=>hx y (.tail _ hy)) hr2
  rw[List.length_cons,show k+(l.length+1)=k+1+l.length by omega]
  exact this
theorem joinL_ok{n:Nat}{l:List PItem}(h:∀x∈l,WIt n x)(hr:RiseI 0 l):JOk n (joinL l) l.length:=by
 have:=JOk.fold (n:=n) l (JOk.zero n) h hr
 rw[Nat.zero_add]at this
 exact this
theorem joinL_lsn(l:List PItem):(joinL l).lsn=lastL 0 l:=by
 suffices h:∀(l:List PItem) (a:PItem),(l.foldl jn a).lsn=lastL a.lsn l from h l it0
 intro l
 induction l with
 | nil=>intro a;rfl
 | cons x l ih=>intro a;exact ih (jn a x)
theorem JOk.may{n k:Nat}{a:PItem}(h:JOk n a k)(hk:0<k)(h64:k≤64):mayItem a=true∧tabsOk n a=true:=by
 have h1:=h.pos hk
 have h2:=h.l1
 have h3:=h.len
 refine⟨mayItem_iff.2 ⟨⟨h1,h2,by omega,by rw[h.nts];decide⟩,h.ops,by rw[h.nts];simp⟩,?_⟩
 unfold tabsOk
 rw[List.all_eq_true]
 exact λo ho=>decide_eq_true (h.tab o ho)
theorem fits_nil{n:Nat}{L:List Rq}{x:PItem}(hm:mayItem x=true)(ht:tabsOk n x=true)(hn:x.notes=[]):fitsR n L x=some L:=by
 unfold fitsR
 rw[if_pos ⟨hm,ht⟩,hn];rfl
structure PWt where
 k:PSink
 L:List PItem
 out:Nat
 fails:Int
 til:Int
 held:PItem
 n:Nat
structure WCf where
 cap:Nat
 most:Nat
 b:Int
 m:Int
 j:Int
def PWt.ready(s:PWt)(now:Int):Bool:=if 0<s.n then decide (s.til≤now) else decide (0<s.L.length)
def PWt.hold(s:PWt)(most:Nat):PWt:=if s.n=0 then {s with L:=s.L.drop most,out:=s.out+min most s.L.length,held:=joinL (s.L.take most),n:=min most s.L.length} else s
def PWt.hand(c:WCf)(s:PWt)(now draw:Int):PWt × Int × Int:=
 if (s.k.commitK s.held).2=0 then ({s with k:=(s.k.commitK s.held).1,out:=s.out-giveN s.n s.out,fails:=0,til:=0,held:=it0,n:=0},6,0)
 else if (s.k.commitK s.held).2=9 then ({s with k:=(s.k.commitK s.held).1,fails:=s.fails+1,til:=clkR now+waitB (s.fails+1) c.b c.m c.j draw},7,0)
 else ({s with k:=(s.k.commitK s.held).1},0,(s.k.commitK s.held).2)
def PWt.step(c:WCf)(s:PWt)(now draw:Int):PWt × Int × Int:=if s.ready now=true then (s.hold c.most).hand c now draw else (s,0,0)
structure WtInv(c:WCf)(tabs:Nat)(s:PWt)(f:Nat):Prop where
 cap1:1≤c.cap
 cap:c.cap≤64
 most1:1≤c.most
 most:c.most≤64
 it:∀x∈s.L,WIt tabs x
 rise:RiseI 0 s.L
 room:s.L.length+s.out≤c.cap
 out:s.out=s.n
 held:(s.n=0∧s.held=it0)∨(0<s.n∧JOk tabs s.held s.n)
 f0:0≤s.fails
 f1:s.fails≤f
theorem WtInv.mono{c:WCf}{tabs f f':Nat}{s:PWt}(h:WtInv c tabs s f)(hf:f≤f'):WtInv c tabs s f':=⟨h.cap1,h.cap,h.most1,h.most,h.it,h.rise,h.room,h.out,h.held,h.f0,by have:=h.f1;omega⟩
theorem RiseI.take{b:Int}{l:List PItem}(h:RiseI b l)(i:Nat):RiseI b (l.take i):=(RiseI.append.1 ((List.take_append_drop i l).symm▸h:RiseI b (l.take i++l.drop i))).1
theorem RiseI.drop{b:Int}{l:List PItem}(h:RiseI b l)(i:Nat):RiseI b (l.drop i):=by
 have:=RiseI.append.1 ((List.take_append_drop i l).symm▸h:RiseI b (l.take i++l.drop i))
 exact this.2.mono this.1.last
theorem WtInv.hold{c:WCf}{tabs f:Nat}{s:PWt}(h:WtInv c tabs s f){now:Int}(hr:s.ready now=true):WtInv c tabs (s.hold c.most) f∧0<(s.hold c.most).n:=by
 have h1:=h.room
 have h2:=h.out
 have h3:=h.cap
 have h4:=h.most1
 unfold PWt.hold
 by_cases hn:s.n=0
 ·rw[if_pos hn]
  unfold PWt.ready at hr
  rw[if_neg (by omega),decide_eq_true_eq]at hr
  have hj:=joinL_ok (n:=tabs) (l:=s.L.take c.most) (λx hx=>h.it x (List.mem_of_mem_take hx)) (h.rise.take _)
  rw[List.length_take]at hj
  refine⟨⟨h.cap1,h.cap,h.most1,h.most,λx hx=>h.it x (List.mem_of_mem_drop hx),h.rise.drop _,?_,?_,.inr ⟨?_,hj⟩,h.f0,h.f1⟩,?_⟩
  ·show (s.L.drop c.most).length+(s.out+min c.most s.L.length)≤c.cap
   rw[List.length_drop];omega
  ·show s.out+min c.most s.L.length=min c.most s.L.length;omega
  ·show 0<min c.most s.L.length;omega
  ·show 0<min c.most s.L.length;omega
 ·rw[if_neg hn];exact⟨h,by omega⟩
theorem WtInv.hand{c:WCf}{tabs f:Nat}{s:PWt}(h:WtInv c tabs s f)(hn:0<s.n)(now draw:Int):WtInv c tabs (s.hand c now draw).1 (f+1):=by
 have h1:=h.room
 have h2:=h.out
 have h3:=h.f0
 have h4:=h.f1
 have hg:giveN s.n s.out=s.n:=by unfold giveN;omega
 unfold PWt.hand
 split
 ·refine⟨h.cap1,h.cap,h.most1,h.most,h.it,h.rise,?_,?_,.inl ⟨rfl,rfl⟩,?_,?_⟩
  ·show s.L.length+(s.out-giveN s.n s.out)≤c.cap;omega
  ·show s.out-giveN s.n s.out=0;omega
  ·show (0:Int)≤0;omega
  ·show (0:Int)≤((f+1:Nat):Int);omega
 ·split
  ·refine⟨h.cap1,h.cap,h.most1,h.most,h.it,h.rise,h.room,h.out,h.held,?_,?_⟩
   ·show 0≤s.fails+1;omega
   ·show s.fails+1≤((f+1:Nat):Int);omega
  ·exact⟨h.cap1,h.cap,h.most1,h.most,h.it,h.rise,h.room,h.out,h.held,h.f0,by show s.fails≤_;omega⟩
theorem WtInv.step{c:WCf}{tabs f:Nat}{s:PWt}(h:WtInv c tabs s f)(now draw:Int):WtInv c tabs (s.step c now draw).1 (f+1):=by
 unfold PWt.step
 by_cases hr:s.ready now=true
 ·rw[if_pos hr]
  obtain⟨h1,h2⟩:=h.hold hr
  exact h1.hand h2 now draw
 ·rw[if_neg hr];exact h.mono (by omega)
end Go.Proofs.YtnmhmnnadkclbaaGreat
