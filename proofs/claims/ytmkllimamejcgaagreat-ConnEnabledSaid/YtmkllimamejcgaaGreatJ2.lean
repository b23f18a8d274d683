/- Part of the proof. -/
import Derived.Test.YtmkllimamejcgaaGreatJ1
import Derived.MapKept
namespace Go.Proofs.YtmkllimamejcgaaGreat
set_option linter.all false
open Go.RowKit
abbrev Η:=Chunk
abbrev Ψ:=List Η
def zzn:=@List.map_cons
def www:=@Prod.mk.injEq
def zz7:=@List.mem_cons
def yym:=@run_underlying
def yyv:=@MapKept.run_getObj_map
def xxd:=@MapKept.run_checkKey
def xxz:=@MapKept.run_findKey
def zzy:=@List.mem_map
def wwc:=@MapKept.run_setObj_map
def zze:=@List.take_succ_eq_append_getElem
def ww6:=@decide_false
def zz4:=@List.flatten_cons
def uuh:=@Nat.zero_mul
def yya:=@List.getElem?_append_right
def wwl:=@Nat.one_mul
def uu0:=@Nat.add_comm
def xxq:=@List.take_succ_cons
def uuy:=@List.drop_succ_cons
def xx5:=@List.mem_flatten
def zz1:=@List.take_length
def tth:=@decide_true
def vvr:=@Nat.mul_one
def xx6:=@Nat.add_sub_cancel_left
def zzc:=@if_pos
def zzb:=@if_neg
def zza:=@List.length_append
def zzf:=@List.length_take
def zzk:=@List.append_assoc
structure C5{κ:Type}(d:TypeDesc)(key:κ->Ω):Prop where
 is:∀k,MapKept.IsKey d (key k)
 inj:∀{a b},key a=key b->a=b
def ue(k:IntKind):C5 (.int k) (Value.int k):=⟨λ_=>rfl,λh=>by cases h;rfl⟩
section
variable {κ α:Type} [DecidableEq κ]
def kN:List (κ × α)->κ->Option α
 | [],_=>none
 | p::m,k=>if p.1=k then some p.2 else kN m k
def lM:List (κ × α)->κ->α->List (κ × α)
 | [],k,v=>[(k,v)]
 | p::m,k,v=>if p.1=k then (k,v)::m else p::lM m k v
def vy:List (κ × α)->κ->List (κ × α)
 | [],_=>[]
 | p::m,k=>if p.1=k then m else p::vy m k
def kv(e:MapEntry):Ω × Ω:=(e.key,e.val)
def kw(key:κ->Ω)(val:α->Ω)(p:κ × α):Ω × Ω:=(key p.1,val p.2)
def Fe{d:TypeDesc}{key:κ->Ω}{val:α->Ω}(ok:C5 d key)(k:κ):∀(es:List MapEntry) (m:List (κ × α)) (i:Nat),es.map kv=m.map (kw key val) ->
  (Instr.findNow d (key k) es i=some none/\kN m k=none/\(∀v,lM m k v=m++[(k,v)])/\vy m k=m/\∀x∈es,x.key≠key k) \/
  ∃j e a,Instr.findNow d (key k) es i=some (some (i+j,val a))/\es[j]?=some e/\e.key=key k/\kN m k=some a /\
   (∀v,(es.modify j λe=>{e with key:=key k,val:=val v}).map kv=(lM m k v).map (kw key val))/\(es.eraseIdx j).map kv=(vy m k).map (kw key val)
 | [],[],_,_=>.inl ⟨rfl,rfl,λ_=>rfl,rfl,by simp⟩
 | [],_::_,_,h=>by simp at h
 | _::_,[],_,h=>by simp at h
 | e::es,p::m,i,h=>by
  simp only[zzn,List.cons.injEq]at h;obtain⟨h1,h2⟩:=h;obtain⟨x,y⟩:=p;simp only[kv,kw,www]at h1;obtain⟨tU,Dx⟩:=h1;obtain⟨r,hr,HX⟩:=MapKept.sameNow_of_keys (ok.is k) (ok.is x);by_cases hx:x=k
  ·subst hx;obtain rfl:r=true:=HX.2 rfl;refine .inr ⟨0,e,y,by simp[Instr.findNow,tU,hr,Dx],rfl,tU,by simp[kN],?_,?_⟩
   ·intro v;simp[lM,kv,kw];exact h2
   simp[vy,h2]
  have hr':r=false:=by
   cases r with
   | false=>rfl
   | true=>exact absurd (ok.inj (HX.1 rfl)).symm hx
  subst hr';rcases Fe ok k es m (i+1) h2 with ⟨a1,a2,a3,a4,a5⟩|⟨j,e',a,a1,a2,a3,a4,a5,a6⟩
  ·refine .inl ⟨by simp[Instr.findNow,tU,hr,a1],by simp[kN,hx,a2],λv=>by simp[lM,hx,a3],by simp[vy,hx,a4],?_⟩;intro z hz;rcases zz7.1 hz with rfl|hz
   ·rw[tU];exact λq=>hx (ok.inj q)
   exact a5 z hz
  refine .inr ⟨j+1,e',a,by simp[Instr.findNow,tU,hr,a1];omega,by simpa using a2,a3,by simp[kN,hx,a4],?_,?_⟩
  ·intro v;simp[lM,hx,kv,kw,tU,Dx];exact a5 v
  simp[vy,hx,kv,kw,tU,Dx];exact a6
end
def jH{κ α:Type}(key:κ->Ω)(val:α->Ω)(b:Nat)(m:List (κ × α)):zB:=
 nT λx:List MapEntry × Nat=>zG (x.1.map kv=m.map (kw key val)/\MapKept.Stamped x.1.toArray x.2) [.mp b x.1 x.2]
section
variable {W w:Α} {l l':Ψ} {κ α:Type} [DecidableEq κ] {key:κ->Ω} {val:α->Ω} {b:Nat} {m:List (κ × α)}
omit [DecidableEq κ] in
def jH.of{es:List MapEntry}{c:Nat}(h1:es.map kv=m.map (kw key val))(h2:MapKept.Stamped es.toArray c):(Chunk.ob (jH key val b m)).holds (bw.one b (.map es.toArray c)):=
 ⟨(es,c),⟨h1,h2⟩,⟨bw.one b (.map es.toArray c),bw.emp,λx=>.inr ⟨rfl,rfl⟩,rfl,rfl⟩⟩
omit [DecidableEq κ] in
def gif{c:Η}{k:bw}(h:star [c] k):c.holds k:=by
 obtain⟨h1,h2,s,a,r⟩:=h;obtain rfl:h2=bw.emp:=r;have:k=h1:=funext λb=>by
  rcases s b with ⟨x,y⟩|⟨x,y⟩
  ·rw[x,y];rfl
  exact y
 rw[this];exact a
omit [DecidableEq κ] in
def jH.out{k:bw}(h:(Chunk.ob (jH key val b m)).holds k):∃(es:List MapEntry) (c:Nat),es.map kv=m.map (kw key val)/\MapKept.Stamped es.toArray c/\k=bw.one b (.map es.toArray c):=by
 obtain⟨⟨es,c⟩,⟨h1,h2⟩,h3⟩:=h;exact⟨es,c,h1,h2,gif h3⟩
omit [DecidableEq κ] in
def SL.CL(h:SL W l w)(hm:Has (.ob (jH key val b m)) l):∃(es:List MapEntry) (c:Nat),es.map kv=m.map (kw key val)/\MapKept.Stamped es.toArray c/\w.heap[b]?=some (.map es.toArray c):=by
 obtain⟨k,s,x⟩:=h.out;obtain⟨h1,hh,le⟩:=hm.heap s;obtain⟨es,c,e1,e2,rfl⟩:=jH.out hh;exact⟨es,c,e1,e2,x b _ (le b _ (by simp[bw.one]))⟩
omit [DecidableEq κ] in
def SL.D6{m':List (κ × α)}{es:List MapEntry}{c:Nat}{o:Obj}(h:SL W l w)(u:lk (.ob (jH key val b m)) (.ob (jH key val b m')) l l')(hb:w.heap[b]?=some o)(h1:es.map kv=m'.map (kw key val))(h2:MapKept.Stamped es.toArray c):
  SL W l' {w with heap:=w.heap.setIfInBounds b (.map es.toArray c)}:=
 h.vI (b:=b) (o':=.map es.toArray c) u (λk hk=>by obtain⟨es,c,_,_,rfl⟩:=jH.out hk;exact⟨_,rfl⟩) (jH.of h1 h2) (MapKept.heap_set hb).1 (MapKept.heap_set hb).2 rfl rfl rfl
omit [DecidableEq κ] in
def SL.LZ(h:SL W l w):SL W (.ob (jH key val w.heap.size [])::l) (w.alloc (.map #[] 0)):=h.alloc (jH.of (es:=[]) rfl (MapKept.stamped_empty 0))
variable {P:Program} {t kt et:Ε} {d:TypeDesc} {z:Ω} {k:κ}
def YY{K:Ω->Prop}(hS:SL W l w)(hm:Has (.ob (jH key val b m)) l)(ok:C5 d key)(ht:P.underlying t=some (.map kt et))(hd:P.underlying kt=some d)(hz:∀w,(zeroValue et).run P w= .ok z w)
  (h:K (.tuple #[((kN m k).map val).getD z,.bool (kN m k).isSome])):jY P (Instr.lookup t (.map (some b)) (key k) true) w K:=by
 obtain⟨es,c,e1,e2,hb⟩:=hS.CL hm;rcases Fe ok k es m 0 e1 with ⟨a1,a2,_,_,_⟩|⟨j,e,a,a1,_,_,a4,_,_⟩
 ·refine⟨_,?_,h⟩;simp[Instr.lookup,yym ht,yyv hb,xxd hd (ok.is k),xxz hd a1,hz,Result.andThen,a2]
 refine⟨_,?_,h⟩;simp[Instr.lookup,yym ht,yyv hb,xxd hd (ok.is k),xxz hd a1,Result.andThen,a4]
def yJ{K:Ω->Prop}(hS:SL W l w)(hm:Has (.ob (jH key val b m)) l)(ok:C5 d key)(ht:P.underlying t=some (.map kt et))(hd:P.underlying kt=some d)(hz:∀w,(zeroValue et).run P w= .ok z w)
  (h:K (((kN m k).map val).getD z)):jY P (Instr.lookup t (.map (some b)) (key k) false) w K:=by
 obtain⟨es,c,e1,e2,hb⟩:=hS.CL hm;rcases Fe ok k es m 0 e1 with ⟨a1,a2,_,_,_⟩|⟨j,e,a,a1,_,_,a4,_,_⟩
 ·refine⟨_,?_,h⟩;simp[Instr.lookup,yym ht,yyv hb,xxd hd (ok.is k),xxz hd a1,hz,Result.andThen,a2]
 refine⟨_,?_,h⟩;simp[Instr.lookup,yym ht,yyv hb,xxd hd (ok.is k),xxz hd a1,Result.andThen,a4]
def qK{v:α}{K:Ω->Α->Prop}(hS:SL W l w)(u:lk (.ob (jH key val b m)) (.ob (jH key val b (lM m k v))) l l')(ok:C5 d key)(ht:P.underlying t=some (.map kt et))(hd:P.underlying kt=some d)
  (h:∀u w',SL W l' w'->K u w'):zR P (do Instr.mapUpdate t (.map (some b)) (key k) (val v);pure undef) w K:=by
 obtain⟨es,c,e1,e2,hb⟩:=hS.CL u.has;have hks:∀x∈es,∃p∈m,x.key=key p.1:=λx hx=>by
  have:kv x∈es.map kv:=zzy.2 ⟨x,hx,rfl⟩;rw[e1]at this
  obtain⟨p,hp,hq⟩:=zzy.1 this;exact⟨p,hp,(Prod.mk.inj hq).1.symm⟩
 rcases Fe ok k es m 0 e1 with ⟨a1,_,a3,_,a5⟩|⟨j,e,a,a1,a2,a3,_,a5,_⟩
 ·refine⟨undef,{w with heap:=w.heap.setIfInBounds b (.map (es++[({key:=key k,val:=val v,born:=c}:MapEntry)]).toArray (c+1))},?_,h _ _ (hS.D6 u hb (by rw[a3];simp[e1,kv,kw]) ?_)⟩
  ·simp[Instr.mapUpdate,yym ht,yyv hb,xxd hd (ok.is k),xxz hd a1,wwc _ hb,Result.andThen]
  have:=MapKept.stamped_push e2 (key:=key k) (val:=val v) (by simpa using a5);simpa using this
 refine⟨undef,{w with heap:=w.heap.setIfInBounds b (.map (es.modify j λe=>{e with key:=key k,val:=val v}).toArray c)},?_,h _ _ (hS.D6 u hb (a5 v) ?_)⟩
 ·have hj:es.toArray[j]?=some e:=by simpa using a2
  simp[Instr.mapUpdate,yym ht,yyv hb,xxd hd (ok.is k),xxz hd a1,a2,a3,MapKept.run_keyThatStays (ok.is k),wwc _ hb,Result.andThen]
 have Ck:∀e',es.toArray[j]?=some e'->({e' with key:=key k,val:=val v}:MapEntry).key=e'.key:=λe' rj=>by
  have:es[j]?=some e':=by simpa using rj
  rw[a2]at this;cases this;exact a3.symm
 have:=MapKept.stamped_modify e2 j (λe=>{e with key:=key k,val:=val v}) (λ_ _=>rfl) (λe' _ rj=>Ck e' rj);simpa using this
def fWw{ty kt':Ε}{K:Ω->Α->Prop}(hS:SL W l w)(u:lk (.ob (jH key val b m)) (.ob (jH key val b (vy m k))) l l')(ok:C5 d key)(ht:P.underlying t=some (.map kt et))(hd:P.underlying kt=some d)
  (h:∀u w',SL W l' w'->K u w'):zR P (Builtin.delete_ #[t,kt'] ty #[.map (some b),key k]) w K:=by
 obtain⟨es,c,e1,e2,hb⟩:=hS.CL u.has;rcases Fe ok k es m 0 e1 with ⟨a1,_,_,a4,_⟩|⟨j,e,a,a1,a2,_,_,_,a6⟩
 ·refine⟨.tuple #[],{w with heap:=w.heap.setIfInBounds b (.map es.toArray c)},?_,h _ _ (hS.D6 u hb (by rw[a4];exact e1) e2)⟩;simp[Builtin.delete_,yym ht,yyv hb,xxd hd (ok.is k),xxz hd a1,wwc _ hb,Result.andThen]
 have iw:j<es.length:=(zzh.1 a2).1;have hse:es.toArray.eraseIdxIfInBounds j=(es.eraseIdx j).toArray:=by simp[Array.eraseIdxIfInBounds,iw]
 refine⟨.tuple #[],{w with heap:=w.heap.setIfInBounds b (.map (es.eraseIdx j).toArray c)},?_,h _ _ (hS.D6 u hb a6 ?_)⟩
 ·simp[Builtin.delete_,yym ht,yyv hb,xxd hd (ok.is k),xxz hd a1,wwc _ hb,Result.andThen]
 have:=MapKept.stamped_erase e2 j
 rwa [hse]at this
omit [DecidableEq κ] in
end
abbrev KI:Int->Ω:=Value.int .i64
structure Cell where
 key:Int
 aw:Int
 gone:Bool
 val:Β
deriving DecidableEq
structure Row where
 key:Int
 val:Β
deriving DecidableEq
structure lA where
 aw:Int
 table:Int
 key:Int
 gone:Bool
 val:Β
deriving DecidableEq
def oR(c:Cell):Γ:=[.int .i64 c.key,.int .i64 c.aw,.bool c.gone,.string c.val]
def jA(c:Row):Γ:=[.int .i64 c.key,.string c.val]
def nN(o:lA):Γ:=[.int .i64 o.aw,.int .i64 o.table,.int .i64 o.key,.bool o.gone,.string o.val]
def b_t(c:Cell):(oR c).length=4:=rfl
def nj(c:Row):(jA c).length=2:=rfl
def b_1(o:lA):(nN o).length=5:=rfl
def b_u(c:Cell):∀v∈oR c,v.oneCell'=true:=by simp[oR,Value.oneCell']
def b_2(c:Row):∀v∈jA c,v.oneCell'=true:=by simp[jA,Value.oneCell']
def E8(o:lA):∀v∈nN o,v.oneCell'=true:=by simp[nN,Value.oneCell']
abbrev agg(l:Γ):Ω:=.agg l.toArray
def uA(c:Cell):Ω:=agg (oR c)
def cId(c:Cell)(z:Γ)(hz:z.length=4):mq (fR z 1) [(0,4,uA c)]=some (oR c):=by
 simp[mq,fR,uA,Value.cells,oR,hz]
def AT{α:Type}(enc:α->Γ)(xs:List α)(x:α):((xs++[x]).map enc).flatten=(xs.map enc).flatten++enc x:=by simp
def cIn{α:Type}(enc:α->Γ)(xs:List α)(k:Nat)(h:k<xs.length):((xs.take (k+1)).map enc).flatten=((xs.take k).map enc).flatten++enc xs[k]:=by
 rw[zze h,AT]
section
variable {W w:Α} {l:Ψ} {P:Program}
def qH{t:Ε}{xs ys:Γ}{p:Prop}[Decidable p]{K:Ω->Prop}(h:(Op.equal t (agg xs) (agg ys)).run P w= .ok (decide p) w)(hK:K (.bool (decide p))):y1 P t false (agg xs) (agg ys) w K:=
 ⟨_,_,_,rfl,rfl,h,hK⟩
def cIc{t:Ε}{fs:Array Field}(h:P.underlying t=some (.struct fs)):P.fieldsOf t=fs:=by unfold Program.fieldsOf;rw[h]
def I0{t:Ε}{fs:Array Field}{xs ys:Γ}{b:Bool}(h:P.underlying t=some (.struct fs))(hp:P.stoodInHeld t=false)(he:(Op.eqFields 9999 xs.toArray ys.toArray fs.toList).run P w= .ok b w):(Op.equal t (agg xs) (agg ys)).run P w= .ok b w:=by
 have hf:=cIc h;unfold Op.equal Op.maxDepth;rw[run_equalIn_agg w 9999 t _ _ (by rw[hf];exact h) hp,hf];exact he
def bwi(a b:Β):(a.toList == b.toList)=decide (a=b):=by
 rw[<- beq_toListBytes];by_cases h:a=b
 ·subst h;simp[(MapKept.bytes_beq a a).2 rfl]
 simp only[h,ww6];cases hb:a == b with
 | false=>rfl
 | true=>exact absurd ((MapKept.bytes_beq a b).1 hb) h
def toList_inj(a b:Β):(a.toList=b.toList)=(a=b):=by
 have:=bwi a b;by_cases h:a=b
 ·subst h;simp
 simp only[h,ww6,beq_eq_false_iff_ne]at this;simp[h,this]
def tR{α:Type}{enc:α->Γ}{n:Nat}(hn:∀x,(enc x).length=n)(xs:List α):((xs.map enc).flatten).length=xs.length*n:=by
 induction xs with
 | nil=>simp
 | cons x xs ih=>simp[hn,ih,yyy];omega
def uJ{α:Type}{enc:α->Γ}{n:Nat}(hn:∀x,(enc x).length=n):∀(xs:List α) (j i:Nat) (x:α) (u:Ω),xs[j]?=some x->(enc x)[i]?=some u->((xs.map enc).flatten)[j*n+i]?=some u
 | [],j,i,x,u,h,_=>by simp at h
 | y::xs,0,i,x,u,h,hu=>by
  simp at h;subst h;have:i<(enc y).length:=(zzh.1 hu).1;simp only[zzn,zz4,uuh,yyd];rw[zzr this];exact hu
 | y::xs,j+1,i,x,u,h,hu=>by
  have ih:=uJ hn xs j i x u (by simpa using h) hu;simp only[zzn,zz4];rw[yya (by rw[hn,yyy];omega),hn];rw[show (j+1)*n+i-n=j*n+i by rw[yyy];omega];exact ih
def xV{α:Type}{enc:α->Γ}{n:Nat}(hn:∀x,(enc x).length=n):∀(xs:List α) (k:Nat),(xs.map enc).flatten.take (k*n)=((xs.take k).map enc).flatten
 | [],k=>by simp
 | x::xs,0=>by simp
 | x::xs,k+1=>by
  have e:(k+1)*n=(enc x).length+k*n:=by rw[hn,yyy,wwl,uu0]
  simp only[zzn,zz4,xxq];rw[e,wwa,xV hn xs k]
def AS{α:Type}{enc:α->Γ}{n:Nat}(hn:∀x,(enc x).length=n):∀(xs:List α) (k:Nat),(xs.map enc).flatten.drop (k*n)=((xs.drop k).map enc).flatten
 | [],k=>by simp
 | x::xs,0=>by simp
 | x::xs,k+1=>by
  have e:(k+1)*n=(enc x).length+k*n:=by rw[hn,yyy,wwl,uu0]
  simp only[zzn,zz4,uuy];rw[e,xxr,AS hn xs k]
def xC{α:Type}{enc:α->Γ}(h1:∀x,∀v∈enc x,v.oneCell'=true)(xs:List α):∀v∈(xs.map enc).flatten,v.oneCell'=true:=by
 intro v hv;obtain⟨l,hl,hv⟩:=xx5.1 hv;obtain⟨x,_,rfl⟩:=zzy.1 hl;exact h1 x v hv
def zE{H:bw}{α:Type}{enc:α->Γ}{v:Ω}{n sz j:Nat}{k:IntKind}{xs:List α}{x:α}{K:Ω->Prop}(hS:SL W l w)(hm:Has (.mem H) l)(hn:∀x,(enc x).length=sz)(h:iD H sz v n (xs.map enc).flatten)(hx:xs[j]?=some x)(hj:j<n)(hK:K (agg (enc x))):
  zl sz v (.int k (j:Int)) λp=>ze sz p w K:=
 Yb h hj λb o hb=>QN hS hm (hn x) (λi u hu=>hb i u (by have:=(zzh.1 hu).1;rw[hn]at this;exact this) (uJ hn xs j i x u hx hu)) hK
def QM{H:bw}{α:Type}{enc:α->Γ}{v u:Ω}{n sz j i:Nat}{k:IntKind}{xs:List α}{x:α}{K:Ω->Prop}(hS:SL W l w)(hm:Has (.mem H) l)(hn:∀x,(enc x).length=sz)(h:iD H sz v n (xs.map enc).flatten)(hx:xs[j]?=some x)(hj:j<n)(hu:(enc x)[i]?=some u)(hK:K u):
  zl sz v (.int k (j:Int)) λp=>zn i p λq=>cI q w K:=
 Yb h hj λb o hb=>yI (I5 hS hm (hb i u (by have:=(zzh.1 hu).1;rw[hn]at this;exact this) (uJ hn xs j i x u hx hu)) hK)
end
def S'(P:Program)(T:List Bool)(sz:Nat)(v0:Ω)(v1:Ω)(v2:Ω)(w:Α)(R:Ω->Α->Prop):Prop:=
 zd v0 λv9=>
 zd v1 λv11=>
 zc .neq v9 v11 λv12=>
 iy v12
 (R (.bool false) w)
 (∃(I:Γ->Α->Prop) (μ:Γ->Α->Nat),I [(.int .i64 0)] w /\
 ∀(v7:Ω) uk,I [v7] uk ->
 zd v0 λJg=>
 zc .lss v7 Jg λEs=>
 iy Es
 (zj uk λwI=>
 zl sz v0 v7 λv22=>
 ze sz v22 wI λv23=>
 zl sz v1 v7 λv26=>
 ze sz v26 wI λv27=>
 zS P T v2 [v23,v27] wI λv28 Az=>
 Zf v28 λv29=>
 iy v29
 (R (.bool false) Az)
 (zc .add v7 (.int .i64 1) λGH=>
 I [GH] Az/\μ [GH] Az<μ [v7] uk))
 (R (.bool true) uk))
def f_h{P:Program}{T:List Bool}{f g:FuncId}{sz:Nat}{α:Type}[DecidableEq α]{enc:α->Γ}(hn:∀x,(enc x).length=sz)(hT:T.getD g false=true)
  (vc:∀v0 v1 v2 w R,S' P T sz v0 v1 v2 w R->zQ P f [v0,v1,v2] w R) (one:∀a b,Spec P g [agg (enc a),agg (enc b)] [] (e_ (.bool (decide (a=b))) []))
  (H:bw) (u v:Ω) (A B:List α) (hu:iD H sz u A.length (A.map enc).flatten) (hv:iD H sz v B.length (B.map enc).flatten) (hA:A.length<=9223372036854775806) :
  Spec P f [u,v,.func (.func g) #[] #[]] [.mem H] (e_ (.bool (decide (A=B))) [.mem H]):=by
 intro W F w hS;apply vc;unfold S';(try simp only[app]at hS);refine zo hu (zo hv ?_);refine cF (λh=>?_) (λh=>?_)
 ·have:A≠B:=λe=>by subst e;exact h rfl
  simp only[this,ww6];(exact dW hS)
 have hl:A.length=B.length:=by omega
 refine⟨λvs w=>∃k:Nat,vs=[.int .i64 k]/\k<=A.length/\A.take k=B.take k/\SL W (.mem H::F) w,λvs _=>match vs with|[.int _ k]=>(A.length-k).toNat|_=>0,⟨0,rfl,by omega,rfl,hS⟩,?_⟩;clear hS;rintro v7 w ⟨k,hv7,hk,vu,hS⟩;cases hv7;refine zo hu ?_;refine cF (λh=>?_) (λh=>?_)
 ·have ub:k<A.length:=by omega
  have kU:k<B.length:=by omega
  refine yw hS ?_;clear hS;intro w hS;refine zE hS .hd hn hu (x:=A[k]) (by simp[ub]) ub ?_;refine zE hS .hd hn hv (x:=B[k]) (by simp[kU]) kU ?_;refine yf (args':=[agg (enc A[k]),agg (enc B[k])]) hT (one A[k] B[k]) rfl hS .nil ?_;clear hS;rintro v post ⟨rfl,rfl⟩ w hS;(try simp only[app]at hS);refine Gp ?_
  refine zu (λhe=>?_) (λhe=>?_)
  ·have:A≠B:=λe=>by subst e;simp at he
   simp only[this,ww6];(exact dW hS)
  have rj:=zzl he;refine Gp ?_;refine⟨⟨k+1,by simp,by omega,?_,hS⟩,by dsimp only;omega⟩;rw[zze ub,zze kU,vu,rj]
 have:k=A.length:=by omega
 subst this;have:A=B:=by rw[zz1,hl,zz1]at vu;exact vu
 simp only[this,tth];(exact dW hS)
def Mw{α:Type}:∀(xs:List α) (t:Nat) (x:α),xs[t]?=some x->xs.Perm (x::xs.eraseIdx t)
 | [],t,x,h=>by simp at h
 | y::xs,0,x,h=>by simp at h;subst h;exact .refl _
 | y::xs,t+1,x,h=>((Mw xs t x (by simpa using h)).cons y).trans (.swap _ _ _)
def zg{α:Type}(A:α->zB)(xs:List α):zB:=star (xs.map λx=>.ob (A x))
section
variable {W w:Α} {l l':Ψ} {α:Type} {A:α->zB} {xs:List α}
def zg.iff:SL W (.ob (zg A xs)::l) w↔SL W ((xs.map λx=>Chunk.ob (A x))++l) w:=
 ⟨λh=>h.conv (λ_ s=>s),λh=>h.fold (λ_ s=>s)⟩
def zg.take{t:Nat}{x:α}(h:SL W (.ob (zg A xs)::l) w)(hx:xs[t]?=some x):SL W (.ob (A x)::.ob (zg A (xs.eraseIdx t))::l) w:=by
 have h1:=zg.iff.1 h;have p:(xs.map λx=>Chunk.ob (A x)).Perm (.ob (A x)::(xs.eraseIdx t).map λx=>Chunk.ob (A x)):=by
  exact (Mw xs t x hx).map λx=>Chunk.ob (A x)
 have h2:=h1.perm (p.append_right l);have h3:=h2.perm (l':=((xs.eraseIdx t).map λx=>Chunk.ob (A x))++(.ob (A x)::l)) (by simpa using vvy.symm);exact (zg.iff.2 h3).perm (.swap _ _ _)
def zg.put{t:Nat}{y:α}(h:SL W (.ob (A y)::.ob (zg A (xs.eraseIdx t))::l) w)(ht:t<xs.length):SL W (.ob (zg A (xs.set t y))::l) w:=by
 refine zg.iff.2 ?_;have h1:=zg.iff.1 (h.perm (.swap _ _ _));have p:(.ob (A y)::(xs.eraseIdx t).map λx=>Chunk.ob (A x)).Perm ((xs.set t y).map λx=>Chunk.ob (A x)):=by
  have:=(Mw (xs.set t y) t y (by simp[ht])).symm.map λx=>Chunk.ob (A x);rw[List.eraseIdx_set_eq]at this
  exact this
 refine h1.perm ?_;refine (vvy).trans ?_;exact p.append_right l
def zg.nil(h:SL W l w):SL W (.ob (zg A [])::l) w:=zg.iff.2 h
def zg.snoc{x:α}(h:SL W (.ob (zg A xs)::.ob (A x)::l) w):SL W (.ob (zg A (xs++[x]))::l) w:=by
 refine zg.iff.2 ?_;have h1:=zg.iff.1 h;simpa using h1
def bR.one{v:Ω}{t:Ε}{sz n:Nat}{cells:Γ}(h:SL W (.ob (bR v t sz n cells)::l) w):v.oneCell'=true:=by
 rcases bR.open h with ⟨⟨a,rfl⟩,_⟩|⟨b,cap,rest,rfl,_⟩<;>rfl
def Has.front{c:Η}(h:SL W l w){l2:Ψ}(r:lg c l l2):SL W (c::l2) w:=h.perm r.perm
def fWx{κ α:Type}{key:κ->Ω}{val:α->Ω}{p:Nat->Α->Prop}(hS:SL W l w)(h:∀b w',SL W (.ob (jH key val b [])::l) w'->p b w'):p w.heap.size (w.alloc (.map #[] 0)):=h _ _ hS.LZ
def zz{H:bw}{v:Ω}{t:Ε}{sz n:Nat}{cells:Γ}{F:Ψ}(hS:SL W l w)(hp:lJ [.mem H,.ob (bR v t sz n cells)] l F):∃H',H.le H'/\iD H' sz v n cells/\SL W (.mem H'::F) w:=bR.freeze (hS.pick hp)
def SL.L8(h:SL W l w):SL W (.mem bw.emp::l) w:=
 ⟨h.os,h.tape,h.output,let ⟨k,s,m⟩:=h.out;⟨k,⟨bw.emp,k,Sep.emp k,rfl,s⟩,m⟩⟩
def Has.rem{c:Η}(h:Has c l):∃l2,lg c l l2:=by
 induction h with
 | hd=>exact⟨_,.hd⟩
 | tl _ ih=>obtain⟨l2,r⟩:=ih;exact⟨_,.tl r⟩
def bR.at{v:Ω}{t:Ε}{sz n:Nat}{cells:Γ}(h:SL W l w)(m:Has (.ob (bR v t sz n cells)) l):
  ∃a cap,v= .slice a n cap/\cells.length=n*sz/\∀j,j<n->∃b,a=some ⟨b,0,none⟩/\∀i u,cells[i]?=some u->w.cell? ⟨b,i,none⟩=some u:=by
 obtain⟨l2,r⟩:=m.rem;rcases bR.open (h.perm r.perm) with ⟨⟨a,rfl⟩,rfl,rfl,_⟩|⟨b,cap,rest,rfl,hc,hl,hr,h2⟩
 ·exact⟨a,0,rfl,by simp,λj hj=>by omega⟩
 exact⟨_,cap,rfl,hl,λj hj=>⟨b,rfl,λi u hu=>h2.cell .hd (by rw[zzr (zzh.1 hu).1];exact hu)⟩⟩
def zt{v:Ω}{t:Ε}{sz n:Nat}{cells:Γ}{K:Ω->Prop}(h:SL W l w)(m:Has (.ob (bR v t sz n cells)) l)(k:K (.int .i64 n)):zd v K:=by
 obtain⟨a,cap,rfl,_⟩:=bR.at h m;exact yc k
def yg{v u:Ω}{t:Ε}{n j:Nat}{k:IntKind}{cells:Γ}{K:Ω->Prop}(h:SL W l w)(m:Has (.ob (bR v t 1 n cells)) l)(hj:j<n)(hu:cells[j]?=some u)(hK:K u):
  zl 1 v (.int k (j:Int)) λp=>cI p w K:=by
 obtain⟨a,cap,rfl,_,h2⟩:=bR.at h m;obtain⟨b,rfl,h3⟩:=h2 j hj;refine zF hj ⟨_,u,rfl,h3 _ u ?_,hK⟩;rw[yyd,vvr];exact hu
def zU{α:Type}{enc:α->Γ}{v:Ω}{t:Ε}{n sz j:Nat}{k:IntKind}{xs:List α}{x:α}{K:Ω->Prop}(h:SL W l w)(m:Has (.ob (bR v t sz n (xs.map enc).flatten)) l)(hn:∀x,(enc x).length=sz)(hx:xs[j]?=some x)(hj:j<n)(hK:K (agg (enc x))):
  zl sz v (.int k (j:Int)) λp=>ze sz p w K:=by
 obtain⟨a,cap,rfl,_,h2⟩:=bR.at h m;obtain⟨b,rfl,h3⟩:=h2 j hj;refine zF hj ⟨_,enc x,rfl,hn x,λi u hu=>?_,hK⟩;rw[yyb,yyd];exact h3 _ u (uJ hn xs j i x u hx hu)
def yq{α:Type}{enc:α->Γ}{v u:Ω}{t:Ε}{n sz j i:Nat}{k:IntKind}{xs:List α}{x:α}{K:Ω->Prop}(h:SL W l w)(m:Has (.ob (bR v t sz n (xs.map enc).flatten)) l)(hn:∀x,(enc x).length=sz)(hx:xs[j]?=some x)(hj:j<n)(hu:(enc x)[i]?=some u)(hK:K u):
  zl sz v (.int k (j:Int)) λp=>zn i p λq=>cI q w K:=by
 obtain⟨a,cap,rfl,_,h2⟩:=bR.at h m;obtain⟨b,rfl,h3⟩:=h2 j hj;refine zF hj (yI ⟨_,u,rfl,?_,hK⟩);rw[yyd];exact h3 _ u (uJ hn xs j i x u hx hu)
def sC{v:Ω}{t:Ε}{sz n:Nat}{cells:Γ}(h:SL W l w)(m:Has (.ob (bR v t sz n cells)) l):oZ w sz v n cells:=by
 obtain⟨a,cap,rfl,h1,h2⟩:=bR.at h m;rcases yy8 n with rfl|hn
 ·have:cells=[]:=zzo (by simpa using h1);subst this;cases a with
  | none=>exact⟨rfl,rfl⟩
  | some p=>exact⟨rfl,by simp,λj v e=>by simp at e⟩
 obtain⟨b,rfl,h3⟩:=h2 0 hn;exact⟨rfl,h1,λj v e=>by rw[yyb,yyd];exact h3 j v e⟩
end
def iB(v:Ω)(t:Ε)(sz n:Nat)(cells:Γ):zB:=nT λx:Option (Nat × Γ × Nat × Γ)=>match x with
 | none=>zG ((∃a,v= .slice a 0 0)/\n=0/\cells=[]) []
 | some (b,pre,cap,rest)=>zG (v= .slice (some ⟨b,pre.length,none⟩) n cap/\n<=cap/\cells.length=n*sz/\rest.length=(cap-n)*sz) [.pt b (pre++(cells++rest)) t]
section
variable {W w:Α} {l:Ψ} {v:Ω} {t:Ε} {sz n:Nat} {cells:Γ}
def iB.open(h:SL W (.ob (iB v t sz n cells)::l) w):
  ((∃a,v= .slice a 0 0)/\n=0/\cells=[]/\SL W l w)\/∃b pre cap rest,v= .slice (some ⟨b,pre.length,none⟩) n cap/\n<=cap/\cells.length=n*sz/\rest.length=(cap-n)*sz/\SL W (.pt b (pre++(cells++rest)) t::l) w:=by
 unfold iB at h;obtain⟨x,h⟩:=SL.ex.1 h
 match x,h with
 | none,h=>
  obtain⟨⟨h1,h2,h3⟩,h⟩:=SL.fact.1 h;exact .inl ⟨h1,h2,h3,h⟩
 | some (b,pre,cap,rest),h=>
  obtain⟨⟨h1,h2,h3,h4⟩,h⟩:=SL.fact.1 h;exact .inr ⟨b,pre,cap,rest,h1,h2,h3,h4,h⟩
def iB.vz{a:Option Addr}(h:SL W l w):SL W (.ob (iB (.slice a 0 0) t sz 0 [])::l) w:=by
 unfold iB;exact SL.ex.2 ⟨none,SL.fact.2 ⟨⟨⟨_,rfl⟩,rfl,rfl⟩,h⟩⟩
def iB.mk{b cap o:Nat}{pre rest:Γ}(h1:n<=cap)(h2:cells.length=n*sz)(h3:rest.length=(cap-n)*sz)(ho:pre.length=o)(h:SL W (.pt b (pre++(cells++rest)) t::l) w):
  SL W (.ob (iB (.slice (some ⟨b,o,none⟩) n cap) t sz n cells)::l) w:=by
 subst ho;unfold iB;exact SL.ex.2 ⟨some (b,pre,cap,rest),SL.fact.2 ⟨⟨rfl,h1,h2,h3⟩,h⟩⟩
def iB.of(h:SL W (.ob (bR v t sz n cells)::l) w):SL W (.ob (iB v t sz n cells)::l) w:=by
 rcases bR.open h with ⟨⟨a,rfl⟩,rfl,rfl,hS⟩|⟨b,cap,rest,rfl,hc,hl,hr,hS⟩
 ·exact iB.vz hS
 exact iB.mk (pre:=[]) hc hl hr rfl (by simpa using hS)
def iB.at(h:SL W l w)(m:Has (.ob (iB v t sz n cells)) l):∃a cap,v= .slice a n cap/\n<=cap/\cells.length=n*sz:=by
 obtain⟨l2,r⟩:=m.rem;rcases iB.open (h.perm r.perm) with ⟨⟨a,rfl⟩,rfl,rfl,_⟩|⟨b,pre,cap,rest,rfl,hc,hl,_⟩
 ·exact⟨a,0,rfl,zzi _,by simp⟩
 exact⟨_,cap,rfl,hc,hl⟩
def iB.one(h:SL W l w)(m:Has (.ob (iB v t sz n cells)) l):v.oneCell'=true:=by
 obtain⟨a,cap,rfl,_⟩:=iB.at h m;rfl
def zN{K:Ω->Prop}(h:SL W l w)(m:Has (.ob (iB v t sz n cells)) l)(k:K (.int .i64 n)):zd v K:=by
 obtain⟨a,cap,rfl,_⟩:=iB.at h m;exact yc k
def yZ{j:Nat}{k:IntKind}{K:Ω->Prop}(h:SL W l w)(m:Has (.ob (iB v t sz n cells)) l)(hj:j<n)
  (hK:∀b o,(∀i u,i<sz->cells[j*sz+i]?=some u->w.cell? ⟨b,o+i,none⟩=some u)->K (.pointer (some ⟨b,o,none⟩))):zl sz v (.int k (j:Int)) K:=by
 obtain⟨l2,r⟩:=m.rem;rcases iB.open (h.perm r.perm) with ⟨⟨a,rfl⟩,rfl,rfl,_⟩|⟨b,pre,cap,rest,rfl,hc,hl,hr,hS⟩
 ·omega
 refine zF hj (hK b (pre.length+j*sz) λi u hi hu=>hS.cell .hd ?_);rw[ww9,yya (by omega),xx6,zzr (zzh.1 hu).1];exact hu
def Yc{k:Nat}{kk:IntKind}{K:Ω->Prop}(hS:SL W (.ob (iB v t sz n cells)::l) w)(hk:k<=n)(hK:∀u,SL W (.ob (iB u t sz (n-k) (cells.drop (k*sz)))::l) w->K u):kh sz v (some (.int kk (k:Int))) none none K:=by
 rcases iB.open hS with ⟨⟨a,rfl⟩,rfl,rfl,lL⟩|⟨b,pre,cap,rest,rfl,hc,hl,hr,lL⟩
 ·obtain rfl:k=0:=by omega
  refine⟨a,0,0,0,0,0,rfl,rfl,rfl,⟨kk,rfl⟩,zzi _,zzi _,zzi _,?_⟩;rw[zzc rfl];exact hK _ (by simpa using iB.vz (t:=t) (sz:=sz) (a:=a) lL)
 refine⟨_,n,cap,k,n,cap,rfl,rfl,rfl,⟨kk,rfl⟩,hk,hc,zzi _,hK _ ?_⟩;by_cases e:cap=k
 ·obtain rfl:n=k:=by omega
  rw[zzc e,Nat.sub_self,show cap-n=0 by omega,yy3 (by omega)];exact iB.vz lL.drop
 rw[zzb e];have iw:k*sz<=cells.length:=by rw[hl];exact yyt _ hk
 have e1:(some (⟨b,pre.length,none⟩:Addr)).map (·.add (k*sz))=some ⟨b,pre.length+k*sz,none⟩:=by simp[yyb]
 rw[e1];refine iB.mk (pre:=pre++cells.take (k*sz)) (rest:=rest) (by omega) (by rw[zzq,hl,wwf]) (by rw[hr];congr 1;omega) (by rw[zza,zzf];omega) ?_;rw[zzk,<- zzk (cells.take (k*sz)),yyl];exact lL
def ZP{x y:Ω}{l5 m:Nat}{z cs:Γ}{F:Ψ}{K:Ω->Α->Prop}(hS:SL W l w)(hr:lg (.ob (iB x t sz n cells)) l F)(mr:oZ w sz y m cs)
  (hl:cs.length=m*sz) (hz:z.length=sz) (h1:∀v∈cs,v.oneCell'=true) (hb:(n+m)*l5<=140737488355328) (hn:n+m<=140737488355328)
  (h:∀v' w',SL W (.ob (iB v' t sz (n+m) (cells++cs))::F) w'->K v' w'):zx sz l5 z t x y w K:=by
 rcases iB.open (hS.perm hr.perm) with ⟨⟨a,rfl⟩,rfl,rfl,lL⟩|⟨b,pre,cap,rest,rfl,hc,hlen,nY,lL⟩
 ·refine⟨a,0,0,m,cs,rfl,mr,hb,hn,λh0=>?_,λh0=>⟨[],(by cases a with|none=>exact⟨rfl,rfl⟩|some p=>exact⟨rfl,by simp,λj v e=>by simp at e⟩),λc lP oz=>?_⟩⟩
  ·have hm:m=0:=by omega
   subst hm;have:cs=[]:=zzo (by simpa using hl);subst this;cases a with
   | none=>exact h _ _ (iB.vz lL)
   | some p=>exact h _ _ (iB.vz lL)
  refine h _ _ ?_;have:=iB.mk (sz:=sz) (n:=0+m) (cells:=cs) (pre:=[]) (rest:=fR z (c-(0+m))) (cap:=c) lP (by simpa using hl) (by rw[p5,hz]) rfl (SL.new (cs:=[]++(cs++fR z (c-(0+m)))) (t:=t) (lL.drew));simpa using this
 refine⟨some ⟨b,pre.length,none⟩,n,cap,m,cs,rfl,mr,hb,hn,λh0=>?_,λh0=>?_⟩
 ·have uP:cs.length<=rest.length:=by
   rw[hl,nY];exact yyt _ (by omega)
  show xF (Addr.add ⟨b,pre.length,none⟩ (n*sz)) 0 cs w _;rw[yyb];refine Em (t:=t) cs (pre.length+n*sz) 0 (pre++(cells++rest)) w (.pt b (pre++(cells++rest)) t::F) _ lL .hd (by simp[hlen];omega) h1 (λw' uL=>h _ _ ?_);have e:uZ (pre++(cells++rest)) (pre.length+n*sz+0) cs=pre++((cells++cs)++rest.drop cs.length):=by
   rw[show pre.length+n*sz+0=(pre++cells).length by rw[zza];omega,<- zzk,X9 uP];simp
  rw[e]at uL
  exact iB.mk (n:=n+m) (cells:=cells++cs) (rest:=rest.drop cs.length) h0 (by simp[hlen,hl,yyy]) (by
   rw[zzq,nY,hl,<- wwf];congr 1;omega) rfl uL
 refine⟨cells,⟨rfl,hlen,λj v e=>?_⟩,λc lP oz=>h _ _ ?_⟩
 ·rw[yyb];refine lL.cell .hd ?_;rw[yya (by omega),xx6,zzr (zzh.1 e).1];exact e
 have:=iB.mk (sz:=sz) (n:=n+m) (cells:=cells++cs) (pre:=[]) (rest:=fR z (c-(n+m))) (cap:=c) lP (by simp[hlen,hl,yyy]) (by rw[p5,hz]) rfl (SL.new (cs:=[]++((cells++cs)++fR z (c-(n+m)))) (t:=t) (lL.drop.drew));simpa using this
def iB.block(hS:SL W (.ob (iB v t sz n cells)::l) w)(hn:0<n):∃b pre cap rest,v= .slice (some ⟨b,pre.length,none⟩) n cap/\n<=cap/\cells.length=n*sz/\rest.length=(cap-n)*sz/\SL W (.pt b (pre++(cells++rest)) t::l) w:=by
 rcases iB.open hS with ⟨_,h0,_⟩|h
 ·omega
 exact h
end
