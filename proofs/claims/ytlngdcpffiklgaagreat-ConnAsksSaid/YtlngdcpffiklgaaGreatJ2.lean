/- Part. -/
import Derived.Test.YtlngdcpffiklgaaGreatJ1
namespace Go.Proofs.YtlngdcpffiklgaaGreat
set_option linter.all false
open Go.RowKit
abbrev Μ:=Chunk
abbrev Β:=List Μ
def yy3:=@MapKept.run_getObj_map
def xxl:=@MapKept.run_checkKey
def wwa:=@MapKept.run_findKey
def wwo:=@MapKept.run_setObj_map
def zze:=@List.take_succ_eq_append_getElem
def wwz:=@decide_false
def uuk:=@Nat.zero_mul
def wwp:=@Nat.one_mul
def uu2:=@Nat.add_comm
def xxz:=@List.take_succ_cons
def uu0:=@List.drop_succ_cons
def wwg:=@List.mem_flatten
def zz0:=@List.take_length
def ttb:=@decide_true
def wwq:=@Nat.mul_one
def wwh:=@Nat.add_sub_cancel_left
def zzg:=@List.length_take
def zzk:=@List.append_assoc
structure Av{κ:Type}(d:TypeDesc)(key:κ->Ε):Prop where
 is:∀k,MapKept.IsKey d (key k)
 inj:∀{a b},key a=key b->a=b
def py(k:IntKind):Av (.int k) (Value.int k):=⟨λ_=>rfl,λh=>by cases h;rfl⟩
section
variable {κ α:Type} [DecidableEq κ]
def fT:List (κ × α)->κ->Option α
 | [],_=>none
 | p::m,k=>if p.1=k then some p.2 else fT m k
def gM:List (κ × α)->κ->α->List (κ × α)
 | [],k,v=>[(k,v)]
 | p::m,k,v=>if p.1=k then (k,v)::m else p::gM m k v
def rO:List (κ × α)->κ->List (κ × α)
 | [],_=>[]
 | p::m,k=>if p.1=k then m else p::rO m k
def kv(e:MapEntry):Ε × Ε:=(e.key,e.val)
def kw(key:κ->Ε)(val:α->Ε)(p:κ × α):Ε × Ε:=(key p.1,val p.2)
def CT{d:TypeDesc}{key:κ->Ε}{val:α->Ε}(ok:Av d key)(k:κ):∀(es:List MapEntry) (m:List (κ × α)) (i:Nat),es.map kv=m.map (kw key val) ->
  (Instr.findNow d (key k) es i=some none/\fT m k=none/\(∀v,gM m k v=m++[(k,v)])/\rO m k=m/\∀x∈es,x.key≠key k) \/
  ∃j e a,Instr.findNow d (key k) es i=some (some (i+j,val a))/\es[j]?=some e/\e.key=key k/\fT m k=some a /\
   (∀v,(es.modify j λe=>{e with key:=key k,val:=val v}).map kv=(gM m k v).map (kw key val))/\(es.eraseIdx j).map kv=(rO m k).map (kw key val)
 | [],[],_,_=>.inl ⟨rfl,rfl,λ_=>rfl,rfl,by simp⟩
 | [],_::_,_,h=>by simp at h
 | _::_,[],_,h=>by simp at h
 | e::es,p::m,i,h=>by
  simp only[zzr,List.cons.injEq]at h;obtain⟨h1,h2⟩:=h;obtain⟨x,y⟩:=p;simp only[kv,kw,wwl]at h1;obtain⟨pf,A4⟩:=h1;obtain⟨r,hr,FO⟩:=MapKept.sameNow_of_keys (ok.is k) (ok.is x);by_cases hx:x=k
  ·subst hx;obtain rfl:r=true:=FO.2 rfl;refine .inr ⟨0,e,y,by simp[Instr.findNow,pf,hr,A4],rfl,pf,by simp[fT],?_,?_⟩
   ·intro v;simp[gM,kv,kw];exact h2
   simp[rO,h2]
  have hr':r=false:=by
   cases r with
   | false=>rfl
   | true=>exact absurd (ok.inj (FO.1 rfl)).symm hx
  subst hr';rcases CT ok k es m (i+1) h2 with ⟨a1,a2,a3,a4,a5⟩|⟨j,e',a,a1,a2,a3,a4,a5,a6⟩
  ·refine .inl ⟨by simp[Instr.findNow,pf,hr,a1],by simp[fT,hx,a2],λv=>by simp[gM,hx,a3],by simp[rO,hx,a4],?_⟩;intro z hz;rcases zz1.1 hz with rfl|hz
   ·rw[pf];exact λq=>hx (ok.inj q)
   exact a5 z hz
  refine .inr ⟨j+1,e',a,by simp[Instr.findNow,pf,hr,a1];omega,by simpa using a2,a3,by simp[fT,hx,a4],?_,?_⟩
  ·intro v;simp[gM,hx,kv,kw,pf,A4];exact a5 v
  simp[rO,hx,kv,kw,pf,A4];exact a6
end
def eJ{κ α:Type}(key:κ->Ε)(val:α->Ε)(b:Nat)(m:List (κ × α)):zC:=
 jT λx:List MapEntry × Nat=>zH (x.1.map kv=m.map (kw key val)/\MapKept.Stamped x.1.toArray x.2) [.mp b x.1 x.2]
section
variable {W w:Ζ} {l l':Β} {κ α:Type} [DecidableEq κ] {key:κ->Ε} {val:α->Ε} {b:Nat} {m:List (κ × α)}
omit [DecidableEq κ] in
def eJ.of{es:List MapEntry}{c:Nat}(h1:es.map kv=m.map (kw key val))(h2:MapKept.Stamped es.toArray c):(Chunk.ob (eJ key val b m)).holds (bw.one b (.map es.toArray c)):=
 ⟨(es,c),⟨h1,h2⟩,⟨bw.one b (.map es.toArray c),bw.emp,λx=>.inr ⟨rfl,rfl⟩,rfl,rfl⟩⟩
omit [DecidableEq κ] in
def cIu{c:Μ}{k:bw}(h:star [c] k):c.holds k:=by
 obtain⟨h1,h2,s,a,r⟩:=h;obtain rfl:h2=bw.emp:=r;have:k=h1:=funext λb=>by
  rcases s b with ⟨x,y⟩|⟨x,y⟩
  ·rw[x,y];rfl
  exact y
 rw[this];exact a
omit [DecidableEq κ] in
def eJ.out{k:bw}(h:(Chunk.ob (eJ key val b m)).holds k):∃(es:List MapEntry) (c:Nat),es.map kv=m.map (kw key val)/\MapKept.Stamped es.toArray c/\k=bw.one b (.map es.toArray c):=by
 obtain⟨⟨es,c⟩,⟨h1,h2⟩,h3⟩:=h;exact⟨es,c,h1,h2,cIu h3⟩
omit [DecidableEq κ] in
def SL.z_(h:SL W l w)(hm:Has (.ob (eJ key val b m)) l):∃(es:List MapEntry) (c:Nat),es.map kv=m.map (kw key val)/\MapKept.Stamped es.toArray c/\w.heap[b]?=some (.map es.toArray c):=by
 obtain⟨k,s,x⟩:=h.out;obtain⟨h1,hh,le⟩:=hm.heap s;obtain⟨es,c,e1,e2,rfl⟩:=eJ.out hh;exact⟨es,c,e1,e2,x b _ (le b _ (by simp[bw.one]))⟩
omit [DecidableEq κ] in
def SL.BE{m':List (κ × α)}{es:List MapEntry}{c:Nat}{o:Obj}(h:SL W l w)(u:gj (.ob (eJ key val b m)) (.ob (eJ key val b m')) l l')(hb:w.heap[b]?=some o)(h1:es.map kv=m'.map (kw key val))(h2:MapKept.Stamped es.toArray c):
  SL W l' {w with heap:=w.heap.setIfInBounds b (.map es.toArray c)}:=
 h.rX (b:=b) (o':=.map es.toArray c) u (λk hk=>by obtain⟨es,c,_,_,rfl⟩:=eJ.out hk;exact⟨_,rfl⟩) (eJ.of h1 h2) (MapKept.heap_set hb).1 (MapKept.heap_set hb).2 rfl rfl rfl
omit [DecidableEq κ] in
def SL.Kb(h:SL W l w):SL W (.ob (eJ key val w.heap.size [])::l) (w.alloc (.map #[] 0)):=h.alloc (eJ.of (es:=[]) rfl (MapKept.stamped_empty 0))
variable {P:Program} {t kt et:Ι} {d:TypeDesc} {z:Ε} {k:κ}
def qf{K:Ε->Prop}(hS:SL W l w)(hm:Has (.ob (eJ key val b m)) l)(ok:Av d key)(ht:P.underlying t=some (.map kt et))(hd:P.underlying kt=some d)(hz:∀w,(zeroValue et).run P w= .ok z w)
  (h:K (.tuple #[((fT m k).map val).getD z,.bool (fT m k).isSome])):eS P (Instr.lookup t (.map (some b)) (key k) true) w K:=by
 obtain⟨es,c,e1,e2,hb⟩:=hS.z_ hm;rcases CT ok k es m 0 e1 with ⟨a1,a2,_,_,_⟩|⟨j,e,a,a1,_,_,a4,_,_⟩
 ·refine⟨_,?_,h⟩;simp[Instr.lookup,zzy ht,yy3 hb,xxl hd (ok.is k),wwa hd a1,hz,Result.andThen,a2]
 refine⟨_,?_,h⟩;simp[Instr.lookup,zzy ht,yy3 hb,xxl hd (ok.is k),wwa hd a1,Result.andThen,a4]
def yO{K:Ε->Prop}(hS:SL W l w)(hm:Has (.ob (eJ key val b m)) l)(ok:Av d key)(ht:P.underlying t=some (.map kt et))(hd:P.underlying kt=some d)(hz:∀w,(zeroValue et).run P w= .ok z w)
  (h:K (((fT m k).map val).getD z)):eS P (Instr.lookup t (.map (some b)) (key k) false) w K:=by
 obtain⟨es,c,e1,e2,hb⟩:=hS.z_ hm;rcases CT ok k es m 0 e1 with ⟨a1,a2,_,_,_⟩|⟨j,e,a,a1,_,_,a4,_,_⟩
 ·refine⟨_,?_,h⟩;simp[Instr.lookup,zzy ht,yy3 hb,xxl hd (ok.is k),wwa hd a1,hz,Result.andThen,a2]
 refine⟨_,?_,h⟩;simp[Instr.lookup,zzy ht,yy3 hb,xxl hd (ok.is k),wwa hd a1,Result.andThen,a4]
def q5{v:α}{K:Ε->Ζ->Prop}(hS:SL W l w)(u:gj (.ob (eJ key val b m)) (.ob (eJ key val b (gM m k v))) l l')(ok:Av d key)(ht:P.underlying t=some (.map kt et))(hd:P.underlying kt=some d)
  (h:∀u w',SL W l' w'->K u w'):zS P (do Instr.mapUpdate t (.map (some b)) (key k) (val v);pure undef) w K:=by
 obtain⟨es,c,e1,e2,hb⟩:=hS.z_ u.has;have hks:∀x∈es,∃p∈m,x.key=key p.1:=λx hx=>by
  have:kv x∈es.map kv:=zzx.2 ⟨x,hx,rfl⟩;rw[e1]at this
  obtain⟨p,hp,hq⟩:=zzx.1 this;exact⟨p,hp,(Prod.mk.inj hq).1.symm⟩
 rcases CT ok k es m 0 e1 with ⟨a1,_,a3,_,a5⟩|⟨j,e,a,a1,a2,a3,_,a5,_⟩
 ·refine⟨undef,{w with heap:=w.heap.setIfInBounds b (.map (es++[({key:=key k,val:=val v,born:=c}:MapEntry)]).toArray (c+1))},?_,h _ _ (hS.BE u hb (by rw[a3];simp[e1,kv,kw]) ?_)⟩
  ·simp[Instr.mapUpdate,zzy ht,yy3 hb,xxl hd (ok.is k),wwa hd a1,wwo _ hb,Result.andThen]
  have:=MapKept.stamped_push e2 (key:=key k) (val:=val v) (by simpa using a5);simpa using this
 refine⟨undef,{w with heap:=w.heap.setIfInBounds b (.map (es.modify j λe=>{e with key:=key k,val:=val v}).toArray c)},?_,h _ _ (hS.BE u hb (a5 v) ?_)⟩
 ·have hj:es.toArray[j]?=some e:=by simpa using a2
  simp[Instr.mapUpdate,zzy ht,yy3 hb,xxl hd (ok.is k),wwa hd a1,a2,a3,MapKept.run_keyThatStays (ok.is k),wwo _ hb,Result.andThen]
 have xI:∀e',es.toArray[j]?=some e'->({e' with key:=key k,val:=val v}:MapEntry).key=e'.key:=λe' lk=>by
  have:es[j]?=some e':=by simpa using lk
  rw[a2]at this;cases this;exact a3.symm
 have:=MapKept.stamped_modify e2 j (λe=>{e with key:=key k,val:=val v}) (λ_ _=>rfl) (λe' _ lk=>xI e' lk);simpa using this
def cG2{ty kt':Ι}{K:Ε->Ζ->Prop}(hS:SL W l w)(u:gj (.ob (eJ key val b m)) (.ob (eJ key val b (rO m k))) l l')(ok:Av d key)(ht:P.underlying t=some (.map kt et))(hd:P.underlying kt=some d)
  (h:∀u w',SL W l' w'->K u w'):zS P (Builtin.delete_ #[t,kt'] ty #[.map (some b),key k]) w K:=by
 obtain⟨es,c,e1,e2,hb⟩:=hS.z_ u.has;rcases CT ok k es m 0 e1 with ⟨a1,_,_,a4,_⟩|⟨j,e,a,a1,a2,_,_,_,a6⟩
 ·refine⟨.tuple #[],{w with heap:=w.heap.setIfInBounds b (.map es.toArray c)},?_,h _ _ (hS.BE u hb (by rw[a4];exact e1) e2)⟩;simp[Builtin.delete_,zzy ht,yy3 hb,xxl hd (ok.is k),wwa hd a1,wwo _ hb,Result.andThen]
 have dj:j<es.length:=(zzf.1 a2).1;have hse:es.toArray.eraseIdxIfInBounds j=(es.eraseIdx j).toArray:=by simp[Array.eraseIdxIfInBounds,dj]
 refine⟨.tuple #[],{w with heap:=w.heap.setIfInBounds b (.map (es.eraseIdx j).toArray c)},?_,h _ _ (hS.BE u hb a6 ?_)⟩
 ·simp[Builtin.delete_,zzy ht,yy3 hb,xxl hd (ok.is k),wwa hd a1,wwo _ hb,Result.andThen]
 have:=MapKept.stamped_erase e2 j
 rwa [hse]at this
omit [DecidableEq κ] in
end
abbrev KI:Int->Ε:=Value.int .i64
structure Cell where
 key:Int
 aw:Int
 gone:Bool
 val:Η
deriving DecidableEq
structure Row where
 key:Int
 val:Η
deriving DecidableEq
structure gx where
 aw:Int
 table:Int
 key:Int
 gone:Bool
 val:Η
deriving DecidableEq
def iT(c:Cell):Ξ:=[Γ c.key,Γ c.aw,.bool c.gone,.string c.val]
def eD(c:Row):Ξ:=[Γ c.key,.string c.val]
def jO(o:gx):Ξ:=[Γ o.aw,Γ o.table,Γ o.key,.bool o.gone,.string o.val]
def S8(c:Cell):(iT c).length=4:=rfl
def jt(c:Row):(eD c).length=2:=rfl
def bIu(o:gx):(jO o).length=5:=rfl
def bIn(c:Cell):∀v∈iT c,v.oneCell'=true:=by simp[iT,Value.oneCell']
def bIv(c:Row):∀v∈eD c,v.oneCell'=true:=by simp[eD,Value.oneCell']
def CL(o:gx):∀v∈jO o,v.oneCell'=true:=by simp[jO,Value.oneCell']
abbrev agg(l:Ξ):Ε:=.agg l.toArray
def pN(c:Cell):Ε:=agg (iT c)
def bRx(c:Cell)(z:Ξ)(hz:z.length=4):ib (cQ z 1) [(0,4,pN c)]=some (iT c):=by
 simp[ib,cQ,pN,Value.cells,iT,hz]
def vF{α:Type}(enc:α->Ξ)(xs:List α)(x:α):((xs++[x]).map enc).flatten=(xs.map enc).flatten++enc x:=by simp
def bR5{α:Type}(enc:α->Ξ)(xs:List α)(k:Nat)(h:k<xs.length):((xs.take (k+1)).map enc).flatten=((xs.take k).map enc).flatten++enc xs[k]:=by
 rw[zze h,vF]
section
variable {W w:Ζ} {l:Β} {P:Program}
def y8{t:Ι}{xs ys:Ξ}{p:Prop}[Decidable p]{K:Ε->Prop}(h:(Op.equal t (agg xs) (agg ys)).run P w= .ok (decide p) w)(hK:K (.bool (decide p))):yP P t false (agg xs) (agg ys) w K:=
 ⟨_,_,_,rfl,rfl,h,hK⟩
def bRw{t:Ι}{fs:Array Field}(h:P.underlying t=some (.struct fs)):P.fieldsOf t=fs:=by unfold Program.fieldsOf;rw[h]
def wy{t:Ι}{fs:Array Field}{xs ys:Ξ}{b:Bool}(h:P.underlying t=some (.struct fs))(hp:P.stoodInHeld t=false)(he:(Op.eqFields 9999 xs.toArray ys.toArray fs.toList).run P w= .ok b w):(Op.equal t (agg xs) (agg ys)).run P w= .ok b w:=by
 have hf:=bRw h;unfold Op.equal Op.maxDepth;rw[run_equalIn_agg w 9999 t _ _ (by rw[hf];exact h) hp,hf];exact he
def aWs(a b:Η):(a.toList == b.toList)=decide (a=b):=by
 rw[<- beq_toListBytes];by_cases h:a=b
 ·subst h;simp[(MapKept.bytes_beq a a).2 rfl]
 simp only[h,wwz];cases hb:a == b with
 | false=>rfl
 | true=>exact absurd ((MapKept.bytes_beq a b).1 hb) h
def toList_inj(a b:Η):(a.toList=b.toList)=(a=b):=by
 have:=aWs a b;by_cases h:a=b
 ·subst h;simp
 simp only[h,wwz,beq_eq_false_iff_ne]at this;simp[h,this]
def mN{α:Type}{enc:α->Ξ}{n:Nat}(hn:∀x,(enc x).length=n)(xs:List α):((xs.map enc).flatten).length=xs.length*n:=by
 induction xs with
 | nil=>simp
 | cons x xs ih=>simp[hn,ih,yyu];omega
def pX{α:Type}{enc:α->Ξ}{n:Nat}(hn:∀x,(enc x).length=n):∀(xs:List α) (j i:Nat) (x:α) (u:Ε),xs[j]?=some x->(enc x)[i]?=some u->((xs.map enc).flatten)[j*n+i]?=some u
 | [],j,i,x,u,h,_=>by simp at h
 | y::xs,0,i,x,u,h,hu=>by
  simp at h;subst h;have:i<(enc y).length:=(zzf.1 hu).1;simp only[zzr,zz9,uuk,yya];rw[zzm this];exact hu
 | y::xs,j+1,i,x,u,h,hu=>by
  have ih:=pX hn xs j i x u (by simpa using h) hu;simp only[zzr,zz9];rw[yyb (by rw[hn,yyu];omega),hn];rw[show (j+1)*n+i-n=j*n+i by rw[yyu];omega];exact ih
def uz{α:Type}{enc:α->Ξ}{n:Nat}(hn:∀x,(enc x).length=n):∀(xs:List α) (k:Nat),(xs.map enc).flatten.take (k*n)=((xs.take k).map enc).flatten
 | [],k=>by simp
 | x::xs,0=>by simp
 | x::xs,k+1=>by
  have e:(k+1)*n=(enc x).length+k*n:=by rw[hn,yyu,wwp,uu2]
  simp only[zzr,zz9,xxz];rw[e,xx0,uz hn xs k]
def vE{α:Type}{enc:α->Ξ}{n:Nat}(hn:∀x,(enc x).length=n):∀(xs:List α) (k:Nat),(xs.map enc).flatten.drop (k*n)=((xs.drop k).map enc).flatten
 | [],k=>by simp
 | x::xs,0=>by simp
 | x::xs,k+1=>by
  have e:(k+1)*n=(enc x).length+k*n:=by rw[hn,yyu,wwp,uu2]
  simp only[zzr,zz9,uu0];rw[e,xxe,vE hn xs k]
def sW{α:Type}{enc:α->Ξ}(h1:∀x,∀v∈enc x,v.oneCell'=true)(xs:List α):∀v∈(xs.map enc).flatten,v.oneCell'=true:=by
 intro v hv;obtain⟨l,hl,hv⟩:=wwg.1 hv;obtain⟨x,_,rfl⟩:=zzx.1 hl;exact h1 x v hv
def zF{H:bw}{α:Type}{enc:α->Ξ}{v:Ε}{n sz j:Nat}{k:IntKind}{xs:List α}{x:α}{K:Ε->Prop}(hS:SL W l w)(hm:Has (.mem H) l)(hn:∀x,(enc x).length=sz)(h:de H sz v n (xs.map enc).flatten)(hx:xs[j]?=some x)(hj:j<n)(hK:K (agg (enc x))):
  zk sz v (.int k (j:Int)) λp=>ze sz p w K:=
 Yo h hj λb o hb=>Q3 hS hm (hn x) (λi u hu=>hb i u (by have:=(zzf.1 hu).1;rw[hn]at this;exact this) (pX hn xs j i x u hx hu)) hK
def Q2{H:bw}{α:Type}{enc:α->Ξ}{v u:Ε}{n sz j i:Nat}{k:IntKind}{xs:List α}{x:α}{K:Ε->Prop}(hS:SL W l w)(hm:Has (.mem H) l)(hn:∀x,(enc x).length=sz)(h:de H sz v n (xs.map enc).flatten)(hx:xs[j]?=some x)(hj:j<n)(hu:(enc x)[i]?=some u)(hK:K u):
  zk sz v (.int k (j:Int)) λp=>zl i p λq=>cC q w K:=
 Yo h hj λb o hb=>yN (GN hS hm (hb i u (by have:=(zzf.1 hu).1;rw[hn]at this;exact this) (pX hn xs j i x u hx hu)) hK)
end
def RE(P:Program)(T:List Bool)(sz:Nat)(v0:Ε)(v1:Ε)(v2:Ε)(w:Ζ)(R:Ε->Ζ->Prop):Prop:=
 zd v0 λv9=>
 zd v1 λv11=>
 zc .neq v9 v11 λv12=>
 df v12
 (R (.bool false) w)
 (∃(I:Ξ->Ζ->Prop) (μ:Ξ->Ζ->Nat),I [(Γ 0)] w /\
 ∀(v7:Ε) iI,I [v7] iI ->
 zd v0 λwD=>
 zc .lss v7 wD λwE=>
 df wE
 (zi iI λiz=>
 zk sz v0 v7 λv22=>
 ze sz v22 iz λv23=>
 zk sz v1 v7 λv26=>
 ze sz v26 iz λv27=>
 zK P T v2 [v23,v27] iz λv28 na=>
 y6 v28 λv29=>
 df v29
 (R (.bool false) na)
 (zc .add v7 (Γ 1) λrY=>
 I [rY] na/\μ [rY] na<μ [v7] iI))
 (R (.bool true) iI))
def GO{P:Program}{T:List Bool}{f g:FuncId}{sz:Nat}{α:Type}[DecidableEq α]{enc:α->Ξ}(hn:∀x,(enc x).length=sz)(hT:T.getD g false=true)
  (vc:∀v0 v1 v2 w R,RE P T sz v0 v1 v2 w R->zB P f [v0,v1,v2] w R) (one:∀a b,Spec P g [agg (enc a),agg (enc b)] [] (cE (.bool (decide (a=b))) []))
  (H:bw) (u v:Ε) (A B:List α) (hu:de H sz u A.length (A.map enc).flatten) (hv:de H sz v B.length (B.map enc).flatten) (hA:A.length<=9223372036854775806) :
  Spec P f [u,v,.func (.func g) #[] #[]] [.mem H] (cE (.bool (decide (A=B))) [.mem H]):=by
 refine Enzz λW F w hS=>?_;apply vc;unfold RE;refine zo hu (zo hv ?_);refine cA (λh=>?_) (λh=>?_)
 ·have:A≠B:=λe=>by subst e;exact h rfl
  simp only[this,wwz];(exact cF hS)
 have hl:A.length=B.length:=by omega
 refine⟨λvs w=>∃k:Nat,vs=[Γ k]/\k<=A.length/\A.take k=B.take k/\SL W (.mem H::F) w,λvs _=>match vs with|[.int _ k]=>(A.length-k).toNat|_=>0,⟨0,rfl,by omega,rfl,hS⟩,?_⟩;clear hS;rintro v7 w ⟨k,JO,hk,mT,hS⟩;cases JO;refine zo hu ?_;refine cA (λh=>?_) (λh=>?_)
 ·have jv:k<A.length:=by omega
  have fL:k<B.length:=by omega
  refine yp hS ?_;clear hS;intro w hS;refine zF hS .hd hn hu (x:=A[k]) (by simp[jv]) jv ?_;refine zF hS .hd hn hv (x:=B[k]) (by simp[fL]) fL ?_;refine ye (args':=[agg (enc A[k]),agg (enc B[k])]) hT (one A[k] B[k]) rfl hS .nil ?_;clear hS;rintro v post ⟨rfl,rfl⟩ w hS;(try simp only[app]at hS);refine Gp ?_
  refine zy (λhe=>?_) (λhe=>?_)
  ·have:A≠B:=λe=>by subst e;simp at he
   simp only[this,wwz];(exact cF hS)
  have lk:=zzp he;refine Gp ?_;refine⟨⟨k+1,by simp,by omega,?_,hS⟩,by dsimp only;omega⟩;rw[zze jv,zze fL,mT,lk]
 have:k=A.length:=by omega
 subst this;have:A=B:=by rw[zz0,hl,zz0]at mT;exact mT
 simp only[this,ttb];(exact cF hS)
def KE{α:Type}:∀(xs:List α) (t:Nat) (x:α),xs[t]?=some x->xs.Perm (x::xs.eraseIdx t)
 | [],t,x,h=>by simp at h
 | y::xs,0,x,h=>by simp at h;subst h;exact .refl _
 | y::xs,t+1,x,h=>((KE xs t x (by simpa using h)).cons y).trans (.swap _ _ _)
def zh{α:Type}(A:α->zC)(xs:List α):zC:=star (xs.map λx=>.ob (A x))
section
variable {W w:Ζ} {l l':Β} {α:Type} {A:α->zC} {xs:List α}
def zh.iff:SL W (.ob (zh A xs)::l) w↔SL W ((xs.map λx=>Chunk.ob (A x))++l) w:=
 ⟨λh=>h.conv (λ_ s=>s),λh=>h.fold (λ_ s=>s)⟩
def zh.take{t:Nat}{x:α}(h:SL W (.ob (zh A xs)::l) w)(hx:xs[t]?=some x):SL W (.ob (A x)::.ob (zh A (xs.eraseIdx t))::l) w:=by
 have h1:=zh.iff.1 h;have p:(xs.map λx=>Chunk.ob (A x)).Perm (.ob (A x)::(xs.eraseIdx t).map λx=>Chunk.ob (A x)):=by
  exact (KE xs t x hx).map λx=>Chunk.ob (A x)
 have h2:=h1.perm (p.append_right l);have h3:=h2.perm (l':=((xs.eraseIdx t).map λx=>Chunk.ob (A x))++(.ob (A x)::l)) (by simpa using vv4.symm);exact (zh.iff.2 h3).perm (.swap _ _ _)
def zh.put{t:Nat}{y:α}(h:SL W (.ob (A y)::.ob (zh A (xs.eraseIdx t))::l) w)(ht:t<xs.length):SL W (.ob (zh A (xs.set t y))::l) w:=by
 refine zh.iff.2 ?_;have h1:=zh.iff.1 (h.perm (.swap _ _ _));have p:(.ob (A y)::(xs.eraseIdx t).map λx=>Chunk.ob (A x)).Perm ((xs.set t y).map λx=>Chunk.ob (A x)):=by
  have:=(KE (xs.set t y) t y (by simp[ht])).symm.map λx=>Chunk.ob (A x);rw[List.eraseIdx_set_eq]at this
  exact this
 refine h1.perm ?_;refine (vv4).trans ?_;exact p.append_right l
def zh.nil(h:SL W l w):SL W (.ob (zh A [])::l) w:=zh.iff.2 h
def zh.snoc{x:α}(h:SL W (.ob (zh A xs)::.ob (A x)::l) w):SL W (.ob (zh A (xs++[x]))::l) w:=by
 refine zh.iff.2 ?_;have h1:=zh.iff.1 h;simpa using h1
def bF.one{v:Ε}{t:Ι}{sz n:Nat}{cells:Ξ}(h:SL W (.ob (bF v t sz n cells)::l) w):v.oneCell'=true:=by
 rcases bF.open h with ⟨⟨a,rfl⟩,_⟩|⟨b,cap,rest,rfl,_⟩<;>rfl
def Has.front{c:Μ}(h:SL W l w){l2:Β}(r:fq c l l2):SL W (c::l2) w:=h.perm r.perm
def cG3{κ α:Type}{key:κ->Ε}{val:α->Ε}{p:Nat->Ζ->Prop}(hS:SL W l w)(h:∀b w',SL W (.ob (eJ key val b [])::l) w'->p b w'):p w.heap.size (w.alloc (.map #[] 0)):=h _ _ hS.Kb
def zw{H:bw}{v:Ε}{t:Ι}{sz n:Nat}{cells:Ξ}{F:Β}(hS:SL W l w)(hp:gE [.mem H,.ob (bF v t sz n cells)] l F):∃H',H.le H'/\de H' sz v n cells/\SL W (.mem H'::F) w:=bF.freeze (hS.pick hp)
def SL.Ke(h:SL W l w):SL W (.mem bw.emp::l) w:=
 ⟨h.os,h.tape,h.output,let ⟨k,s,m⟩:=h.out;⟨k,⟨bw.emp,k,Sep.emp k,rfl,s⟩,m⟩⟩
def Has.rem{c:Μ}(h:Has c l):∃l2,fq c l l2:=by
 induction h with
 | hd=>exact⟨_,.hd⟩
 | tl _ ih=>obtain⟨l2,r⟩:=ih;exact⟨_,.tl r⟩
def bF.at{v:Ε}{t:Ι}{sz n:Nat}{cells:Ξ}(h:SL W l w)(m:Has (.ob (bF v t sz n cells)) l):
  ∃a cap,v= .slice a n cap/\cells.length=n*sz/\∀j,j<n->∃b,a=some ⟨b,0,none⟩/\∀i u,cells[i]?=some u->w.cell? ⟨b,i,none⟩=some u:=by
 obtain⟨l2,r⟩:=m.rem;rcases bF.open (h.perm r.perm) with ⟨⟨a,rfl⟩,rfl,rfl,_⟩|⟨b,cap,rest,rfl,hc,hl,hr,h2⟩
 ·exact⟨a,0,rfl,by simp,λj hj=>by omega⟩
 exact⟨_,cap,rfl,hl,λj hj=>⟨b,rfl,λi u hu=>h2.cell .hd (by rw[zzm (zzf.1 hu).1];exact hu)⟩⟩
def zz{v:Ε}{t:Ι}{sz n:Nat}{cells:Ξ}{K:Ε->Prop}(h:SL W l w)(m:Has (.ob (bF v t sz n cells)) l)(k:K (Γ n)):zd v K:=by
 obtain⟨a,cap,rfl,_⟩:=bF.at h m;exact z7 k
def yg{v u:Ε}{t:Ι}{n j:Nat}{k:IntKind}{cells:Ξ}{K:Ε->Prop}(h:SL W l w)(m:Has (.ob (bF v t 1 n cells)) l)(hj:j<n)(hu:cells[j]?=some u)(hK:K u):
  zk 1 v (.int k (j:Int)) λp=>cC p w K:=by
 obtain⟨a,cap,rfl,_,h2⟩:=bF.at h m;obtain⟨b,rfl,h3⟩:=h2 j hj;refine zG hj ⟨_,u,rfl,h3 _ u ?_,hK⟩;rw[yya,wwq];exact hu
def zU{α:Type}{enc:α->Ξ}{v:Ε}{t:Ι}{n sz j:Nat}{k:IntKind}{xs:List α}{x:α}{K:Ε->Prop}(h:SL W l w)(m:Has (.ob (bF v t sz n (xs.map enc).flatten)) l)(hn:∀x,(enc x).length=sz)(hx:xs[j]?=some x)(hj:j<n)(hK:K (agg (enc x))):
  zk sz v (.int k (j:Int)) λp=>ze sz p w K:=by
 obtain⟨a,cap,rfl,_,h2⟩:=bF.at h m;obtain⟨b,rfl,h3⟩:=h2 j hj;refine zG hj ⟨_,enc x,rfl,hn x,λi u hu=>?_,hK⟩;rw[yye,yya];exact h3 _ u (pX hn xs j i x u hx hu)
def yh{α:Type}{enc:α->Ξ}{v u:Ε}{t:Ι}{n sz j i:Nat}{k:IntKind}{xs:List α}{x:α}{K:Ε->Prop}(h:SL W l w)(m:Has (.ob (bF v t sz n (xs.map enc).flatten)) l)(hn:∀x,(enc x).length=sz)(hx:xs[j]?=some x)(hj:j<n)(hu:(enc x)[i]?=some u)(hK:K u):
  zk sz v (.int k (j:Int)) λp=>zl i p λq=>cC q w K:=by
 obtain⟨a,cap,rfl,_,h2⟩:=bF.at h m;obtain⟨b,rfl,h3⟩:=h2 j hj;refine zG hj (yN ⟨_,u,rfl,?_,hK⟩);rw[yya];exact h3 _ u (pX hn xs j i x u hx hu)
def nG{v:Ε}{t:Ι}{sz n:Nat}{cells:Ξ}(h:SL W l w)(m:Has (.ob (bF v t sz n cells)) l):kL w sz v n cells:=by
 obtain⟨a,cap,rfl,h1,h2⟩:=bF.at h m;rcases yy6 n with rfl|hn
 ·have:cells=[]:=zzl (by simpa using h1);subst this;cases a with
  | none=>exact⟨rfl,rfl⟩
  | some p=>exact⟨rfl,by simp,λj v e=>by simp at e⟩
 obtain⟨b,rfl,h3⟩:=h2 0 hn;exact⟨rfl,h1,λj v e=>by rw[yye,yya];exact h3 j v e⟩
end
def dB(v:Ε)(t:Ι)(sz n:Nat)(cells:Ξ):zC:=jT λx:Option (Nat × Ξ × Nat × Ξ)=>match x with
 | none=>zH ((∃a,v= .slice a 0 0)/\n=0/\cells=[]) []
 | some (b,pre,cap,rest)=>zH (v= .slice (some ⟨b,pre.length,none⟩) n cap/\n<=cap/\cells.length=n*sz/\rest.length=(cap-n)*sz) [.pt b (pre++(cells++rest)) t]
section
variable {W w:Ζ} {l:Β} {v:Ε} {t:Ι} {sz n:Nat} {cells:Ξ}
def dB.open(h:SL W (.ob (dB v t sz n cells)::l) w):
  ((∃a,v= .slice a 0 0)/\n=0/\cells=[]/\SL W l w)\/∃b pre cap rest,v= .slice (some ⟨b,pre.length,none⟩) n cap/\n<=cap/\cells.length=n*sz/\rest.length=(cap-n)*sz/\SL W (.pt b (pre++(cells++rest)) t::l) w:=by
 unfold dB at h;obtain⟨x,h⟩:=SL.ex.1 h
 match x,h with
 | none,h=>
  obtain⟨⟨h1,h2,h3⟩,h⟩:=SL.fact.1 h;exact .inl ⟨h1,h2,h3,h⟩
 | some (b,pre,cap,rest),h=>
  obtain⟨⟨h1,h2,h3,h4⟩,h⟩:=SL.fact.1 h;exact .inr ⟨b,pre,cap,rest,h1,h2,h3,h4,h⟩
def dB.ri{a:Option Addr}(h:SL W l w):SL W (.ob (dB (.slice a 0 0) t sz 0 [])::l) w:=by
 unfold dB;exact SL.ex.2 ⟨none,SL.fact.2 ⟨⟨⟨_,rfl⟩,rfl,rfl⟩,h⟩⟩
def dB.mk{b cap o:Nat}{pre rest:Ξ}(h1:n<=cap)(h2:cells.length=n*sz)(h3:rest.length=(cap-n)*sz)(ho:pre.length=o)(h:SL W (.pt b (pre++(cells++rest)) t::l) w):
  SL W (.ob (dB (.slice (some ⟨b,o,none⟩) n cap) t sz n cells)::l) w:=by
 subst ho;unfold dB;exact SL.ex.2 ⟨some (b,pre,cap,rest),SL.fact.2 ⟨⟨rfl,h1,h2,h3⟩,h⟩⟩
def dB.of(h:SL W (.ob (bF v t sz n cells)::l) w):SL W (.ob (dB v t sz n cells)::l) w:=by
 rcases bF.open h with ⟨⟨a,rfl⟩,rfl,rfl,hS⟩|⟨b,cap,rest,rfl,hc,hl,hr,hS⟩
 ·exact dB.ri hS
 exact dB.mk (pre:=[]) hc hl hr rfl (by simpa using hS)
def dB.at(h:SL W l w)(m:Has (.ob (dB v t sz n cells)) l):∃a cap,v= .slice a n cap/\n<=cap/\cells.length=n*sz:=by
 obtain⟨l2,r⟩:=m.rem;rcases dB.open (h.perm r.perm) with ⟨⟨a,rfl⟩,rfl,rfl,_⟩|⟨b,pre,cap,rest,rfl,hc,hl,_⟩
 ·exact⟨a,0,rfl,zzi _,by simp⟩
 exact⟨_,cap,rfl,hc,hl⟩
def dB.one(h:SL W l w)(m:Has (.ob (dB v t sz n cells)) l):v.oneCell'=true:=by
 obtain⟨a,cap,rfl,_⟩:=dB.at h m;rfl
def zO{K:Ε->Prop}(h:SL W l w)(m:Has (.ob (dB v t sz n cells)) l)(k:K (Γ n)):zd v K:=by
 obtain⟨a,cap,rfl,_⟩:=dB.at h m;exact z7 k
def y5{j:Nat}{k:IntKind}{K:Ε->Prop}(h:SL W l w)(m:Has (.ob (dB v t sz n cells)) l)(hj:j<n)
  (hK:∀b o,(∀i u,i<sz->cells[j*sz+i]?=some u->w.cell? ⟨b,o+i,none⟩=some u)->K (.pointer (some ⟨b,o,none⟩))):zk sz v (.int k (j:Int)) K:=by
 obtain⟨l2,r⟩:=m.rem;rcases dB.open (h.perm r.perm) with ⟨⟨a,rfl⟩,rfl,rfl,_⟩|⟨b,pre,cap,rest,rfl,hc,hl,hr,hS⟩
 ·omega
 refine zG hj (hK b (pre.length+j*sz) λi u hi hu=>hS.cell .hd ?_);rw[vvk,yyb (by omega),wwh,zzm (zzf.1 hu).1];exact hu
def Yp{k:Nat}{kk:IntKind}{K:Ε->Prop}(hS:SL W (.ob (dB v t sz n cells)::l) w)(hk:k<=n)(hK:∀u,SL W (.ob (dB u t sz (n-k) (cells.drop (k*sz)))::l) w->K u):eT sz v (some (.int kk (k:Int))) none none K:=by
 rcases dB.open hS with ⟨⟨a,rfl⟩,rfl,rfl,fY⟩|⟨b,pre,cap,rest,rfl,hc,hl,hr,fY⟩
 ·obtain rfl:k=0:=by omega
  refine⟨a,0,0,0,0,0,rfl,rfl,rfl,⟨kk,rfl⟩,zzi _,zzi _,zzi _,?_⟩;rw[zzd rfl];exact hK _ (by simpa using dB.ri (t:=t) (sz:=sz) (a:=a) fY)
 refine⟨_,n,cap,k,n,cap,rfl,rfl,rfl,⟨kk,rfl⟩,hk,hc,zzi _,hK _ ?_⟩;by_cases e:cap=k
 ·obtain rfl:n=k:=by omega
  rw[zzd e,Nat.sub_self,show cap-n=0 by omega,yy7 (by omega)];exact dB.ri fY.drop
 rw[zzb e];have dj:k*sz<=cells.length:=by rw[hl];exact yyv _ hk
 have e1:(some (⟨b,pre.length,none⟩:Addr)).map (·.add (k*sz))=some ⟨b,pre.length+k*sz,none⟩:=by simp[yye]
 rw[e1];refine dB.mk (pre:=pre++cells.take (k*sz)) (rest:=rest) (by omega) (by rw[zzs,hl,wws]) (by rw[hr];congr 1;omega) (by rw[zza,zzg];omega) ?_;rw[zzk,<- zzk (cells.take (k*sz)),yyk];exact fY
def ZZ{x y:Ε}{gn m:Nat}{z cs:Ξ}{F:Β}{K:Ε->Ζ->Prop}(hS:SL W l w)(hr:fq (.ob (dB x t sz n cells)) l F)(iD:kL w sz y m cs)
  (hl:cs.length=m*sz) (hz:z.length=sz) (h1:∀v∈cs,v.oneCell'=true) (hb:(n+m)*gn<=140737488355328) (hn:n+m<=140737488355328)
  (h:∀v' w',SL W (.ob (dB v' t sz (n+m) (cells++cs))::F) w'->K v' w'):zx sz gn z t x y w K:=by
 rcases dB.open (hS.perm hr.perm) with ⟨⟨a,rfl⟩,rfl,rfl,fY⟩|⟨b,pre,cap,rest,rfl,hc,hlen,jD,fY⟩
 ·refine⟨a,0,0,m,cs,rfl,iD,hb,hn,λh0=>?_,λh0=>⟨[],(by cases a with|none=>exact⟨rfl,rfl⟩|some p=>exact⟨rfl,by simp,λj v e=>by simp at e⟩),λc gl ju=>?_⟩⟩
  ·have hm:m=0:=by omega
   subst hm;have:cs=[]:=zzl (by simpa using hl);subst this;cases a with
   | none=>exact h _ _ (dB.ri fY)
   | some p=>exact h _ _ (dB.ri fY)
  refine h _ _ ?_;have:=dB.mk (sz:=sz) (n:=0+m) (cells:=cs) (pre:=[]) (rest:=cQ z (c-(0+m))) (cap:=c) gl (by simpa using hl) (by rw[l7,hz]) rfl (SL.new (cs:=[]++(cs++cQ z (c-(0+m)))) (t:=t) (fY.drew));simpa using this
 refine⟨some ⟨b,pre.length,none⟩,n,cap,m,cs,rfl,iD,hb,hn,λh0=>?_,λh0=>?_⟩
 ·have p7:cs.length<=rest.length:=by
   rw[hl,jD];exact yyv _ (by omega)
  show ud (Addr.add ⟨b,pre.length,none⟩ (n*sz)) 0 cs w _;rw[yye];refine BW (t:=t) cs (pre.length+n*sz) 0 (pre++(cells++rest)) w (.pt b (pre++(cells++rest)) t::F) _ fY .hd (by simp[hlen];omega) h1 (λw' pZ=>h _ _ ?_);have e:rj (pre++(cells++rest)) (pre.length+n*sz+0) cs=pre++((cells++cs)++rest.drop cs.length):=by
   rw[show pre.length+n*sz+0=(pre++cells).length by rw[zza];omega,<- zzk,WT p7];simp
  rw[e]at pZ
  exact dB.mk (n:=n+m) (cells:=cells++cs) (rest:=rest.drop cs.length) h0 (by simp[hlen,hl,yyu]) (by
   rw[zzs,jD,hl,<- wws];congr 1;omega) rfl pZ
 refine⟨cells,⟨rfl,hlen,λj v e=>?_⟩,λc gl ju=>h _ _ ?_⟩
 ·rw[yye];refine fY.cell .hd ?_;rw[yyb (by omega),wwh,zzm (zzf.1 e).1];exact e
 have:=dB.mk (sz:=sz) (n:=n+m) (cells:=cells++cs) (pre:=[]) (rest:=cQ z (c-(n+m))) (cap:=c) gl (by simp[hlen,hl,yyu]) (by rw[l7,hz]) rfl (SL.new (cs:=[]++((cells++cs)++cQ z (c-(n+m)))) (t:=t) (fY.drop.drew));simpa using this
def dB.block(hS:SL W (.ob (dB v t sz n cells)::l) w)(hn:0<n):∃b pre cap rest,v= .slice (some ⟨b,pre.length,none⟩) n cap/\n<=cap/\cells.length=n*sz/\rest.length=(cap-n)*sz/\SL W (.pt b (pre++(cells++rest)) t::l) w:=by
 rcases dB.open hS with ⟨_,h0,_⟩|h
 ·omega
 exact h
end
