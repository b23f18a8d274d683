/-
  Texts of the proof, joined: Sl4, Api, Sl5.
-/
import Derived.Test.YtfenmffiidchcaaGreatJ1
import Derived.MapKept
namespace Go.Proofs.YtfenmffiidchcaaGreat
set_option linter.unusedVariables false
open Go.RowKit
structure Bx{κ:Type}(d:TypeDesc)(key:κ->Value):Prop where
 is:∀k,MapKept.IsKey d (key k)
 inj:∀{a b},key a=key b->a=b
theorem wK(k:IntKind):Bx (.int k) (Value.int k):=⟨λ_=>rfl,λh=>by cases h;rfl⟩
section
variable {κ α:Type} [DecidableEq κ]
def lx:List (κ × α)->κ->Option α
 | [],_=>none
 | p::m,k=>if p.1=k then some p.2 else lx m k
def mD:List (κ × α)->κ->α->List (κ × α)
 | [],k,v=>[(k,v)]
 | p::m,k,v=>if p.1=k then (k,v)::m else p::mD m k v
def tj:List (κ × α)->κ->List (κ × α)
 | [],_=>[]
 | p::m,k=>if p.1=k then m else p::tj m k
def kv(e:MapEntry):Value × Value:=(e.key,e.val)
def kw(key:κ->Value)(val:α->Value)(p:κ × α):Value × Value:=(key p.1,val p.2)
theorem D6{d:TypeDesc}{key:κ->Value}{val:α->Value}(ok:Bx d key)(k:κ):∀(es:List MapEntry) (m:List (κ × α)) (i:Nat),es.map kv=m.map (kw key val) ->
  (Instr.findNow d (key k) es i=some none/\lx m k=none/\(∀v,mD m k v=m++[(k,v)])/\tj m k=m/\∀x∈es,x.key≠key k) \/
  ∃j e a,Instr.findNow d (key k) es i=some (some (i+j,val a))/\es[j]?=some e/\e.key=key k/\lx m k=some a /\
   (∀v,(es.modify j λe=>{e with key:=key k,val:=val v}).map kv=(mD m k v).map (kw key val))/\(es.eraseIdx j).map kv=(tj m k).map (kw key val)
 | [],[],_,_=>.inl ⟨rfl,rfl,λ_=>rfl,rfl,by simp⟩
 | [],_::_,_,h=>by simp at h
 | _::_,[],_,h=>by simp at h
 | e::es,p::m,i,h=>by
  simp only[List.map_cons,List.cons.injEq]at h
  obtain⟨h1,h2⟩:=h
  obtain⟨x,y⟩:=p
  simp only[kv,kw,Prod.mk.injEq]at h1
  obtain⟨rP,AM⟩:=h1
  obtain⟨r,hr,R7⟩:=MapKept.sameNow_of_keys (ok.is k) (ok.is x)
  by_cases hx:x=k
  ·subst hx
   obtain rfl:r=true:=R7.2 rfl
   refine .inr ⟨0,e,y,by simp[Instr.findNow,rP,hr,AM],rfl,rP,by simp[lx],?_,?_⟩
   ·intro v;simp[mD,kv,kw];exact h2
   ·simp[tj,h2]
  ·have EL:r=false:=by
    cases r with
    | false=>rfl
    | true=>exact absurd (ok.inj (R7.1 rfl)).symm hx
   subst EL
   rcases D6 ok k es m (i+1) h2 with ⟨a1,a2,a3,a4,a5⟩|⟨j,e',a,a1,a2,a3,a4,a5,a6⟩
   ·refine .inl ⟨by simp[Instr.findNow,rP,hr,a1],by simp[lx,hx,a2],λv=>by simp[mD,hx,a3],by simp[tj,hx,a4],?_⟩
    intro z hz
    rcases List.mem_cons.1 hz with rfl|hz
    ·rw[rP];exact λq=>hx (ok.inj q)
    ·exact a5 z hz
   ·refine .inr ⟨j+1,e',a,by simp[Instr.findNow,rP,hr,a1];omega,by simpa using a2,a3,by simp[lx,hx,a4],?_,?_⟩
    ·intro v;simp[mD,hx,kv,kw,rP,AM];exact a5 v
    ·simp[tj,hx,kv,kw,rP,AM];exact a6
end
def j4{κ α:Type}(key:κ->Value)(val:α->Value)(b:Nat)(m:List (κ × α)):zE:=
 nr λx:List MapEntry × Nat=>zU (x.1.map kv=m.map (kw key val)/\MapKept.Stamped x.1.toArray x.2) [.mp b x.1 x.2]
section
variable {W w:World} {l l':List Chunk} {κ α:Type} [DecidableEq κ] {key:κ->Value} {val:α->Value} {b:Nat} {m:List (κ × α)}
omit [DecidableEq κ] in
theorem j4.of{es:List MapEntry}{c:Nat}(h1:es.map kv=m.map (kw key val))(h2:MapKept.Stamped es.toArray c):(Chunk.ob (j4 key val b m)).holds (bw.one b (.map es.toArray c)):=
 ⟨(es,c),⟨h1,h2⟩,⟨bw.one b (.map es.toArray c),bw.emp,λx=>.inr ⟨rfl,rfl⟩,rfl,rfl⟩⟩
omit [DecidableEq κ] in
theorem cw8{c:Chunk}{k:bw}(h:star [c] k):c.holds k:=by
 obtain⟨h1,h2,s,a,r⟩:=h
 obtain rfl:h2=bw.emp:=r
 have:k=h1:=funext λb=>by
  rcases s b with ⟨x,y⟩|⟨x,y⟩
  ·rw[x,y];rfl
  ·exact y
 rw[this];exact a
omit [DecidableEq κ] in
theorem j4.out{k:bw}(h:(Chunk.ob (j4 key val b m)).holds k):∃(es:List MapEntry) (c:Nat),es.map kv=m.map (kw key val)/\MapKept.Stamped es.toArray c/\k=bw.one b (.map es.toArray c):=by
 obtain⟨⟨es,c⟩,⟨h1,h2⟩,h3⟩:=h
 exact⟨es,c,h1,h2,cw8 h3⟩
omit [DecidableEq κ] in
theorem SL.Ba(h:SL W l w)(hm:Has (.ob (j4 key val b m)) l):∃(es:List MapEntry) (c:Nat),es.map kv=m.map (kw key val)/\MapKept.Stamped es.toArray c/\w.heap[b]?=some (.map es.toArray c):=by
 obtain⟨k,s,x⟩:=h.out
 obtain⟨h1,hh,le⟩:=hm.heap s
 obtain⟨es,c,e1,e2,rfl⟩:=j4.out hh
 exact⟨es,c,e1,e2,x b _ (le b _ (by simp[bw.one]))⟩
omit [DecidableEq κ] in
theorem SL.Bb{m':List (κ × α)}{es:List MapEntry}{c:Nat}{o:Obj}(h:SL W l w)(u:kH (.ob (j4 key val b m)) (.ob (j4 key val b m')) l l')(hb:w.heap[b]?=some o)(h1:es.map kv=m'.map (kw key val))(h2:MapKept.Stamped es.toArray c):
  SL W l' {w with heap:=w.heap.setIfInBounds b (.map es.toArray c)}:=
 h.u7 (b:=b) (o':=.map es.toArray c) u (λk hk=>by obtain⟨es,c,_,_,rfl⟩:=j4.out hk;exact⟨_,rfl⟩) (j4.of h1 h2) (MapKept.heap_set hb).1 (MapKept.heap_set hb).2 rfl rfl rfl
omit [DecidableEq κ] in
theorem SL.Tq(h:SL W l w):SL W (.ob (j4 key val w.heap.size [])::l) (w.alloc (.map #[] 0)):=h.alloc (j4.of (es:=[]) rfl (MapKept.stamped_empty 0))
variable {P:Program} {t kt et:TypeId} {d:TypeDesc} {z:Value} {k:κ}
theorem Zv{K:Value->Prop}(hS:SL W l w)(hm:Has (.ob (j4 key val b m)) l)(ok:Bx d key)(ht:P.underlying t=some (.map kt et))(hd:P.underlying kt=some d)(hz:∀w,(zeroValue et).run P w= .ok z w)
  (h:K (((lx m k).map val).getD z)):jZ P (Instr.lookup t (.map (some b)) (key k) false) w K:=by
 obtain⟨es,c,e1,e2,hb⟩:=hS.Ba hm
 rcases D6 ok k es m 0 e1 with ⟨a1,a2,_,_,_⟩|⟨j,e,a,a1,_,_,a4,_,_⟩
 ·refine⟨_,?_,h⟩
  simp[Instr.lookup,run_underlying ht,MapKept.run_getObj_map hb,MapKept.run_checkKey hd (ok.is k),MapKept.run_findKey hd a1,hz,Result.andThen,a2]
 ·refine⟨_,?_,h⟩
  simp[Instr.lookup,run_underlying ht,MapKept.run_getObj_map hb,MapKept.run_checkKey hd (ok.is k),MapKept.run_findKey hd a1,Result.andThen,a4]
theorem b_5{v:α}{K:Value->World->Prop}(hS:SL W l w)(u:kH (.ob (j4 key val b m)) (.ob (j4 key val b (mD m k v))) l l')(ok:Bx d key)(ht:P.underlying t=some (.map kt et))(hd:P.underlying kt=some d)
  (h:∀u w',SL W l' w'->K u w'):z7 P (do Instr.mapUpdate t (.map (some b)) (key k) (val v);pure undef) w K:=by
 obtain⟨es,c,e1,e2,hb⟩:=hS.Ba u.has
 have hks:∀x∈es,∃p∈m,x.key=key p.1:=λx hx=>by
  have:kv x∈es.map kv:=List.mem_map.2 ⟨x,hx,rfl⟩
  rw[e1]at this
  obtain⟨p,hp,hq⟩:=List.mem_map.1 this
  exact⟨p,hp,(Prod.mk.inj hq).1.symm⟩
 rcases D6 ok k es m 0 e1 with ⟨a1,_,a3,_,a5⟩|⟨j,e,a,a1,a2,a3,_,a5,_⟩
 ·refine⟨undef,{w with heap:=w.heap.setIfInBounds b (.map (es++[({key:=key k,val:=val v,born:=c}:MapEntry)]).toArray (c+1))},?_,h _ _ (hS.Bb u hb (by rw[a3];simp[e1,kv,kw]) ?_)⟩
  ·simp[Instr.mapUpdate,run_underlying ht,MapKept.run_getObj_map hb,MapKept.run_checkKey hd (ok.is k),MapKept.run_findKey hd a1,MapKept.run_setObj_map _ hb,Result.andThen]
  ·have:=MapKept.stamped_push e2 (key:=key k) (val:=val v) (by simpa using a5)
   simpa using this
 ·refine⟨undef,{w with heap:=w.heap.setIfInBounds b (.map (es.modify j λe=>{e with key:=key k,val:=val v}).toArray c)},?_,h _ _ (hS.Bb u hb (a5 v) ?_)⟩
  ·have hj:es.toArray[j]?=some e:=by simpa using a2
   simp[Instr.mapUpdate,run_underlying ht,MapKept.run_getObj_map hb,MapKept.run_checkKey hd (ok.is k),MapKept.run_findKey hd a1,a2,a3,MapKept.run_keyThatStays (ok.is k),MapKept.run_setObj_map _ hb,Result.andThen]
  ·have xO:∀e',es.toArray[j]?=some e'->({e' with key:=key k,val:=val v}:MapEntry).key=e'.key:=λe' q'=>by
    have:es[j]?=some e':=by simpa using q'
    rw[a2]at this;cases this;exact a3.symm
   have:=MapKept.stamped_modify e2 j (λe=>{e with key:=key k,val:=val v}) (λ_ _=>rfl) (λe' _ q'=>xO e' q')
   simpa using this
theorem b_3{ty kt':TypeId}{K:Value->World->Prop}(hS:SL W l w)(u:kH (.ob (j4 key val b m)) (.ob (j4 key val b (tj m k))) l l')(ok:Bx d key)(ht:P.underlying t=some (.map kt et))(hd:P.underlying kt=some d)
  (h:∀u w',SL W l' w'->K u w'):z7 P (Builtin.delete_ #[t,kt'] ty #[.map (some b),key k]) w K:=by
 obtain⟨es,c,e1,e2,hb⟩:=hS.Ba u.has
 rcases D6 ok k es m 0 e1 with ⟨a1,_,_,a4,_⟩|⟨j,e,a,a1,a2,_,_,_,a6⟩
 ·refine⟨.tuple #[],{w with heap:=w.heap.setIfInBounds b (.map es.toArray c)},?_,h _ _ (hS.Bb u hb (by rw[a4];exact e1) e2)⟩
  simp[Builtin.delete_,run_underlying ht,MapKept.run_getObj_map hb,MapKept.run_checkKey hd (ok.is k),MapKept.run_findKey hd a1,MapKept.run_setObj_map _ hb,Result.andThen]
 ·have iZ:j<es.length:=(List.getElem?_eq_some_iff.1 a2).1
  have hse:es.toArray.eraseIdxIfInBounds j=(es.eraseIdx j).toArray:=by simp[Array.eraseIdxIfInBounds,iZ]
  refine⟨.tuple #[],{w with heap:=w.heap.setIfInBounds b (.map (es.eraseIdx j).toArray c)},?_,h _ _ (hS.Bb u hb a6 ?_)⟩
  ·simp[Builtin.delete_,run_underlying ht,MapKept.run_getObj_map hb,MapKept.run_checkKey hd (ok.is k),MapKept.run_findKey hd a1,MapKept.run_setObj_map _ hb,Result.andThen]
  ·have:=MapKept.stamped_erase e2 j
   rwa [hse]at this
omit [DecidableEq κ] in
end
structure Cell where
 key:Int
 aI:Int
 gone:Bool
 val:ByteArray
deriving DecidableEq
structure Row where
 key:Int
 val:ByteArray
deriving DecidableEq
structure pU where
 aI:Int
 table:Int
 key:Int
 gone:Bool
 val:ByteArray
deriving DecidableEq
def iu(c:Row):List Value:=[.int .i64 c.key,.string c.val]
def oO(o:pU):List Value:=[.int .i64 o.aI,.int .i64 o.table,.int .i64 o.key,.bool o.gone,.string o.val]
theorem jG(c:Row):(iu c).length=2:=rfl
theorem xo(c:Row):∀v∈iu c,v.oneCell'=true:=by simp[iu,Value.oneCell']
theorem D0(o:pU):∀v∈oO o,v.oneCell'=true:=by simp[oO,Value.oneCell']
abbrev agg(l:List Value):Value:=.agg l.toArray
theorem D9{α:Type}(enc:α->List Value)(xs:List α)(x:α):((xs++[x]).map enc).flatten=(xs.map enc).flatten++enc x:=by simp
section
variable {W w:World} {l:List Chunk} {P:Program}
theorem Qi{t:TypeId}{xs ys:List Value}{p:Prop}[Decidable p]{K:Value->Prop}(h:(Op.equal t (agg xs) (agg ys)).run P w= .ok (decide p) w)(hK:K (.bool (decide p))):Yr P t false (agg xs) (agg ys) w K:=
 ⟨_,_,_,rfl,rfl,h,hK⟩
theorem aij{t:TypeId}{fs:Array Field}(h:P.underlying t=some (.struct fs)):P.fieldsOf t=fs:=by unfold Program.fieldsOf;rw[h]
theorem Bn{t:TypeId}{fs:Array Field}{xs ys:List Value}{b:Bool}(h:P.underlying t=some (.struct fs))(hp:P.stoodInHeld t=false)(he:(Op.eqFields 9999 xs.toArray ys.toArray fs.toList).run P w= .ok b w):(Op.equal t (agg xs) (agg ys)).run P w= .ok b w:=by
 have hf:=aij h
 unfold Op.equal Op.maxDepth
 rw[run_equalIn_agg w 9999 t _ _ (by rw[hf];exact h) hp,hf];exact he
theorem Wz(a b:ByteArray):(a.toList == b.toList)=decide (a=b):=by
 rw[<- beq_toListBytes]
 by_cases h:a=b
 ·subst h;simp[(MapKept.bytes_beq a a).2 rfl]
 ·simp only[h,decide_false]
  cases hb:a == b with
  | false=>rfl
  | true=>exact absurd ((MapKept.bytes_beq a b).1 hb) h
theorem toList_inj(a b:ByteArray):(a.toList=b.toList)=(a=b):=by
 have:=Wz a b
 by_cases h:a=b
 ·subst h;simp
 ·simp only[h,decide_false,beq_eq_false_iff_ne]at this
  simp[h,this]
theorem l8{α:Type}{enc:α->List Value}{n:Nat}(hn:∀x,(enc x).length=n)(xs:List α):((xs.map enc).flatten).length=xs.length*n:=by
 induction xs with
 | nil=>simp
 | cons x xs ih=>simp[hn,ih,Nat.add_mul];omega
theorem sy{α:Type}{enc:α->List Value}{n:Nat}(hn:∀x,(enc x).length=n):∀(xs:List α) (j i:Nat) (x:α) (u:Value),xs[j]?=some x->(enc x)[i]?=some u->((xs.map enc).flatten)[j*n+i]?=some u
 | [],j,i,x,u,h,_=>by simp at h
 | y::xs,0,i,x,u,h,hu=>by
  simp at h;subst h
  have:i<(enc y).length:=(List.getElem?_eq_some_iff.1 hu).1
  simp only[List.map_cons,List.flatten_cons,Nat.zero_mul,Nat.zero_add]
  rw[List.getElem?_append_left this];exact hu
 | y::xs,j+1,i,x,u,h,hu=>by
  have ih:=sy hn xs j i x u (by simpa using h) hu
  simp only[List.map_cons,List.flatten_cons]
  rw[List.getElem?_append_right (by rw[hn,Nat.add_mul];omega),hn]
  rw[show (j+1)*n+i-n=j*n+i by rw[Nat.add_mul];omega];exact ih
theorem sA{α:Type}{enc:α->List Value}{n:Nat}(hn:∀x,(enc x).length=n):∀(xs:List α) (k:Nat),(xs.map enc).flatten.take (k*n)=((xs.take k).map enc).flatten
 | [],k=>by simp
 | x::xs,0=>by simp
 | x::xs,k+1=>by
  have e:(k+1)*n=(enc x).length+k*n:=by rw[hn,Nat.add_mul,Nat.one_mul,Nat.add_comm]
  simp only[List.map_cons,List.flatten_cons,List.take_succ_cons]
  rw[e,List.take_length_add_append,sA hn xs k]
theorem rN{α:Type}{enc:α->List Value}{n:Nat}(hn:∀x,(enc x).length=n):∀(xs:List α) (k:Nat),(xs.map enc).flatten.drop (k*n)=((xs.drop k).map enc).flatten
 | [],k=>by simp
 | x::xs,0=>by simp
 | x::xs,k+1=>by
  have e:(k+1)*n=(enc x).length+k*n:=by rw[hn,Nat.add_mul,Nat.one_mul,Nat.add_comm]
  simp only[List.map_cons,List.flatten_cons,List.drop_succ_cons]
  rw[e,List.drop_length_add_append,rN hn xs k]
theorem pD{α:Type}{enc:α->List Value}(h1:∀x,∀v∈enc x,v.oneCell'=true)(xs:List α):∀v∈(xs.map enc).flatten,v.oneCell'=true:=by
 intro v hv
 obtain⟨l,hl,hv⟩:=List.mem_flatten.1 hv
 obtain⟨x,_,rfl⟩:=List.mem_map.1 hl
 exact h1 x v hv
theorem zK{H:bw}{α:Type}{enc:α->List Value}{v:Value}{n sz j:Nat}{k:IntKind}{xs:List α}{x:α}{K:Value->Prop}(hS:SL W l w)(hm:Has (.mem H) l)(hn:∀x,(enc x).length=sz)(h:fW H sz v n (xs.map enc).flatten)(hx:xs[j]?=some x)(hj:j<n)(hK:K (agg (enc x))):
  ze sz v (.int k (j:Int)) λp=>zh sz p w K:=
 ZH h hj λb o hb=>b_z hS hm (hn x) (λi u hu=>hb i u (by have:=(List.getElem?_eq_some_iff.1 hu).1;rw[hn]at this;exact this) (sy hn xs j i x u hx hu)) hK
theorem zA{H:bw}{α:Type}{enc:α->List Value}{v u:Value}{n sz j i:Nat}{k:IntKind}{xs:List α}{x:α}{K:Value->Prop}(hS:SL W l w)(hm:Has (.mem H) l)(hn:∀x,(enc x).length=sz)(h:fW H sz v n (xs.map enc).flatten)(hx:xs[j]?=some x)(hj:j<n)(hu:(enc x)[i]?=some u)(hK:K u):
  ze sz v (.int k (j:Int)) λp=>zq i p λq=>cI q w K:=
 ZH h hj λb o hb=>zW (ZS hS hm (hb i u (by have:=(List.getElem?_eq_some_iff.1 hu).1;rw[hn]at this;exact this) (sy hn xs j i x u hx hu)) hK)
end
def OJ(P:Program)(T:List Bool)(sz:Nat)(v0:Value)(v1:Value)(v2:Value)(w:World)(R:Value->World->Prop):Prop:=
 zd v0 λv9=>
 zd v1 λv11=>
 zc .neq v9 v11 λnS=>
 g9 nS
 (R (.bool false) w)
 (∃(I:List Value->World->Prop) (μ:List Value->World->Nat),I [(.int .i64 0)] w /\
 ∀(v7:Value) oJ,I [v7] oJ ->
 zd v0 λBr=>
 zc .lss v7 Br λu9=>
 g9 u9
 (zj oJ λrC=>
 ze sz v0 v7 λv22=>
 zh sz v22 rC λv23=>
 ze sz v1 v7 λv26=>
 zh sz v26 rC λv27=>
 zZ P T v2 [v23,v27] rC λv28 pG=>
 y0 v28 λv29=>
 g9 v29
 (R (.bool false) pG)
 (zc .add v7 (.int .i64 1) λwZ=>
 I [wZ] pG/\μ [wZ] pG<μ [v7] oJ))
 (R (.bool true) oJ))
theorem Dh{P:Program}{T:List Bool}{f g:FuncId}{sz:Nat}{α:Type}[DecidableEq α]{enc:α->List Value}(hn:∀x,(enc x).length=sz)(hT:T.getD g false=true)
  (vc:∀v0 v1 v2 w R,OJ P T sz v0 v1 v2 w R->zV P f [v0,v1,v2] w R) (one:∀a b,Spec P g [agg (enc a),agg (enc b)] [] (eW (.bool (decide (a=b))) []))
  (H:bw) (u v:Value) (A B:List α) (hu:fW H sz u A.length (A.map enc).flatten) (hv:fW H sz v B.length (B.map enc).flatten) (hA:A.length<=9223372036854775806) :
  Spec P f [u,v,.func (.func g) #[] #[]] [.mem H] (eW (.bool (decide (A=B))) [.mem H]):=by
 intro W F w hS;apply vc;unfold OJ;(try simp only[app]at hS)
 refine zn hu (zn hv ?_)
 refine b9 (λh=>?_) (λh=>?_)
 ·have:A≠B:=λe=>by subst e;exact h rfl
  simp only[this,decide_false]
  (exact fw hS)
 ·have hl:A.length=B.length:=by omega
  refine⟨λvs w=>∃k:Nat,vs=[.int .i64 k]/\k<=A.length/\A.take k=B.take k/\SL W (.mem H::F) w,λvs _=>match vs with|[.int _ k]=>(A.length-k).toNat|_=>0,⟨0,rfl,by omega,rfl,hS⟩,?_⟩
  clear hS
  rintro v7 w ⟨k,HZ,hk,ri,hS⟩
  cases HZ
  refine zn hu ?_
  refine b9 (λh=>?_) (λh=>?_)
  ·have rT:k<A.length:=by omega
   have ng:k<B.length:=by omega
   refine yK hS ?_
   clear hS;intro w hS
   refine zK hS .hd hn hu (x:=A[k]) (by simp[rT]) rT ?_
   refine zK hS .hd hn hv (x:=B[k]) (by simp[ng]) ng ?_
   refine ZX (args':=[agg (enc A[k]),agg (enc B[k])]) hT (one A[k] B[k]) rfl hS .nil ?_
   clear hS
   rintro v post ⟨rfl,rfl⟩ w hS
   (try simp only[app]at hS);refine Gp ?_
   refine zz (λhe=>?_) (λhe=>?_)
   ·have:A≠B:=λe=>by subst e;simp at he
    simp only[this,decide_false]
    (exact fw hS)
   ·have q':=of_decide_eq_true he
    refine Gp ?_
    refine⟨⟨k+1,by simp,by omega,?_,hS⟩,by dsimp only;omega⟩
    rw[List.take_succ_eq_append_getElem rT,List.take_succ_eq_append_getElem ng,ri,q']
  ·have:k=A.length:=by omega
   subst this
   have:A=B:=by rw[List.take_length,hl,List.take_length]at ri;exact ri
   simp only[this,decide_true]
   (exact fw hS)
theorem IP{α:Type}:∀(xs:List α) (t:Nat) (x:α),xs[t]?=some x->xs.Perm (x::xs.eraseIdx t)
 | [],t,x,h=>by simp at h
 | y::xs,0,x,h=>by simp at h;subst h;exact .refl _
 | y::xs,t+1,x,h=>((IP xs t x (by simpa using h)).cons y).trans (.swap _ _ _)
def zi{α:Type}(A:α->zE)(xs:List α):zE:=star (xs.map λx=>.ob (A x))
section
variable {W w:World} {l l':List Chunk} {α:Type} {A:α->zE} {xs:List α}
theorem zi.iff:SL W (.ob (zi A xs)::l) w↔SL W ((xs.map λx=>Chunk.ob (A x))++l) w:=
 ⟨λh=>h.conv (λ_ s=>s),λh=>h.fold (λ_ s=>s)⟩
theorem zi.take{t:Nat}{x:α}(h:SL W (.ob (zi A xs)::l) w)(hx:xs[t]?=some x):SL W (.ob (A x)::.ob (zi A (xs.eraseIdx t))::l) w:=by
 have h1:=zi.iff.1 h
 have p:(xs.map λx=>Chunk.ob (A x)).Perm (.ob (A x)::(xs.eraseIdx t).map λx=>Chunk.ob (A x)):=by
  exact (IP xs t x hx).map λx=>Chunk.ob (A x)
 have h2:=h1.perm (p.append_right l)
 have h3:=h2.perm (l':=((xs.eraseIdx t).map λx=>Chunk.ob (A x))++(.ob (A x)::l)) (by simpa using List.perm_middle.symm)
 exact (zi.iff.2 h3).perm (.swap _ _ _)
theorem zi.put{t:Nat}{y:α}(h:SL W (.ob (A y)::.ob (zi A (xs.eraseIdx t))::l) w)(ht:t<xs.length):SL W (.ob (zi A (xs.set t y))::l) w:=by
 refine zi.iff.2 ?_
 have h1:=zi.iff.1 (h.perm (.swap _ _ _))
 have p:(.ob (A y)::(xs.eraseIdx t).map λx=>Chunk.ob (A x)).Perm ((xs.set t y).map λx=>Chunk.ob (A x)):=by
  have:=(IP (xs.set t y) t y (by simp[ht])).symm.map λx=>Chunk.ob (A x)
  rw[List.eraseIdx_set_eq]at this
  exact this
 refine h1.perm ?_
 refine (List.perm_middle).trans ?_
 exact p.append_right l
theorem zi.nil(h:SL W l w):SL W (.ob (zi A [])::l) w:=zi.iff.2 h
theorem zi.snoc{x:α}(h:SL W (.ob (zi A xs)::.ob (A x)::l) w):SL W (.ob (zi A (xs++[x]))::l) w:=by
 refine zi.iff.2 ?_
 have h1:=zi.iff.1 h
 simpa using h1
theorem bI.one{v:Value}{t:TypeId}{sz n:Nat}{cells:List Value}(h:SL W (.ob (bI v t sz n cells)::l) w):v.oneCell'=true:=by
 rcases bI.open h with ⟨⟨a,rfl⟩,_⟩|⟨b,cap,rest,rfl,_⟩<;>rfl
theorem Has.front{c:Chunk}(h:SL W l w){l2:List Chunk}(r:kG c l l2):SL W (c::l2) w:=h.perm r.perm
theorem zu{H:bw}{v:Value}{t:TypeId}{sz n:Nat}{cells:List Value}{F:List Chunk}(hS:SL W l w)(hp:kI [.mem H,.ob (bI v t sz n cells)] l F):∃H',H.le H'/\fW H' sz v n cells/\SL W (.mem H'::F) w:=bI.freeze (hS.pick hp)
theorem SL.Iv(h:SL W l w):SL W (.mem bw.emp::l) w:=
 ⟨h.os,h.tape,h.output,let ⟨k,s,m⟩:=h.out;⟨k,⟨bw.emp,k,Sep.emp k,rfl,s⟩,m⟩⟩
theorem Has.rem{c:Chunk}(h:Has c l):∃l2,kG c l l2:=by
 induction h with
 | hd=>exact⟨_,.hd⟩
 | tl _ ih=>obtain⟨l2,r⟩:=ih;exact⟨_,.tl r⟩
theorem bI.at{v:Value}{t:TypeId}{sz n:Nat}{cells:List Value}(h:SL W l w)(m:Has (.ob (bI v t sz n cells)) l):
  ∃a cap,v= .slice a n cap/\cells.length=n*sz/\∀j,j<n->∃b,a=some ⟨b,0,none⟩/\∀i u,cells[i]?=some u->w.cell? ⟨b,i,none⟩=some u:=by
 obtain⟨l2,r⟩:=m.rem
 rcases bI.open (h.perm r.perm) with ⟨⟨a,rfl⟩,rfl,rfl,_⟩|⟨b,cap,rest,rfl,hc,hl,hr,h2⟩
 ·exact⟨a,0,rfl,by simp,λj hj=>by omega⟩
 ·exact⟨_,cap,rfl,hl,λj hj=>⟨b,rfl,λi u hu=>h2.cell .hd (by rw[List.getElem?_append_left (List.getElem?_eq_some_iff.1 hu).1];exact hu)⟩⟩
theorem zx{v:Value}{t:TypeId}{sz n:Nat}{cells:List Value}{K:Value->Prop}(h:SL W l w)(m:Has (.ob (bI v t sz n cells)) l)(k:K (.int .i64 n)):zd v K:=by
 obtain⟨a,cap,rfl,_⟩:=bI.at h m
 exact yo k
theorem z8{v u:Value}{t:TypeId}{n j:Nat}{k:IntKind}{cells:List Value}{K:Value->Prop}(h:SL W l w)(m:Has (.ob (bI v t 1 n cells)) l)(hj:j<n)(hu:cells[j]?=some u)(hK:K u):
  ze 1 v (.int k (j:Int)) λp=>cI p w K:=by
 obtain⟨a,cap,rfl,_,h2⟩:=bI.at h m
 obtain⟨b,rfl,h3⟩:=h2 j hj
 refine zH hj ⟨_,u,rfl,h3 _ u ?_,hK⟩
 rw[Nat.zero_add,Nat.mul_one];exact hu
theorem yd{α:Type}{enc:α->List Value}{v:Value}{t:TypeId}{n sz j:Nat}{k:IntKind}{xs:List α}{x:α}{K:Value->Prop}(h:SL W l w)(m:Has (.ob (bI v t sz n (xs.map enc).flatten)) l)(hn:∀x,(enc x).length=sz)(hx:xs[j]?=some x)(hj:j<n)(hK:K (agg (enc x))):
  ze sz v (.int k (j:Int)) λp=>zh sz p w K:=by
 obtain⟨a,cap,rfl,_,h2⟩:=bI.at h m
 obtain⟨b,rfl,h3⟩:=h2 j hj
 refine zH hj ⟨_,enc x,rfl,hn x,λi u hu=>?_,hK⟩
 rw[Addr.add_lit,Nat.zero_add]
 exact h3 _ u (sy hn xs j i x u hx hu)
theorem zJ{α:Type}{enc:α->List Value}{v u:Value}{t:TypeId}{n sz j i:Nat}{k:IntKind}{xs:List α}{x:α}{K:Value->Prop}(h:SL W l w)(m:Has (.ob (bI v t sz n (xs.map enc).flatten)) l)(hn:∀x,(enc x).length=sz)(hx:xs[j]?=some x)(hj:j<n)(hu:(enc x)[i]?=some u)(hK:K u):
  ze sz v (.int k (j:Int)) λp=>zq i p λq=>cI q w K:=by
 obtain⟨a,cap,rfl,_,h2⟩:=bI.at h m
 obtain⟨b,rfl,h3⟩:=h2 j hj
 refine zH hj (zW ⟨_,u,rfl,?_,hK⟩)
 rw[Nat.zero_add]
 exact h3 _ u (sy hn xs j i x u hx hu)
theorem rz{v:Value}{t:TypeId}{sz n:Nat}{cells:List Value}(h:SL W l w)(m:Has (.ob (bI v t sz n cells)) l):m8 w sz v n cells:=by
 obtain⟨a,cap,rfl,h1,h2⟩:=bI.at h m
 rcases Nat.eq_zero_or_pos n with rfl|hn
 ·have:cells=[]:=List.eq_nil_of_length_eq_zero (by simpa using h1)
  subst this
  cases a with
  | none=>exact⟨rfl,rfl⟩
  | some p=>exact⟨rfl,by simp,λj v e=>by simp at e⟩
 ·obtain⟨b,rfl,h3⟩:=h2 0 hn
  exact⟨rfl,h1,λj v e=>by rw[Addr.add_lit,Nat.zero_add];exact h3 j v e⟩
theorem fW.take{H:bw}{a:Option Addr}{sz n cap k:Nat}{cells:List Value}(h:fW H sz (.slice a n cap) n cells)(hk:k<=n)(a':Option Addr)(ha:a'=a):fW H sz (.slice a' k cap) k (cells.take (k*sz)):=by
 subst ha
 obtain⟨h1,a',vk,h2,h3,h4⟩:=h
 cases h2
 refine⟨by rw[List.length_take,h1];exact Nat.min_eq_left (Nat.mul_le_mul_right _ hk),_,_,rfl,by omega,?_⟩
 rcases h4 with rfl|⟨b,o,rfl,h6⟩
 ·exact .inl (by omega)
 ·refine .inr ⟨b,o,rfl,λj u hu=>?_⟩
  rw[List.getElem?_take]at hu
  split at hu
  ·exact h6 _ u hu
  ·cases hu
theorem qi{H:bw}{v:Value}{sz n k:Nat}{kk:IntKind}{cells:List Value}{K:Value->Prop}(h:fW H sz v n cells)(hk:k<=n)(hK:∀v',fW H sz v' k (cells.take (k*sz))->K v'):iQ sz v none (some (.int kk (k:Int))) none K:=by
 have h':=h
 obtain⟨_,a,cap,rfl,h3,_⟩:=h
 refine⟨a,n,cap,0,k,cap,rfl,rfl,⟨kk,rfl⟩,rfl,Nat.zero_le _,by omega,Nat.le_refl _,hK _ ?_⟩
 rw[Nat.sub_zero,Nat.sub_zero]
 refine fW.take h' hk _ ?_
 split
 ·rfl
 ·cases a<;>simp[Addr.add]
end
end Go.Proofs.YtfenmffiidchcaaGreat
