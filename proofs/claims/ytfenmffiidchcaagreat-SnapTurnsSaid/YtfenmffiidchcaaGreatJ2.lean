/-
  Texts of the proof, joined: Sl4, Api, Sl5.
-/
import Derived.Test.YtfenmffiidchcaaGreatJ1
import Derived.MapKept
namespace Go.Proofs.YtfenmffiidchcaaGreat
set_option linter.unusedVariables false
open Go.RowKit
structure wR{κ:Type}(d:TypeDesc)(key:κ->Value):Prop where
 is:∀k,MapKept.IsKey d (key k)
 inj:∀{a b},key a=key b->a=b
theorem s_(k:IntKind):wR (.int k) (Value.int k):=⟨λ_=>rfl,λh=>by cases h;rfl⟩
section
variable {κ α:Type} [DecidableEq κ]
def gS:List (κ × α)->κ->Option α
 | [],_=>none
 | p::m,k=>if p.1=k then some p.2 else gS m k
def iZ:List (κ × α)->κ->α->List (κ × α)
 | [],k,v=>[(k,v)]
 | p::m,k,v=>if p.1=k then (k,v)::m else p::iZ m k v
def oB:List (κ × α)->κ->List (κ × α)
 | [],_=>[]
 | p::m,k=>if p.1=k then m else p::oB m k
def kv(e:MapEntry):Value × Value:=(e.key,e.val)
def kw(key:κ->Value)(val:α->Value)(p:κ × α):Value × Value:=(key p.1,val p.2)
theorem Bw{d:TypeDesc}{key:κ->Value}{val:α->Value}(ok:wR d key)(k:κ):∀(es:List MapEntry) (m:List (κ × α)) (i:Nat),es.map kv=m.map (kw key val) ->
  (Instr.findNow d (key k) es i=some none/\gS m k=none/\(∀v,iZ m k v=m++[(k,v)])/\oB m k=m/\∀x∈es,x.key≠key k) \/
  ∃j e a,Instr.findNow d (key k) es i=some (some (i+j,val a))/\es[j]?=some e/\e.key=key k/\gS m k=some a /\
   (∀v,(es.modify j λe=>{e with key:=key k,val:=val v}).map kv=(iZ m k v).map (kw key val))/\(es.eraseIdx j).map kv=(oB m k).map (kw key val)
 | [],[],_,_=>.inl ⟨rfl,rfl,λ_=>rfl,rfl,by simp⟩
 | [],_::_,_,h=>by simp at h
 | _::_,[],_,h=>by simp at h
 | e::es,p::m,i,h=>by
  simp only[List.map_cons,List.cons.injEq]at h
  obtain⟨h1,h2⟩:=h
  obtain⟨x,y⟩:=p
  simp only[kv,kw,Prod.mk.injEq]at h1
  obtain⟨mQ,vJ⟩:=h1
  obtain⟨r,hr,OE⟩:=MapKept.sameNow_of_keys (ok.is k) (ok.is x)
  by_cases hx:x=k
  ·subst hx
   obtain rfl:r=true:=OE.2 rfl
   refine .inr ⟨0,e,y,by simp[Instr.findNow,mQ,hr,vJ],rfl,mQ,by simp[gS],?_,?_⟩
   ·intro v;simp[iZ,kv,kw];exact h2
   ·simp[oB,h2]
  ·have k7:r=false:=by
    cases r with
    | false=>rfl
    | true=>exact absurd (ok.inj (OE.1 rfl)).symm hx
   subst k7
   rcases Bw ok k es m (i+1) h2 with ⟨a1,a2,a3,a4,a5⟩|⟨j,e',a,a1,a2,a3,a4,a5,a6⟩
   ·refine .inl ⟨by simp[Instr.findNow,mQ,hr,a1],by simp[gS,hx,a2],λv=>by simp[iZ,hx,a3],by simp[oB,hx,a4],?_⟩
    intro z hz
    rcases List.mem_cons.1 hz with rfl|hz
    ·rw[mQ];exact λq=>hx (ok.inj q)
    ·exact a5 z hz
   ·refine .inr ⟨j+1,e',a,by simp[Instr.findNow,mQ,hr,a1];omega,by simpa using a2,a3,by simp[gS,hx,a4],?_,?_⟩
    ·intro v;simp[iZ,hx,kv,kw,mQ,vJ];exact a5 v
    ·simp[oB,hx,kv,kw,mQ,vJ];exact a6
end
def fC{κ α:Type}(key:κ->Value)(val:α->Value)(b:Nat)(m:List (κ × α)):zC:=
 jQ λx:List MapEntry × Nat=>zP (x.1.map kv=m.map (kw key val)/\MapKept.Stamped x.1.toArray x.2) [.mp b x.1 x.2]
section
variable {W w:World} {l l':List Chunk} {κ α:Type} [DecidableEq κ] {key:κ->Value} {val:α->Value} {b:Nat} {m:List (κ × α)}
omit [DecidableEq κ] in
theorem fC.of{es:List MapEntry}{c:Nat}(h1:es.map kv=m.map (kw key val))(h2:MapKept.Stamped es.toArray c):(Chunk.ob (fC key val b m)).holds (aW.one b (.map es.toArray c)):=
 ⟨(es,c),⟨h1,h2⟩,⟨aW.one b (.map es.toArray c),aW.emp,λx=>.inr ⟨rfl,rfl⟩,rfl,rfl⟩⟩
omit [DecidableEq κ] in
theorem a71{c:Chunk}{k:aW}(h:star [c] k):c.holds k:=by
 obtain⟨h1,h2,s,a,r⟩:=h
 obtain rfl:h2=aW.emp:=r
 have:k=h1:=funext λb=>by
  rcases s b with ⟨x,y⟩|⟨x,y⟩
  ·rw[x,y];rfl
  ·exact y
 rw[this];exact a
omit [DecidableEq κ] in
theorem fC.out{k:aW}(h:(Chunk.ob (fC key val b m)).holds k):∃(es:List MapEntry) (c:Nat),es.map kv=m.map (kw key val)/\MapKept.Stamped es.toArray c/\k=aW.one b (.map es.toArray c):=by
 obtain⟨⟨es,c⟩,⟨h1,h2⟩,h3⟩:=h
 exact⟨es,c,h1,h2,a71 h3⟩
omit [DecidableEq κ] in
theorem SL.wi(h:SL W l w)(hm:Has (.ob (fC key val b m)) l):∃(es:List MapEntry) (c:Nat),es.map kv=m.map (kw key val)/\MapKept.Stamped es.toArray c/\w.heap[b]?=some (.map es.toArray c):=by
 obtain⟨k,s,x⟩:=h.out
 obtain⟨h1,hh,le⟩:=hm.heap s
 obtain⟨es,c,e1,e2,rfl⟩:=fC.out hh
 exact⟨es,c,e1,e2,x b _ (le b _ (by simp[aW.one]))⟩
omit [DecidableEq κ] in
theorem SL.wj{m':List (κ × α)}{es:List MapEntry}{c:Nat}{o:Obj}(h:SL W l w)(u:gh (.ob (fC key val b m)) (.ob (fC key val b m')) l l')(hb:w.heap[b]?=some o)(h1:es.map kv=m'.map (kw key val))(h2:MapKept.Stamped es.toArray c):
  SL W l' {w with heap:=w.heap.setIfInBounds b (.map es.toArray c)}:=
 h.rr (b:=b) (o':=.map es.toArray c) u (λk hk=>by obtain⟨es,c,_,_,rfl⟩:=fC.out hk;exact⟨_,rfl⟩) (fC.of h1 h2) (MapKept.heap_set hb).1 (MapKept.heap_set hb).2 rfl rfl rfl
omit [DecidableEq κ] in
theorem SL.P1(h:SL W l w):SL W (.ob (fC key val w.heap.size [])::l) (w.alloc (.map #[] 0)):=h.alloc (fC.of (es:=[]) rfl (MapKept.stamped_empty 0))
variable {P:Program} {t kt et:TypeId} {d:TypeDesc} {z:Value} {k:κ}
theorem Zr{K:Value->Prop}(hS:SL W l w)(hm:Has (.ob (fC key val b m)) l)(ok:wR d key)(ht:P.underlying t=some (.map kt et))(hd:P.underlying kt=some d)(hz:∀w,(zeroValue et).run P w= .ok z w)
  (h:K (((gS m k).map val).getD z)):ga P (Instr.lookup t (.map (some b)) (key k) false) w K:=by
 obtain⟨es,c,e1,e2,hb⟩:=hS.wi hm
 rcases Bw ok k es m 0 e1 with ⟨a1,a2,_,_,_⟩|⟨j,e,a,a1,_,_,a4,_,_⟩
 ·refine⟨_,?_,h⟩
  simp[Instr.lookup,run_underlying ht,MapKept.run_getObj_map hb,MapKept.run_checkKey hd (ok.is k),MapKept.run_findKey hd a1,hz,Result.andThen,a2]
 ·refine⟨_,?_,h⟩
  simp[Instr.lookup,run_underlying ht,MapKept.run_getObj_map hb,MapKept.run_checkKey hd (ok.is k),MapKept.run_findKey hd a1,Result.andThen,a4]
theorem aW3{v:α}{K:Value->World->Prop}(hS:SL W l w)(u:gh (.ob (fC key val b m)) (.ob (fC key val b (iZ m k v))) l l')(ok:wR d key)(ht:P.underlying t=some (.map kt et))(hd:P.underlying kt=some d)
  (h:∀u w',SL W l' w'->K u w'):zZ P (do Instr.mapUpdate t (.map (some b)) (key k) (val v);pure undef) w K:=by
 obtain⟨es,c,e1,e2,hb⟩:=hS.wi u.has
 have hks:∀x∈es,∃p∈m,x.key=key p.1:=λx hx=>by
  have:kv x∈es.map kv:=List.mem_map.2 ⟨x,hx,rfl⟩
  rw[e1]at this
  obtain⟨p,hp,hq⟩:=List.mem_map.1 this
  exact⟨p,hp,(Prod.mk.inj hq).1.symm⟩
 rcases Bw ok k es m 0 e1 with ⟨a1,_,a3,_,a5⟩|⟨j,e,a,a1,a2,a3,_,a5,_⟩
 ·refine⟨undef,{w with heap:=w.heap.setIfInBounds b (.map (es++[({key:=key k,val:=val v,born:=c}:MapEntry)]).toArray (c+1))},?_,h _ _ (hS.wj u hb (by rw[a3];simp[e1,kv,kw]) ?_)⟩
  ·simp[Instr.mapUpdate,run_underlying ht,MapKept.run_getObj_map hb,MapKept.run_checkKey hd (ok.is k),MapKept.run_findKey hd a1,MapKept.run_setObj_map _ hb,Result.andThen]
  ·have:=MapKept.stamped_push e2 (key:=key k) (val:=val v) (by simpa using a5)
   simpa using this
 ·refine⟨undef,{w with heap:=w.heap.setIfInBounds b (.map (es.modify j λe=>{e with key:=key k,val:=val v}).toArray c)},?_,h _ _ (hS.wj u hb (a5 v) ?_)⟩
  ·have hj:es.toArray[j]?=some e:=by simpa using a2
   simp[Instr.mapUpdate,run_underlying ht,MapKept.run_getObj_map hb,MapKept.run_checkKey hd (ok.is k),MapKept.run_findKey hd a1,a2,a3,MapKept.run_keyThatStays (ok.is k),MapKept.run_setObj_map _ hb,Result.andThen]
  ·have uz:∀e',es.toArray[j]?=some e'->({e' with key:=key k,val:=val v}:MapEntry).key=e'.key:=λe' nD=>by
    have:es[j]?=some e':=by simpa using nD
    rw[a2]at this;cases this;exact a3.symm
   have:=MapKept.stamped_modify e2 j (λe=>{e with key:=key k,val:=val v}) (λ_ _=>rfl) (λe' _ nD=>uz e' nD)
   simpa using this
theorem aW1{ty Z_:TypeId}{K:Value->World->Prop}(hS:SL W l w)(u:gh (.ob (fC key val b m)) (.ob (fC key val b (oB m k))) l l')(ok:wR d key)(ht:P.underlying t=some (.map kt et))(hd:P.underlying kt=some d)
  (h:∀u w',SL W l' w'->K u w'):zZ P (Builtin.delete_ #[t,Z_] ty #[.map (some b),key k]) w K:=by
 obtain⟨es,c,e1,e2,hb⟩:=hS.wi u.has
 rcases Bw ok k es m 0 e1 with ⟨a1,_,_,a4,_⟩|⟨j,e,a,a1,a2,_,_,_,a6⟩
 ·refine⟨.tuple #[],{w with heap:=w.heap.setIfInBounds b (.map es.toArray c)},?_,h _ _ (hS.wj u hb (by rw[a4];exact e1) e2)⟩
  simp[Builtin.delete_,run_underlying ht,MapKept.run_getObj_map hb,MapKept.run_checkKey hd (ok.is k),MapKept.run_findKey hd a1,MapKept.run_setObj_map _ hb,Result.andThen]
 ·have dZ:j<es.length:=(List.getElem?_eq_some_iff.1 a2).1
  have Xv:es.toArray.eraseIdxIfInBounds j=(es.eraseIdx j).toArray:=by simp[Array.eraseIdxIfInBounds,dZ]
  refine⟨.tuple #[],{w with heap:=w.heap.setIfInBounds b (.map (es.eraseIdx j).toArray c)},?_,h _ _ (hS.wj u hb a6 ?_)⟩
  ·simp[Builtin.delete_,run_underlying ht,MapKept.run_getObj_map hb,MapKept.run_checkKey hd (ok.is k),MapKept.run_findKey hd a1,MapKept.run_setObj_map _ hb,Result.andThen]
  ·have:=MapKept.stamped_erase e2 j
   rwa [Xv]at this
omit [DecidableEq κ] in
end
structure Cell where
 key:Int
 aI:Int
 gone:Bool
 val:ByteArray
deriving DecidableEq
structure Row where
 key:Int
 val:ByteArray
deriving DecidableEq
structure mf where
 aI:Int
 table:Int
 key:Int
 gone:Bool
 val:ByteArray
deriving DecidableEq
def dX(c:Row):List Value:=[.int .i64 c.key,.string c.val]
def pQ(o:mf):List Value:=[.int .i64 o.aI,.int .i64 o.table,.int .i64 o.key,.bool o.gone,.string o.val]
theorem fQ(c:Row):(dX c).length=2:=rfl
theorem vA(c:Row):∀v∈dX c,v.oneCell'=true:=by simp[dX,Value.oneCell']
theorem M4(o:mf):∀v∈pQ o,v.oneCell'=true:=by simp[pQ,Value.oneCell']
abbrev agg(l:List Value):Value:=.agg l.toArray
theorem Nr{α:Type}(enc:α->List Value)(xs:List α)(x:α):((xs++[x]).map enc).flatten=(xs.map enc).flatten++enc x:=by simp
section
variable {W w:World} {l:List Chunk} {P:Program}
theorem Vw{t:TypeId}{fs:Array Field}(h:P.underlying t=some (.struct fs)):P.fieldsOf t=fs:=by unfold Program.fieldsOf;rw[h]
theorem aWa{t:TypeId}{fs:Array Field}{xs ys:List Value}{b:Bool}(h:P.underlying t=some (.struct fs))(hp:P.stoodInHeld t=false)(he:(Op.eqFields 9999 xs.toArray ys.toArray fs.toList).run P w= .ok b w):(Op.equal t (agg xs) (agg ys)).run P w= .ok b w:=by
 have hf:=Vw h
 unfold Op.equal Op.maxDepth
 rw[run_equalIn_agg w 9999 t _ _ (by rw[hf];exact h) hp,hf];exact he
theorem jF{α:Type}{enc:α->List Value}{n:Nat}(hn:∀x,(enc x).length=n)(xs:List α):((xs.map enc).flatten).length=xs.length*n:=by
 induction xs with
 | nil=>simp
 | cons x xs ih=>simp[hn,ih,Nat.add_mul];omega
theorem nz{α:Type}{enc:α->List Value}{n:Nat}(hn:∀x,(enc x).length=n):∀(xs:List α) (j i:Nat) (x:α) (u:Value),xs[j]?=some x->(enc x)[i]?=some u->((xs.map enc).flatten)[j*n+i]?=some u
 | [],j,i,x,u,h,_=>by simp at h
 | y::xs,0,i,x,u,h,hu=>by
  simp at h;subst h
  have:i<(enc y).length:=(List.getElem?_eq_some_iff.1 hu).1
  simp only[List.map_cons,List.flatten_cons,Nat.zero_mul,Nat.zero_add]
  rw[List.getElem?_append_left this];exact hu
 | y::xs,j+1,i,x,u,h,hu=>by
  have ih:=nz hn xs j i x u (by simpa using h) hu
  simp only[List.map_cons,List.flatten_cons]
  rw[List.getElem?_append_right (by rw[hn,Nat.add_mul];omega),hn]
  rw[show (j+1)*n+i-n=j*n+i by rw[Nat.add_mul];omega];exact ih
theorem od{α:Type}{enc:α->List Value}{n:Nat}(hn:∀x,(enc x).length=n):∀(xs:List α) (k:Nat),(xs.map enc).flatten.take (k*n)=((xs.take k).map enc).flatten
 | [],k=>by simp
 | x::xs,0=>by simp
 | x::xs,k+1=>by
  have e:(k+1)*n=(enc x).length+k*n:=by rw[hn,Nat.add_mul,Nat.one_mul,Nat.add_comm]
  simp only[List.map_cons,List.flatten_cons,List.take_succ_cons]
  rw[e,List.take_length_add_append,od hn xs k]
theorem nA{α:Type}{enc:α->List Value}{n:Nat}(hn:∀x,(enc x).length=n):∀(xs:List α) (k:Nat),(xs.map enc).flatten.drop (k*n)=((xs.drop k).map enc).flatten
 | [],k=>by simp
 | x::xs,0=>by simp
 | x::xs,k+1=>by
  have e:(k+1)*n=(enc x).length+k*n:=by rw[hn,Nat.add_mul,Nat.one_mul,Nat.add_comm]
  simp only[List.map_cons,List.flatten_cons,List.drop_succ_cons]
  rw[e,List.drop_length_add_append,nA hn xs k]
theorem m_{α:Type}{enc:α->List Value}(h1:∀x,∀v∈enc x,v.oneCell'=true)(xs:List α):∀v∈(xs.map enc).flatten,v.oneCell'=true:=by
 intro v hv
 obtain⟨l,hl,hv⟩:=List.mem_flatten.1 hv
 obtain⟨x,_,rfl⟩:=List.mem_map.1 hl
 exact h1 x v hv
theorem zS{H:aW}{α:Type}{enc:α->List Value}{v:Value}{n sz j:Nat}{k:IntKind}{xs:List α}{x:α}{K:Value->Prop}(hS:SL W l w)(hm:Has (.mem H) l)(hn:∀x,(enc x).length=sz)(h:dy H sz v n (xs.map enc).flatten)(hx:xs[j]?=some x)(hj:j<n)(hK:K (agg (enc x))):
  zh sz v (.int k (j:Int)) λp=>zj sz p w K:=
 ZC h hj λb o hb=>aWx hS hm (hn x) (λi u hu=>hb i u (by have:=(List.getElem?_eq_some_iff.1 hu).1;rw[hn]at this;exact this) (nz hn xs j i x u hx hu)) hK
theorem zJ{H:aW}{α:Type}{enc:α->List Value}{v u:Value}{n sz j i:Nat}{k:IntKind}{xs:List α}{x:α}{K:Value->Prop}(hS:SL W l w)(hm:Has (.mem H) l)(hn:∀x,(enc x).length=sz)(h:dy H sz v n (xs.map enc).flatten)(hx:xs[j]?=some x)(hj:j<n)(hu:(enc x)[i]?=some u)(hK:K u):
  zh sz v (.int k (j:Int)) λp=>zu i p λq=>cR q w K:=
 ZC h hj λb o hb=>zQ (ZJ hS hm (hb i u (by have:=(List.getElem?_eq_some_iff.1 hu).1;rw[hn]at this;exact this) (nz hn xs j i x u hx hu)) hK)
end
theorem Gy{α:Type}:∀(xs:List α) (t:Nat) (x:α),xs[t]?=some x->xs.Perm (x::xs.eraseIdx t)
 | [],t,x,h=>by simp at h
 | y::xs,0,x,h=>by simp at h;subst h;exact .refl _
 | y::xs,t+1,x,h=>((Gy xs t x (by simpa using h)).cons y).trans (.swap _ _ _)
def zf{α:Type}(A:α->zC)(xs:List α):zC:=star (xs.map λx=>.ob (A x))
section
variable {W w:World} {l l':List Chunk} {α:Type} {A:α->zC} {xs:List α}
theorem zf.iff:SL W (.ob (zf A xs)::l) w↔SL W ((xs.map λx=>Chunk.ob (A x))++l) w:=
 ⟨λh=>h.conv (λ_ s=>s),λh=>h.fold (λ_ s=>s)⟩
theorem zf.take{t:Nat}{x:α}(h:SL W (.ob (zf A xs)::l) w)(hx:xs[t]?=some x):SL W (.ob (A x)::.ob (zf A (xs.eraseIdx t))::l) w:=by
 have h1:=zf.iff.1 h
 have p:(xs.map λx=>Chunk.ob (A x)).Perm (.ob (A x)::(xs.eraseIdx t).map λx=>Chunk.ob (A x)):=by
  exact (Gy xs t x hx).map λx=>Chunk.ob (A x)
 have h2:=h1.perm (p.append_right l)
 have h3:=h2.perm (l':=((xs.eraseIdx t).map λx=>Chunk.ob (A x))++(.ob (A x)::l)) (by simpa using List.perm_middle.symm)
 exact (zf.iff.2 h3).perm (.swap _ _ _)
theorem zf.put{t:Nat}{y:α}(h:SL W (.ob (A y)::.ob (zf A (xs.eraseIdx t))::l) w)(ht:t<xs.length):SL W (.ob (zf A (xs.set t y))::l) w:=by
 refine zf.iff.2 ?_
 have h1:=zf.iff.1 (h.perm (.swap _ _ _))
 have p:(.ob (A y)::(xs.eraseIdx t).map λx=>Chunk.ob (A x)).Perm ((xs.set t y).map λx=>Chunk.ob (A x)):=by
  have:=(Gy (xs.set t y) t y (by simp[ht])).symm.map λx=>Chunk.ob (A x)
  rw[List.eraseIdx_set_eq]at this
  exact this
 refine h1.perm ?_
 refine (List.perm_middle).trans ?_
 exact p.append_right l
theorem zf.nil(h:SL W l w):SL W (.ob (zf A [])::l) w:=zf.iff.2 h
theorem zf.snoc{x:α}(h:SL W (.ob (zf A xs)::.ob (A x)::l) w):SL W (.ob (zf A (xs++[x]))::l) w:=by
 refine zf.iff.2 ?_
 have h1:=zf.iff.1 h
 simpa using h1
theorem a7.one{v:Value}{t:TypeId}{sz n:Nat}{cells:List Value}(h:SL W (.ob (a7 v t sz n cells)::l) w):v.oneCell'=true:=by
 rcases a7.open h with ⟨⟨a,rfl⟩,_⟩|⟨b,cap,rest,rfl,_⟩<;>rfl
theorem Has.front{c:Chunk}(h:SL W l w){l2:List Chunk}(r:gB c l l2):SL W (c::l2) w:=h.perm r.perm
theorem zE{H:aW}{v:Value}{t:TypeId}{sz n:Nat}{cells:List Value}{F:List Chunk}(hS:SL W l w)(hp:gq [.mem H,.ob (a7 v t sz n cells)] l F):∃H',H.le H'/\dy H' sz v n cells/\SL W (.mem H'::F) w:=a7.freeze (hS.pick hp)
theorem SL.F8(h:SL W l w):SL W (.mem aW.emp::l) w:=
 ⟨h.os,h.tape,h.output,let ⟨k,s,m⟩:=h.out;⟨k,⟨aW.emp,k,Sep.emp k,rfl,s⟩,m⟩⟩
theorem Has.rem{c:Chunk}(h:Has c l):∃l2,gB c l l2:=by
 induction h with
 | hd=>exact⟨_,.hd⟩
 | tl _ ih=>obtain⟨l2,r⟩:=ih;exact⟨_,.tl r⟩
theorem a7.at{v:Value}{t:TypeId}{sz n:Nat}{cells:List Value}(h:SL W l w)(m:Has (.ob (a7 v t sz n cells)) l):
  ∃a cap,v= .slice a n cap/\cells.length=n*sz/\∀j,j<n->∃b,a=some ⟨b,0,none⟩/\∀i u,cells[i]?=some u->w.cell? ⟨b,i,none⟩=some u:=by
 obtain⟨l2,r⟩:=m.rem
 rcases a7.open (h.perm r.perm) with ⟨⟨a,rfl⟩,rfl,rfl,_⟩|⟨b,cap,rest,rfl,hc,hl,hr,h2⟩
 ·exact⟨a,0,rfl,by simp,λj hj=>by omega⟩
 ·exact⟨_,cap,rfl,hl,λj hj=>⟨b,rfl,λi u hu=>h2.cell .hd (by rw[List.getElem?_append_left (List.getElem?_eq_some_iff.1 hu).1];exact hu)⟩⟩
theorem zr{v:Value}{t:TypeId}{sz n:Nat}{cells:List Value}{K:Value->Prop}(h:SL W l w)(m:Has (.ob (a7 v t sz n cells)) l)(k:K (.int .i64 n)):zd v K:=by
 obtain⟨a,cap,rfl,_⟩:=a7.at h m
 exact yk k
theorem z7{v u:Value}{t:TypeId}{n j:Nat}{k:IntKind}{cells:List Value}{K:Value->Prop}(h:SL W l w)(m:Has (.ob (a7 v t 1 n cells)) l)(hj:j<n)(hu:cells[j]?=some u)(hK:K u):
  zh 1 v (.int k (j:Int)) λp=>cR p w K:=by
 obtain⟨a,cap,rfl,_,h2⟩:=a7.at h m
 obtain⟨b,rfl,h3⟩:=h2 j hj
 refine zB hj ⟨_,u,rfl,h3 _ u ?_,hK⟩
 rw[Nat.zero_add,Nat.mul_one];exact hu
theorem z6{α:Type}{enc:α->List Value}{v:Value}{t:TypeId}{n sz j:Nat}{k:IntKind}{xs:List α}{x:α}{K:Value->Prop}(h:SL W l w)(m:Has (.ob (a7 v t sz n (xs.map enc).flatten)) l)(hn:∀x,(enc x).length=sz)(hx:xs[j]?=some x)(hj:j<n)(hK:K (agg (enc x))):
  zh sz v (.int k (j:Int)) λp=>zj sz p w K:=by
 obtain⟨a,cap,rfl,_,h2⟩:=a7.at h m
 obtain⟨b,rfl,h3⟩:=h2 j hj
 refine zB hj ⟨_,enc x,rfl,hn x,λi u hu=>?_,hK⟩
 rw[Addr.add_lit,Nat.zero_add]
 exact h3 _ u (nz hn xs j i x u hx hu)
theorem zD{α:Type}{enc:α->List Value}{v u:Value}{t:TypeId}{n sz j i:Nat}{k:IntKind}{xs:List α}{x:α}{K:Value->Prop}(h:SL W l w)(m:Has (.ob (a7 v t sz n (xs.map enc).flatten)) l)(hn:∀x,(enc x).length=sz)(hx:xs[j]?=some x)(hj:j<n)(hu:(enc x)[i]?=some u)(hK:K u):
  zh sz v (.int k (j:Int)) λp=>zu i p λq=>cR q w K:=by
 obtain⟨a,cap,rfl,_,h2⟩:=a7.at h m
 obtain⟨b,rfl,h3⟩:=h2 j hj
 refine zB hj (zQ ⟨_,u,rfl,?_,hK⟩)
 rw[Nat.zero_add]
 exact h3 _ u (nz hn xs j i x u hx hu)
theorem nc{v:Value}{t:TypeId}{sz n:Nat}{cells:List Value}(h:SL W l w)(m:Has (.ob (a7 v t sz n cells)) l):jy w sz v n cells:=by
 obtain⟨a,cap,rfl,h1,h2⟩:=a7.at h m
 rcases Nat.eq_zero_or_pos n with rfl|hn
 ·have:cells=[]:=List.eq_nil_of_length_eq_zero (by simpa using h1)
  subst this
  cases a with
  | none=>exact⟨rfl,rfl⟩
  | some p=>exact⟨rfl,by simp,λj v e=>by simp at e⟩
 ·obtain⟨b,rfl,h3⟩:=h2 0 hn
  exact⟨rfl,h1,λj v e=>by rw[Addr.add_lit,Nat.zero_add];exact h3 j v e⟩
theorem dy.take{H:aW}{a:Option Addr}{sz n cap k:Nat}{cells:List Value}(h:dy H sz (.slice a n cap) n cells)(hk:k<=n)(a':Option Addr)(ha:a'=a):dy H sz (.slice a' k cap) k (cells.take (k*sz)):=by
 subst ha
 obtain⟨h1,a',pM,h2,h3,h4⟩:=h
 cases h2
 refine⟨by rw[List.length_take,h1];exact Nat.min_eq_left (Nat.mul_le_mul_right _ hk),_,_,rfl,by omega,?_⟩
 rcases h4 with rfl|⟨b,o,rfl,h6⟩
 ·exact .inl (by omega)
 ·refine .inr ⟨b,o,rfl,λj u hu=>?_⟩
  rw[List.getElem?_take]at hu
  split at hu
  ·exact h6 _ u hu
  ·cases hu
theorem q9{H:aW}{v:Value}{sz n k:Nat}{kk:IntKind}{cells:List Value}{K:Value->Prop}(h:dy H sz v n cells)(hk:k<=n)(hK:∀v',dy H sz v' k (cells.take (k*sz))->K v'):eG sz v none (some (.int kk (k:Int))) none K:=by
 have h':=h
 obtain⟨_,a,cap,rfl,h3,_⟩:=h
 refine⟨a,n,cap,0,k,cap,rfl,rfl,⟨kk,rfl⟩,rfl,Nat.zero_le _,by omega,Nat.le_refl _,hK _ ?_⟩
 rw[Nat.sub_zero,Nat.sub_zero]
 refine dy.take h' hk _ ?_
 split
 ·rfl
 ·cases a<;>simp[Addr.add]
end
end Go.Proofs.YtfenmffiidchcaaGreat
