/- Part. -/
import Derived.Test.YthohmpdacdmclaaGreatDoorJ1
namespace Go.Proofs.YthohmpdacdmclaaGreatDoor
set_option linter.all false
open Go.RowKit
abbrev Μ:=Chunk
abbrev Β:=List Μ
def yyx:=@MapKept.run_getObj_map
def xxi:=@MapKept.run_checkKey
def wwd:=@MapKept.run_findKey
def wwn:=@MapKept.run_setObj_map
def vv8:=@Nat.zero_mul
def wwu:=@Nat.one_mul
def uu3:=@Nat.add_comm
def vvg:=@List.take_succ_cons
def uuo:=@List.drop_succ_cons
def wwi:=@List.mem_flatten
def zzf:=@List.length_take
def xxd:=@Nat.min_eq_left
def zz6:=@Nat.zero_le
structure xJ{κ:Type}(d:TypeDesc)(key:κ->Ε):Prop where
 is:∀k,MapKept.IsKey d (key k)
 inj:∀{a b},key a=key b->a=b
def ph(k:IntKind):xJ (.int k) (Value.int k):=⟨λ_=>rfl,λh=>by cases h;rfl⟩
section
variable {κ α:Type} [DecidableEq κ]
def fD:List (κ × α)->κ->Option α
 | [],_=>none
 | p::m,k=>if p.1=k then some p.2 else fD m k
def fN:List (κ × α)->κ->α->List (κ × α)
 | [],k,v=>[(k,v)]
 | p::m,k,v=>if p.1=k then (k,v)::m else p::fN m k v
def p4:List (κ × α)->κ->List (κ × α)
 | [],_=>[]
 | p::m,k=>if p.1=k then m else p::p4 m k
def kv(e:MapEntry):Ε × Ε:=(e.key,e.val)
def kw(key:κ->Ε)(val:α->Ε)(p:κ × α):Ε × Ε:=(key p.1,val p.2)
def B'{d:TypeDesc}{key:κ->Ε}{val:α->Ε}(ok:xJ d key)(k:κ):∀(es:List MapEntry) (m:List (κ × α)) (i:Nat),es.map kv=m.map (kw key val) ->
  (Instr.findNow d (key k) es i=some none/\fD m k=none/\(∀v,fN m k v=m++[(k,v)])/\p4 m k=m/\∀x∈es,x.key≠key k) \/
  ∃j e a,Instr.findNow d (key k) es i=some (some (i+j,val a))/\es[j]?=some e/\e.key=key k/\fD m k=some a /\
   (∀v,(es.modify j λe=>{e with key:=key k,val:=val v}).map kv=(fN m k v).map (kw key val))/\(es.eraseIdx j).map kv=(p4 m k).map (kw key val)
 | [],[],_,_=>.inl ⟨rfl,rfl,λ_=>rfl,rfl,by simp⟩
 | [],_::_,_,h=>by simp at h
 | _::_,[],_,h=>by simp at h
 | e::es,p::m,i,h=>by
  simp only[zzp,List.cons.injEq]at h;obtain⟨h1,h2⟩:=h;obtain⟨x,y⟩:=p;simp only[kv,kw,vvd]at h1;obtain⟨rL,Eu⟩:=h1;obtain⟨r,hr,EY⟩:=MapKept.sameNow_of_keys (ok.is k) (ok.is x);by_cases hx:x=k
  ·subst hx;obtain rfl:r=true:=EY.2 rfl;refine .inr ⟨0,e,y,by simp[Instr.findNow,rL,hr,Eu],rfl,rL,by simp[fD],?_,?_⟩
   ·grind [fN,kv,kw]
   simp[p4,h2]
  have hr':r=false:=by
   cases r with
   | false=>rfl
   | true=>exact absurd (ok.inj (EY.1 rfl)).symm hx
  subst hr';rcases B' ok k es m (i+1) h2 with ⟨a1,a2,a3,a4,a5⟩|⟨j,e',a,a1,a2,a3,a4,a5,a6⟩
  ·refine .inl ⟨by simp[Instr.findNow,rL,hr,a1],by simp[fD,hx,a2],λv=>by simp[fN,hx,a3],by simp[p4,hx,a4],?_⟩
   grind
  refine .inr ⟨j+1,e',a,by simp[Instr.findNow,rL,hr,a1];omega,by simpa using a2,a3,by simp[fD,hx,a4],?_,?_⟩
  ·grind [fN,kv,kw]
  grind [p4,kv,kw]
end
def dx{κ α:Type}(key:κ->Ε)(val:α->Ε)(b:Nat)(m:List (κ × α)):zC:=
 iX λx:List MapEntry × Nat=>zF (x.1.map kv=m.map (kw key val)/\MapKept.Stamped x.1.toArray x.2) [.mp b x.1 x.2]
section
variable {W w:Ζ} {l l':Β} {κ α:Type} [DecidableEq κ] {key:κ->Ε} {val:α->Ε} {b:Nat} {m:List (κ × α)}
omit [DecidableEq κ] in
def dx.of{es:List MapEntry}{c:Nat}(h1:es.map kv=m.map (kw key val))(h2:MapKept.Stamped es.toArray c):(Chunk.ob (dx key val b m)).holds (a_.one b (.map es.toArray c)):=
 ⟨(es,c),⟨h1,h2⟩,⟨a_.one b (.map es.toArray c),a_.emp,λx=>.inr ⟨rfl,rfl⟩,rfl,rfl⟩⟩
omit [DecidableEq κ] in
def bz1{c:Μ}{k:a_}(h:star [c] k):c.holds k:=by
 obtain⟨h1,h2,s,a,r⟩:=h;obtain rfl:h2=a_.emp:=r;have:k=h1:=funext λb=>by
  rcases s b with ⟨x,y⟩|⟨x,y⟩
  ·rw[x,y];rfl
  exact y
 grind
omit [DecidableEq κ] in
def dx.out{k:a_}(h:(Chunk.ob (dx key val b m)).holds k):∃(es:List MapEntry) (c:Nat),es.map kv=m.map (kw key val)/\MapKept.Stamped es.toArray c/\k=a_.one b (.map es.toArray c):=by
 obtain⟨⟨es,c⟩,⟨h1,h2⟩,h3⟩:=h;exact⟨es,c,h1,h2,bz1 h3⟩
omit [DecidableEq κ] in
def SL.xm(h:SL W l w)(hm:Has (.ob (dx key val b m)) l):∃(es:List MapEntry) (c:Nat),es.map kv=m.map (kw key val)/\MapKept.Stamped es.toArray c/\w.heap[b]?=some (.map es.toArray c):=by
 obtain⟨k,s,x⟩:=h.out;obtain⟨h1,hh,le⟩:=hm.heap s;obtain⟨es,c,e1,e2,rfl⟩:=dx.out hh;exact⟨es,c,e1,e2,x b _ (le b _ (by simp[a_.one]))⟩
omit [DecidableEq κ] in
def SL.AU{m':List (κ × α)}{es:List MapEntry}{c:Nat}{o:Obj}(h:SL W l w)(u:fg (.ob (dx key val b m)) (.ob (dx key val b m')) l l')(hb:w.heap[b]?=some o)(h1:es.map kv=m'.map (kw key val))(h2:MapKept.Stamped es.toArray c):
  SL W l' {w with heap:=w.heap.setIfInBounds b (.map es.toArray c)}:=
 h.ri (b:=b) (o':=.map es.toArray c) u (λk hk=>by obtain⟨es,c,_,_,rfl⟩:=dx.out hk;exact⟨_,rfl⟩) (dx.of h1 h2) (MapKept.heap_set hb).1 (MapKept.heap_set hb).2 rfl rfl rfl
omit [DecidableEq κ] in
def SL.Jy(h:SL W l w):SL W (.ob (dx key val w.heap.size [])::l) (w.alloc (.map #[] 0)):=h.alloc (dx.of (es:=[]) rfl (MapKept.stamped_empty 0))
variable {P:Program} {t kt et:Ι} {d:TypeDesc} {z:Ε} {k:κ}
def Y5{K:Ε->Prop}(hS:SL W l w)(hm:Has (.ob (dx key val b m)) l)(ok:xJ d key)(ht:P.underlying t=some (.map kt et))(hd:P.underlying kt=some d)(hz:∀w,(zeroValue et).run P w= .ok z w)
  (h:K (.tuple #[((fD m k).map val).getD z,.bool (fD m k).isSome])):dP P (Instr.lookup t (.map (some b)) (key k) true) w K:=by
 obtain⟨es,c,e1,e2,hb⟩:=hS.xm hm;rcases B' ok k es m 0 e1 with ⟨a1,a2,_,_,_⟩|⟨j,e,a,a1,_,_,a4,_,_⟩
 ·refine⟨_,?_,h⟩;simp[Instr.lookup,zzu ht,yyx hb,xxi hd (ok.is k),wwd hd a1,hz,Result.andThen,a2]
 refine⟨_,?_,h⟩;simp[Instr.lookup,zzu ht,yyx hb,xxi hd (ok.is k),wwd hd a1,Result.andThen,a4]
def yY{K:Ε->Prop}(hS:SL W l w)(hm:Has (.ob (dx key val b m)) l)(ok:xJ d key)(ht:P.underlying t=some (.map kt et))(hd:P.underlying kt=some d)(hz:∀w,(zeroValue et).run P w= .ok z w)
  (h:K (((fD m k).map val).getD z)):dP P (Instr.lookup t (.map (some b)) (key k) false) w K:=by
 obtain⟨es,c,e1,e2,hb⟩:=hS.xm hm;rcases B' ok k es m 0 e1 with ⟨a1,a2,_,_,_⟩|⟨j,e,a,a1,_,_,a4,_,_⟩
 ·refine⟨_,?_,h⟩;simp[Instr.lookup,zzu ht,yyx hb,xxi hd (ok.is k),wwd hd a1,hz,Result.andThen,a2]
 refine⟨_,?_,h⟩;simp[Instr.lookup,zzu ht,yyx hb,xxi hd (ok.is k),wwd hd a1,Result.andThen,a4]
def qQ{v:α}{K:Ε->Ζ->Prop}(hS:SL W l w)(u:fg (.ob (dx key val b m)) (.ob (dx key val b (fN m k v))) l l')(ok:xJ d key)(ht:P.underlying t=some (.map kt et))(hd:P.underlying kt=some d)
  (h:∀u w',SL W l' w'->K u w'):zQ P (do Instr.mapUpdate t (.map (some b)) (key k) (val v);pure undef) w K:=by
 obtain⟨es,c,e1,e2,hb⟩:=hS.xm u.has;have hks:∀x∈es,∃p∈m,x.key=key p.1:=λx hx=>by
  have:kv x∈es.map kv:=zz5.2 ⟨x,hx,rfl⟩;rw[e1]at this
  obtain⟨p,hp,hq⟩:=zz5.1 this;exact⟨p,hp,(Prod.mk.inj hq).1.symm⟩
 rcases B' ok k es m 0 e1 with ⟨a1,_,a3,_,a5⟩|⟨j,e,a,a1,a2,a3,_,a5,_⟩
 ·refine⟨undef,{w with heap:=w.heap.setIfInBounds b (.map (es++[({key:=key k,val:=val v,born:=c}:MapEntry)]).toArray (c+1))},?_,h _ _ (hS.AU u hb (by rw[a3];simp[e1,kv,kw]) ?_)⟩
  ·simp[Instr.mapUpdate,zzu ht,yyx hb,xxi hd (ok.is k),wwd hd a1,wwn _ hb,Result.andThen]
  have:=MapKept.stamped_push e2 (key:=key k) (val:=val v) (by simpa using a5);simpa using this
 refine⟨undef,{w with heap:=w.heap.setIfInBounds b (.map (es.modify j λe=>{e with key:=key k,val:=val v}).toArray c)},?_,h _ _ (hS.AU u hb (a5 v) ?_)⟩
 ·have hj:es.toArray[j]?=some e:=by simpa using a2
  simp[Instr.mapUpdate,zzu ht,yyx hb,xxi hd (ok.is k),wwd hd a1,a2,a3,MapKept.run_keyThatStays (ok.is k),wwn _ hb,Result.andThen]
 have wO:∀e',es.toArray[j]?=some e'->({e' with key:=key k,val:=val v}:MapEntry).key=e'.key:=λe' oy=>by
  grind
 have:=MapKept.stamped_modify e2 j (λe=>{e with key:=key k,val:=val v}) (λ_ _=>rfl) (λe' _ oy=>wO e' oy);simpa using this
def bxi{ty kt':Ι}{K:Ε->Ζ->Prop}(hS:SL W l w)(u:fg (.ob (dx key val b m)) (.ob (dx key val b (p4 m k))) l l')(ok:xJ d key)(ht:P.underlying t=some (.map kt et))(hd:P.underlying kt=some d)
  (h:∀u w',SL W l' w'->K u w'):zQ P (Builtin.delete_ #[t,kt'] ty #[.map (some b),key k]) w K:=by
 obtain⟨es,c,e1,e2,hb⟩:=hS.xm u.has;rcases B' ok k es m 0 e1 with ⟨a1,_,_,a4,_⟩|⟨j,e,a,a1,a2,_,_,_,a6⟩
 ·refine⟨.tuple #[],{w with heap:=w.heap.setIfInBounds b (.map es.toArray c)},?_,h _ _ (hS.AU u hb (by rw[a4];exact e1) e2)⟩;simp[Builtin.delete_,zzu ht,yyx hb,xxi hd (ok.is k),wwd hd a1,wwn _ hb,Result.andThen]
 have b9:j<es.length:=(zzh.1 a2).1;have hse:es.toArray.eraseIdxIfInBounds j=(es.eraseIdx j).toArray:=by simp[Array.eraseIdxIfInBounds,b9]
 refine⟨.tuple #[],{w with heap:=w.heap.setIfInBounds b (.map (es.eraseIdx j).toArray c)},?_,h _ _ (hS.AU u hb a6 ?_)⟩
 ·simp[Builtin.delete_,zzu ht,yyx hb,xxi hd (ok.is k),wwd hd a1,wwn _ hb,Result.andThen]
 have:=MapKept.stamped_erase e2 j
 grind
omit [DecidableEq κ] in
end
abbrev KI:Int->Ε:=Value.int .i64
structure Cell where
 key:Int
 aw:Int
 gone:Bool
 val:Η
deriving DecidableEq
structure Row where
 key:Int
 val:Η
deriving DecidableEq
structure fB where
 aw:Int
 table:Int
 key:Int
 gone:Bool
 val:Η
deriving DecidableEq
def tE(c:Cell):Ξ:=[Γ c.key,Γ c.aw,.bool c.gone,.string c.val]
def dV(c:Row):Ξ:=[Γ c.key,.string c.val]
def iR(o:fB):Ξ:=[Γ o.aw,Γ o.table,Γ o.key,.bool o.gone,.string o.val]
def iK(c:Row):(dV c).length=2:=rfl
def bdg(o:fB):(iR o).length=5:=rfl
def B4(o:fB):∀v∈iR o,v.oneCell'=true:=by simp[iR,Value.oneCell']
abbrev agg(l:Ξ):Ε:=.agg l.toArray
def tB(c:Cell):Ε:=agg (tE c)
def u0{α:Type}(enc:α->Ξ)(xs:List α)(x:α):((xs++[x]).map enc).flatten=(xs.map enc).flatten++enc x:=by simp
section
variable {W w:Ζ} {l:Β} {P:Program}
def bfj{t:Ι}{fs:Array Field}(h:P.underlying t=some (.struct fs)):P.fieldsOf t=fs:=by unfold Program.fieldsOf;rw[h]
def WG{t:Ι}{fs:Array Field}{xs ys:Ξ}{b:Bool}(h:P.underlying t=some (.struct fs))(hp:P.stoodInHeld t=false)(he:(Op.eqFields 9999 xs.toArray ys.toArray fs.toList).run P w= .ok b w):(Op.equal t (agg xs) (agg ys)).run P w= .ok b w:=by
 have hf:=bfj h;unfold Op.equal Op.maxDepth;rw[run_equalIn_agg w 9999 t _ _ (by rw[hf];exact h) hp,hf];exact he
def n_{α:Type}{enc:α->Ξ}{n:Nat}(hn:∀x,(enc x).length=n)(xs:List α):((xs.map enc).flatten).length=xs.length*n:=by
 induction xs with
 | nil=>simp
 | cons x xs ih=>simp[hn,ih,yyv];omega
theorem pM{α:Type}{enc:α->Ξ}{n:Nat}(hn:∀x,(enc x).length=n):∀(xs:List α) (j i:Nat) (x:α) (u:Ε),xs[j]?=some x->(enc x)[i]?=some u->((xs.map enc).flatten)[j*n+i]?=some u
 | [],j,i,x,u,h,_=>by simp at h
 | y::xs,0,i,x,u,h,hu=>by
  simp at h;subst h;have:i<(enc y).length:=(zzh.1 hu).1;simp only[zzp,zz2,vv8,yyd];rw[zzy this];exact hu
 | y::xs,j+1,i,x,u,h,hu=>by
  have ih:=pM hn xs j i x u (by simpa using h) hu;simp only[zzp,zz2];rw[yyk (by rw[hn,yyv];omega),hn];rw[show (j+1)*n+i-n=j*n+i by rw[yyv];omega];exact ih
def sM{α:Type}{enc:α->Ξ}{n:Nat}(hn:∀x,(enc x).length=n):∀(xs:List α) (k:Nat),(xs.map enc).flatten.take (k*n)=((xs.take k).map enc).flatten
 | [],k=>by simp
 | x::xs,0=>by simp
 | x::xs,k+1=>by
  have e:(k+1)*n=(enc x).length+k*n:=by rw[hn,yyv,wwu,uu3]
  simp only[zzp,zz2,vvg];rw[e,yy9,sM hn xs k]
def uZ{α:Type}{enc:α->Ξ}{n:Nat}(hn:∀x,(enc x).length=n):∀(xs:List α) (k:Nat),(xs.map enc).flatten.drop (k*n)=((xs.drop k).map enc).flatten
 | [],k=>by simp
 | x::xs,0=>by simp
 | x::xs,k+1=>by
  have e:(k+1)*n=(enc x).length+k*n:=by rw[hn,yyv,wwu,uu3]
  simp only[zzp,zz2,uuo];rw[e,xxa,uZ hn xs k]
def tc{α:Type}{enc:α->Ξ}(h1:∀x,∀v∈enc x,v.oneCell'=true)(xs:List α):∀v∈(xs.map enc).flatten,v.oneCell'=true:=by
 intro v hv;obtain⟨l,hl,hv⟩:=wwi.1 hv;obtain⟨x,_,rfl⟩:=zz5.1 hl;exact h1 x v hv
def zB{H:a_}{α:Type}{enc:α->Ξ}{v:Ε}{n sz j:Nat}{k:IntKind}{xs:List α}{x:α}{K:Ε->Prop}(hS:SL W l w)(hm:Has (.mem H) l)(hn:∀x,(enc x).length=sz)(h:cn H sz v n (xs.map enc).flatten)(hx:xs[j]?=some x)(hj:j<n)(hK:K (agg (enc x))):
  zl sz v (.int k (j:Int)) λp=>zf sz p w K:=
 Y3 h hj λb o hb=>bxg hS hm (hn x) (λi u hu=>hb i u (by have:=(zzh.1 hu).1;rw[hn]at this;exact this) (pM hn xs j i x u hx hu)) hK
def QU{H:a_}{α:Type}{enc:α->Ξ}{v u:Ε}{n sz j i:Nat}{k:IntKind}{xs:List α}{x:α}{K:Ε->Prop}(hS:SL W l w)(hm:Has (.mem H) l)(hn:∀x,(enc x).length=sz)(h:cn H sz v n (xs.map enc).flatten)(hx:xs[j]?=some x)(hj:j<n)(hu:(enc x)[i]?=some u)(hK:K u):
  zl sz v (.int k (j:Int)) λp=>zk i p λq=>bu q w K:=
 Y3 h hj λb o hb=>yI (F7 hS hm (hb i u (by have:=(zzh.1 hu).1;rw[hn]at this;exact this) (pM hn xs j i x u hx hu)) hK)
end
def J3{α:Type}:∀(xs:List α) (t:Nat) (x:α),xs[t]?=some x->xs.Perm (x::xs.eraseIdx t)
 | [],t,x,h=>by simp at h
 | y::xs,0,x,h=>by simp at h;subst h;exact .refl _
 | y::xs,t+1,x,h=>((J3 xs t x (by simpa using h)).cons y).trans (.swap _ _ _)
def zg{α:Type}(A:α->zC)(xs:List α):zC:=star (xs.map λx=>.ob (A x))
section
variable {W w:Ζ} {l l':Β} {α:Type} {A:α->zC} {xs:List α}
def zg.iff:SL W (.ob (zg A xs)::l) w↔SL W ((xs.map λx=>Chunk.ob (A x))++l) w:=
 ⟨λh=>h.conv (λ_ s=>s),λh=>h.fold (λ_ s=>s)⟩
def zg.take{t:Nat}{x:α}(h:SL W (.ob (zg A xs)::l) w)(hx:xs[t]?=some x):SL W (.ob (A x)::.ob (zg A (xs.eraseIdx t))::l) w:=by
 have h1:=zg.iff.1 h;have p:(xs.map λx=>Chunk.ob (A x)).Perm (.ob (A x)::(xs.eraseIdx t).map λx=>Chunk.ob (A x)):=by
  exact (J3 xs t x hx).map λx=>Chunk.ob (A x)
 have h2:=h1.perm (p.append_right l);have h3:=h2.perm (l':=((xs.eraseIdx t).map λx=>Chunk.ob (A x))++(.ob (A x)::l)) (by simpa using vvv.symm);exact (zg.iff.2 h3).perm (.swap _ _ _)
def zg.put{t:Nat}{y:α}(h:SL W (.ob (A y)::.ob (zg A (xs.eraseIdx t))::l) w)(ht:t<xs.length):SL W (.ob (zg A (xs.set t y))::l) w:=by
 refine zg.iff.2 ?_;have h1:=zg.iff.1 (h.perm (.swap _ _ _));have p:(.ob (A y)::(xs.eraseIdx t).map λx=>Chunk.ob (A x)).Perm ((xs.set t y).map λx=>Chunk.ob (A x)):=by
  have:=(J3 (xs.set t y) t y (by simp[ht])).symm.map λx=>Chunk.ob (A x)
  grind
 refine h1.perm ?_;refine (vvv).trans ?_;exact p.append_right l
def zg.nil(h:SL W l w):SL W (.ob (zg A [])::l) w:=zg.iff.2 h
def zg.snoc{x:α}(h:SL W (.ob (zg A xs)::.ob (A x)::l) w):SL W (.ob (zg A (xs++[x]))::l) w:=by
 refine zg.iff.2 ?_;have h1:=zg.iff.1 h;simpa using h1
def bd.one{v:Ε}{t:Ι}{sz n:Nat}{cells:Ξ}(h:SL W (.ob (bd v t sz n cells)::l) w):v.oneCell'=true:=by
 rcases bd.open h with ⟨⟨a,rfl⟩,_⟩|⟨b,cap,rest,rfl,_⟩<;>rfl
def Has.front{c:Μ}(h:SL W l w){l2:Β}(r:eW c l l2):SL W (c::l2) w:=h.perm r.perm
def bxj{κ α:Type}{key:κ->Ε}{val:α->Ε}{p:Nat->Ζ->Prop}(hS:SL W l w)(h:∀b w',SL W (.ob (dx key val b [])::l) w'->p b w'):p w.heap.size (w.alloc (.map #[] 0)):=h _ _ hS.Jy
def zA{H:a_}{v:Ε}{t:Ι}{sz n:Nat}{cells:Ξ}{F:Β}(hS:SL W l w)(hp:fK [.mem H,.ob (bd v t sz n cells)] l F):∃H',H.le H'/\cn H' sz v n cells/\SL W (.mem H'::F) w:=bd.freeze (hS.pick hp)
def SL.Vx(h:SL W l w):SL W (.mem a_.emp::l) w:=
 ⟨h.os,h.tape,h.output,let ⟨k,s,m⟩:=h.out;⟨k,⟨a_.emp,k,Sep.emp k,rfl,s⟩,m⟩⟩
def Has.rem{c:Μ}(h:Has c l):∃l2,eW c l l2:=by
 induction h with
 | hd=>exact⟨_,.hd⟩
 | tl _ ih=>obtain⟨l2,r⟩:=ih;exact⟨_,.tl r⟩
theorem bd.at{v:Ε}{t:Ι}{sz n:Nat}{cells:Ξ}(h:SL W l w)(m:Has (.ob (bd v t sz n cells)) l):
  ∃a cap,v= .slice a n cap/\cells.length=n*sz/\∀j,j<n->∃b,a=some ⟨b,0,none⟩/\∀i u,cells[i]?=some u->w.cell? ⟨b,i,none⟩=some u:=by
 obtain⟨l2,r⟩:=m.rem;rcases bd.open (h.perm r.perm) with ⟨⟨a,rfl⟩,rfl,rfl,_⟩|⟨b,cap,rest,rfl,hc,hl,hr,h2⟩
 ·grind
 exact⟨_,cap,rfl,hl,λj hj=>⟨b,rfl,λi u hu=>h2.cell .hd (by rw[zzy (zzh.1 hu).1];exact hu)⟩⟩
def zy{v:Ε}{t:Ι}{sz n:Nat}{cells:Ξ}{K:Ε->Prop}(h:SL W l w)(m:Has (.ob (bd v t sz n cells)) l)(k:K (Γ n)):zd v K:=by
 grind [bd.at,yg]
def yv{v u:Ε}{t:Ι}{n j:Nat}{k:IntKind}{cells:Ξ}{K:Ε->Prop}(h:SL W l w)(m:Has (.ob (bd v t 1 n cells)) l)(hj:j<n)(hu:cells[j]?=some u)(hK:K u):
  zl 1 v (.int k (j:Int)) λp=>bu p w K:=by
 obtain⟨a,cap,rfl,_,h2⟩:=bd.at h m;obtain⟨b,rfl,h3⟩:=h2 j hj;refine zI hj ⟨_,u,rfl,h3 _ u ?_,hK⟩
 grind
def zX{α:Type}{enc:α->Ξ}{v:Ε}{t:Ι}{n sz j:Nat}{k:IntKind}{xs:List α}{x:α}{K:Ε->Prop}(h:SL W l w)(m:Has (.ob (bd v t sz n (xs.map enc).flatten)) l)(hn:∀x,(enc x).length=sz)(hx:xs[j]?=some x)(hj:j<n)(hK:K (agg (enc x))):
  zl sz v (.int k (j:Int)) λp=>zf sz p w K:=by
 obtain⟨a,cap,rfl,_,h2⟩:=bd.at h m;obtain⟨b,rfl,h3⟩:=h2 j hj;refine zI hj ⟨_,enc x,rfl,hn x,λi u hu=>?_,hK⟩;rw[zz9,yyd]
 grind [pM]
def yw{α:Type}{enc:α->Ξ}{v u:Ε}{t:Ι}{n sz j i:Nat}{k:IntKind}{xs:List α}{x:α}{K:Ε->Prop}(h:SL W l w)(m:Has (.ob (bd v t sz n (xs.map enc).flatten)) l)(hn:∀x,(enc x).length=sz)(hx:xs[j]?=some x)(hj:j<n)(hu:(enc x)[i]?=some u)(hK:K u):
  zl sz v (.int k (j:Int)) λp=>zk i p λq=>bu q w K:=by
 obtain⟨a,cap,rfl,_,h2⟩:=bd.at h m;obtain⟨b,rfl,h3⟩:=h2 j hj;refine zI hj (yI ⟨_,u,rfl,?_,hK⟩)
 grind [pM]
def jh{v:Ε}{t:Ι}{sz n:Nat}{cells:Ξ}(h:SL W l w)(m:Has (.ob (bd v t sz n cells)) l):jw w sz v n cells:=by
 obtain⟨a,cap,rfl,h1,h2⟩:=bd.at h m;rcases yy8 n with rfl|hn
 ·have:cells=[]:=zzl (by simpa using h1);subst this;cases a with
  | none=>exact⟨rfl,rfl⟩
  | some p=>exact⟨rfl,by simp,λj v e=>by simp at e⟩
 obtain⟨b,rfl,h3⟩:=h2 0 hn;exact⟨rfl,h1,λj v e=>by rw[zz9,yyd];exact h3 j v e⟩
def cn.take{H:a_}{a:Option Addr}{sz n cap k:Nat}{cells:Ξ}(h:cn H sz (.slice a n cap) n cells)(hk:k<=n)(a':Option Addr)(ha:a'=a):cn H sz (.slice a' k cap) k (cells.take (k*sz)):=by
 subst ha;obtain⟨h1,a',BR,h2,h3,h4⟩:=h;cases h2;refine⟨by rw[zzf,h1];exact xxd (yy3 _ hk),_,_,rfl,by omega,?_⟩
 grind
def bxx{H:a_}{v:Ε}{sz n k:Nat}{kk:IntKind}{cells:Ξ}{K:Ε->Prop}(h:cn H sz v n cells)(hk:k<=n)(hK:∀v',cn H sz v' k (cells.take (k*sz))->K v'):dQ sz v none (some (.int kk (k:Int))) none K:=by
 have h':=h;obtain⟨_,a,cap,rfl,h3,_⟩:=h;refine⟨a,n,cap,0,k,cap,rfl,rfl,⟨kk,rfl⟩,rfl,zz6 _,by omega,zzj _,hK _ ?_⟩;rw[wwh,wwh];refine cn.take h' hk _ ?_;split
 ·rfl
 cases a<;>simp[Addr.add]
end
