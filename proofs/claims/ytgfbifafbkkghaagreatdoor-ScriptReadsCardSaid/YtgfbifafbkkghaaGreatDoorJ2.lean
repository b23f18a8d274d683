/- Part. -/
import Derived.Test.YtgfbifafbkkghaaGreatDoorJ1
namespace Go.Proofs.YtgfbifafbkkghaaGreatDoor
set_option linter.all false
open Go.RowKit
abbrev Μ:=Chunk
abbrev Β:=List Μ
def yyp:=@MapKept.run_getObj_map
def yy9:=@MapKept.run_checkKey
def xxt:=@MapKept.run_findKey
def xx2:=@MapKept.run_setObj_map
def wwk:=@decide_false
def uum:=@Nat.zero_mul
def wwy:=@Nat.one_mul
def vvv:=@List.take_succ_cons
def wwn:=@List.mem_flatten
def zzh:=@List.take_succ_eq_append_getElem
def zz6:=@List.take_length
def wwl:=@Nat.mul_one
def xx0:=@Nat.add_sub_cancel_left
def zzn:=@List.length_take
def zze:=@List.append_assoc
structure sB{κ:Type}(d:TypeDesc)(key:κ->Ε):Prop where
 is:∀k,MapKept.IsKey d (key k)
 inj:∀{a b},key a=key b->a=b
def mf(k:IntKind):sB (.int k) (Value.int k):=⟨λ_=>rfl,λh=>by cases h;rfl⟩
section
variable {κ α:Type} [DecidableEq κ]
def dM:List (κ × α)->κ->Option α
 | [],_=>none
 | p::m,k=>if p.1=k then some p.2 else dM m k
def eH:List (κ × α)->κ->α->List (κ × α)
 | [],k,v=>[(k,v)]
 | p::m,k,v=>if p.1=k then (k,v)::m else p::eH m k v
def mi:List (κ × α)->κ->List (κ × α)
 | [],_=>[]
 | p::m,k=>if p.1=k then m else p::mi m k
def kv(e:MapEntry):Ε × Ε:=(e.key,e.val)
def kw(key:κ->Ε)(val:α->Ε)(p:κ × α):Ε × Ε:=(key p.1,val p.2)
def u6{d:TypeDesc}{key:κ->Ε}{val:α->Ε}(ok:sB d key)(k:κ):∀(es:List MapEntry) (m:List (κ × α)) (i:Nat),es.map kv=m.map (kw key val) ->
  (Instr.findNow d (key k) es i=some none/\dM m k=none/\(∀v,eH m k v=m++[(k,v)])/\mi m k=m/\∀x∈es,x.key≠key k) \/
  ∃j e a,Instr.findNow d (key k) es i=some (some (i+j,val a))/\es[j]?=some e/\e.key=key k/\dM m k=some a /\
   (∀v,(es.modify j λe=>{e with key:=key k,val:=val v}).map kv=(eH m k v).map (kw key val))/\(es.eraseIdx j).map kv=(mi m k).map (kw key val)
 | [],[],_,_=>.inl ⟨rfl,rfl,λ_=>rfl,rfl,by simp⟩
 | [],_::_,_,h=>by simp at h
 | _::_,[],_,h=>by simp at h
 | e::es,p::m,i,h=>by
  simp only[zzj,List.cons.injEq]at h;obtain⟨h1,h2⟩:=h;obtain⟨x,y⟩:=p;simp only[kv,kw,xxv]at h1;obtain⟨kT,s5⟩:=h1;obtain⟨r,hr,xY⟩:=MapKept.sameNow_of_keys (ok.is k) (ok.is x);by_cases hx:x=k
  ·subst hx;obtain rfl:r=true:=xY.2 rfl;refine .inr ⟨0,e,y,by simp[Instr.findNow,kT,hr,s5],rfl,kT,by simp[dM],?_,?_⟩
   ·intro v;simp[eH,kv,kw];exact h2
   simp[mi,h2]
  have C':r=false:=by
   cases r with
   | false=>rfl
   | true=>exact absurd (ok.inj (xY.1 rfl)).symm hx
  subst C';rcases u6 ok k es m (i+1) h2 with ⟨a1,a2,a3,a4,a5⟩|⟨j,e',a,a1,a2,a3,a4,a5,a6⟩
  ·refine .inl ⟨by simp[Instr.findNow,kT,hr,a1],by simp[dM,hx,a2],λv=>by simp[eH,hx,a3],by simp[mi,hx,a4],?_⟩;intro z hz;rcases zzv.1 hz with rfl|hz
   ·rw[kT];exact λq=>hx (ok.inj q)
   exact a5 z hz
  refine .inr ⟨j+1,e',a,by simp[Instr.findNow,kT,hr,a1];omega,by simpa using a2,a3,by simp[dM,hx,a4],?_,?_⟩
  ·intro v;simp[eH,hx,kv,kw,kT,s5];exact a5 v
  simp[mi,hx,kv,kw,kT,s5];exact a6
end
def cM{κ α:Type}(key:κ->Ε)(val:α->Ε)(b:Nat)(m:List (κ × α)):zw:=
 gi λx:List MapEntry × Nat=>zG (x.1.map kv=m.map (kw key val)/\MapKept.Stamped x.1.toArray x.2) [.mp b x.1 x.2]
section
variable {W w:Ζ} {l l':Β} {κ α:Type} [DecidableEq κ] {key:κ->Ε} {val:α->Ε} {b:Nat} {m:List (κ × α)}
omit [DecidableEq κ] in
def cM.of{es:List MapEntry}{c:Nat}(h1:es.map kv=m.map (kw key val))(h2:MapKept.Stamped es.toArray c):(Chunk.ob (cM key val b m)).holds (aX.one b (.map es.toArray c)):=
 ⟨(es,c),⟨h1,h2⟩,⟨aX.one b (.map es.toArray c),aX.emp,λx=>.inr ⟨rfl,rfl⟩,rfl,rfl⟩⟩
omit [DecidableEq κ] in
def aFj{c:Μ}{k:aX}(h:star [c] k):c.holds k:=by
 obtain⟨h1,h2,s,a,r⟩:=h;obtain rfl:h2=aX.emp:=r;have:k=h1:=funext λb=>by
  rcases s b with ⟨x,y⟩|⟨x,y⟩
  ·rw[x,y];rfl
  exact y
 rw[this];exact a
omit [DecidableEq κ] in
def cM.out{k:aX}(h:(Chunk.ob (cM key val b m)).holds k):∃(es:List MapEntry) (c:Nat),es.map kv=m.map (kw key val)/\MapKept.Stamped es.toArray c/\k=aX.one b (.map es.toArray c):=by
 obtain⟨⟨es,c⟩,⟨h1,h2⟩,h3⟩:=h;exact⟨es,c,h1,h2,aFj h3⟩
omit [DecidableEq κ] in
def SL.r9(h:SL W l w)(hm:Has (.ob (cM key val b m)) l):∃(es:List MapEntry) (c:Nat),es.map kv=m.map (kw key val)/\MapKept.Stamped es.toArray c/\w.heap[b]?=some (.map es.toArray c):=by
 obtain⟨k,s,x⟩:=h.out;obtain⟨h1,hh,le⟩:=hm.heap s;obtain⟨es,c,e1,e2,rfl⟩:=cM.out hh;exact⟨es,c,e1,e2,x b _ (le b _ (by simp[aX.one]))⟩
omit [DecidableEq κ] in
def SL.tC{m':List (κ × α)}{es:List MapEntry}{c:Nat}{o:Obj}(h:SL W l w)(u:dX (.ob (cM key val b m)) (.ob (cM key val b m')) l l')(hb:w.heap[b]?=some o)(h1:es.map kv=m'.map (kw key val))(h2:MapKept.Stamped es.toArray c):
  SL W l' {w with heap:=w.heap.setIfInBounds b (.map es.toArray c)}:=
 h.ox (b:=b) (o':=.map es.toArray c) u (λk hk=>by obtain⟨es,c,_,_,rfl⟩:=cM.out hk;exact⟨_,rfl⟩) (cM.of h1 h2) (MapKept.heap_set hb).1 (MapKept.heap_set hb).2 rfl rfl rfl
omit [DecidableEq κ] in
def SL.DD(h:SL W l w):SL W (.ob (cM key val w.heap.size [])::l) (w.alloc (.map #[] 0)):=h.alloc (cM.of (es:=[]) rfl (MapKept.stamped_empty 0))
variable {P:Program} {t kt et:Ι} {d:TypeDesc} {z:Ε} {k:κ}
def Yu{K:Ε->Prop}(hS:SL W l w)(hm:Has (.ob (cM key val b m)) l)(ok:sB d key)(ht:P.underlying t=some (.map kt et))(hd:P.underlying kt=some d)(hz:∀w,(zeroValue et).run P w= .ok z w)
  (h:K (.tuple #[((dM m k).map val).getD z,.bool (dM m k).isSome])):dC P (Instr.lookup t (.map (some b)) (key k) true) w K:=by
 obtain⟨es,c,e1,e2,hb⟩:=hS.r9 hm;rcases u6 ok k es m 0 e1 with ⟨a1,a2,_,_,_⟩|⟨j,e,a,a1,_,_,a4,_,_⟩
 ·refine⟨_,?_,h⟩;simp[Instr.lookup,zzu ht,yyp hb,yy9 hd (ok.is k),xxt hd a1,hz,Result.andThen,a2]
 refine⟨_,?_,h⟩;simp[Instr.lookup,zzu ht,yyp hb,yy9 hd (ok.is k),xxt hd a1,Result.andThen,a4]
def Ze{K:Ε->Prop}(hS:SL W l w)(hm:Has (.ob (cM key val b m)) l)(ok:sB d key)(ht:P.underlying t=some (.map kt et))(hd:P.underlying kt=some d)(hz:∀w,(zeroValue et).run P w= .ok z w)
  (h:K (((dM m k).map val).getD z)):dC P (Instr.lookup t (.map (some b)) (key k) false) w K:=by
 obtain⟨es,c,e1,e2,hb⟩:=hS.r9 hm;rcases u6 ok k es m 0 e1 with ⟨a1,a2,_,_,_⟩|⟨j,e,a,a1,_,_,a4,_,_⟩
 ·refine⟨_,?_,h⟩;simp[Instr.lookup,zzu ht,yyp hb,yy9 hd (ok.is k),xxt hd a1,hz,Result.andThen,a2]
 refine⟨_,?_,h⟩;simp[Instr.lookup,zzu ht,yyp hb,yy9 hd (ok.is k),xxt hd a1,Result.andThen,a4]
def qc{v:α}{K:Ε->Ζ->Prop}(hS:SL W l w)(u:dX (.ob (cM key val b m)) (.ob (cM key val b (eH m k v))) l l')(ok:sB d key)(ht:P.underlying t=some (.map kt et))(hd:P.underlying kt=some d)
  (h:∀u w',SL W l' w'->K u w'):zR P (do Instr.mapUpdate t (.map (some b)) (key k) (val v);pure undef) w K:=by
 obtain⟨es,c,e1,e2,hb⟩:=hS.r9 u.has;have hks:∀x∈es,∃p∈m,x.key=key p.1:=λx hx=>by
  have:kv x∈es.map kv:=zz1.2 ⟨x,hx,rfl⟩;rw[e1]at this
  obtain⟨p,hp,hq⟩:=zz1.1 this;exact⟨p,hp,(Prod.mk.inj hq).1.symm⟩
 rcases u6 ok k es m 0 e1 with ⟨a1,_,a3,_,a5⟩|⟨j,e,a,a1,a2,a3,_,a5,_⟩
 ·refine⟨undef,{w with heap:=w.heap.setIfInBounds b (.map (es++[({key:=key k,val:=val v,born:=c}:MapEntry)]).toArray (c+1))},?_,h _ _ (hS.tC u hb (by rw[a3];simp[e1,kv,kw]) ?_)⟩
  ·simp[Instr.mapUpdate,zzu ht,yyp hb,yy9 hd (ok.is k),xxt hd a1,xx2 _ hb,Result.andThen]
  have:=MapKept.stamped_push e2 (key:=key k) (val:=val v) (by simpa using a5);simpa using this
 refine⟨undef,{w with heap:=w.heap.setIfInBounds b (.map (es.modify j λe=>{e with key:=key k,val:=val v}).toArray c)},?_,h _ _ (hS.tC u hb (a5 v) ?_)⟩
 ·have hj:es.toArray[j]?=some e:=by simpa using a2
  simp[Instr.mapUpdate,zzu ht,yyp hb,yy9 hd (ok.is k),xxt hd a1,a2,a3,MapKept.run_keyThatStays (ok.is k),xx2 _ hb,Result.andThen]
 have rP:∀e',es.toArray[j]?=some e'->({e' with key:=key k,val:=val v}:MapEntry).key=e'.key:=λe' jk=>by
  have:es[j]?=some e':=by simpa using jk
  rw[a2]at this;cases this;exact a3.symm
 have:=MapKept.stamped_modify e2 j (λe=>{e with key:=key k,val:=val v}) (λ_ _=>rfl) (λe' _ jk=>rP e' jk);simpa using this
def ai4{ty VB:Ι}{K:Ε->Ζ->Prop}(hS:SL W l w)(u:dX (.ob (cM key val b m)) (.ob (cM key val b (mi m k))) l l')(ok:sB d key)(ht:P.underlying t=some (.map kt et))(hd:P.underlying kt=some d)
  (h:∀u w',SL W l' w'->K u w'):zR P (Builtin.delete_ #[t,VB] ty #[.map (some b),key k]) w K:=by
 obtain⟨es,c,e1,e2,hb⟩:=hS.r9 u.has;rcases u6 ok k es m 0 e1 with ⟨a1,_,_,a4,_⟩|⟨j,e,a,a1,a2,_,_,_,a6⟩
 ·refine⟨.tuple #[],{w with heap:=w.heap.setIfInBounds b (.map es.toArray c)},?_,h _ _ (hS.tC u hb (by rw[a4];exact e1) e2)⟩;simp[Builtin.delete_,zzu ht,yyp hb,yy9 hd (ok.is k),xxt hd a1,xx2 _ hb,Result.andThen]
 have cA:j<es.length:=(zzf.1 a2).1;have UH:es.toArray.eraseIdxIfInBounds j=(es.eraseIdx j).toArray:=by simp[Array.eraseIdxIfInBounds,cA]
 refine⟨.tuple #[],{w with heap:=w.heap.setIfInBounds b (.map (es.eraseIdx j).toArray c)},?_,h _ _ (hS.tC u hb a6 ?_)⟩
 ·simp[Builtin.delete_,zzu ht,yyp hb,yy9 hd (ok.is k),xxt hd a1,xx2 _ hb,Result.andThen]
 have:=MapKept.stamped_erase e2 j
 rwa [UH]at this
omit [DecidableEq κ] in
end
abbrev KI:Int->Ε:=Value.int .i64
structure Cell where
 key:Int
 aR:Int
 gone:Bool
 val:Η
deriving DecidableEq
structure Row where
 key:Int
 val:Η
deriving DecidableEq
structure fr where
 aR:Int
 table:Int
 key:Int
 gone:Bool
 val:Η
deriving DecidableEq
def oH(c:Cell):Ξ:=[Γ c.key,Γ c.aR,.bool c.gone,.string c.val]
def gw(c:Row):Ξ:=[Γ c.key,.string c.val]
def kN(o:fr):Ξ:=[Γ o.aR,Γ o.table,Γ o.key,.bool o.gone,.string o.val]
def lZ(c:Row):(gw c).length=2:=rfl
def Sn(o:fr):(kN o).length=5:=rfl
def JY(o:fr):∀v∈kN o,v.oneCell'=true:=by simp[kN,Value.oneCell']
abbrev agg(l:Ξ):Ε:=.agg l.toArray
def oG(c:Cell):Ε:=agg (oH c)
def rD{α:Type}(enc:α->Ξ)(xs:List α)(x:α):((xs++[x]).map enc).flatten=(xs.map enc).flatten++enc x:=by simp
section
variable {W w:Ζ} {l:Β} {P:Program}
def N0{t:Ι}{xs ys:Ξ}{p:Prop}[Decidable p]{K:Ε->Prop}(h:(Op.equal t (agg xs) (agg ys)).run P w= .ok (decide p) w)(hK:K (.bool (decide p))):ZB P t false (agg xs) (agg ys) w K:=
 ⟨_,_,_,rfl,rfl,h,hK⟩
def SX{t:Ι}{fs:Array Field}(h:P.underlying t=some (.struct fs)):P.fieldsOf t=fs:=by unfold Program.fieldsOf;rw[h]
def D8{t:Ι}{fs:Array Field}{xs ys:Ξ}{b:Bool}(h:P.underlying t=some (.struct fs))(hp:P.stoodInHeld t=false)(he:(Op.eqFields 9999 xs.toArray ys.toArray fs.toList).run P w= .ok b w):(Op.equal t (agg xs) (agg ys)).run P w= .ok b w:=by
 have hf:=SX h;unfold Op.equal Op.maxDepth;rw[run_equalIn_agg w 9999 t _ _ (by rw[hf];exact h) hp,hf];exact he
def PX(a b:Η):(a.toList == b.toList)=decide (a=b):=by
 rw[<- beq_toListBytes];by_cases h:a=b
 ·subst h;simp[(MapKept.bytes_beq a a).2 rfl]
 simp only[h,wwk];cases hb:a == b with
 | false=>rfl
 | true=>exact absurd ((MapKept.bytes_beq a b).1 hb) h
def toList_inj(a b:Η):(a.toList=b.toList)=(a=b):=by
 have:=PX a b;by_cases h:a=b
 ·subst h;simp
 simp only[h,wwk,beq_eq_false_iff_ne]at this;simp[h,this]
def nK{α:Type}{enc:α->Ξ}{n:Nat}(hn:∀x,(enc x).length=n)(xs:List α):((xs.map enc).flatten).length=xs.length*n:=by
 induction xs with
 | nil=>simp
 | cons x xs ih=>simp[hn,ih,yyo];omega
def oL{α:Type}{enc:α->Ξ}{n:Nat}(hn:∀x,(enc x).length=n):∀(xs:List α) (j i:Nat) (x:α) (u:Ε),xs[j]?=some x->(enc x)[i]?=some u->((xs.map enc).flatten)[j*n+i]?=some u
 | [],j,i,x,u,h,_=>by simp at h
 | y::xs,0,i,x,u,h,hu=>by
  simp at h;subst h;have:i<(enc y).length:=(zzf.1 hu).1;simp only[zzj,zzt,uum,zz2];rw[zzs this];exact hu
 | y::xs,j+1,i,x,u,h,hu=>by
  have ih:=oL hn xs j i x u (by simpa using h) hu;simp only[zzj,zzt];rw[zz3 (by rw[hn,yyo];omega),hn];rw[show (j+1)*n+i-n=j*n+i by rw[yyo];omega];exact ih
def u9{α:Type}{enc:α->Ξ}{n:Nat}(hn:∀x,(enc x).length=n):∀(xs:List α) (k:Nat),(xs.map enc).flatten.take (k*n)=((xs.take k).map enc).flatten
 | [],k=>by simp
 | x::xs,0=>by simp
 | x::xs,k+1=>by
  have e:(k+1)*n=(enc x).length+k*n:=by rw[hn,yyo,wwy,Nat.add_comm]
  simp only[zzj,zzt,vvv];rw[e,yy2,u9 hn xs k]
def u7{α:Type}{enc:α->Ξ}{n:Nat}(hn:∀x,(enc x).length=n):∀(xs:List α) (k:Nat),(xs.map enc).flatten.drop (k*n)=((xs.drop k).map enc).flatten
 | [],k=>by simp
 | x::xs,0=>by simp
 | x::xs,k+1=>by
  have e:(k+1)*n=(enc x).length+k*n:=by rw[hn,yyo,wwy,Nat.add_comm]
  simp only[zzj,zzt,List.drop_succ_cons];rw[e,yy3,u7 hn xs k]
def tR{α:Type}{enc:α->Ξ}(h1:∀x,∀v∈enc x,v.oneCell'=true)(xs:List α):∀v∈(xs.map enc).flatten,v.oneCell'=true:=by
 intro v hv;obtain⟨l,hl,hv⟩:=wwn.1 hv;obtain⟨x,_,rfl⟩:=zz1.1 hl;exact h1 x v hv
def zy{H:aX}{α:Type}{enc:α->Ξ}{v:Ε}{n sz j:Nat}{k:IntKind}{xs:List α}{x:α}{K:Ε->Prop}(hS:SL W l w)(hm:Has (.mem H) l)(hn:∀x,(enc x).length=sz)(h:bK H sz v n (xs.map enc).flatten)(hx:xs[j]?=some x)(hj:j<n)(hK:K (agg (enc x))):
  zj sz v (.int k (j:Int)) λp=>zf sz p w K:=
 Yt h hj λb o hb=>ai1 hS hm (hn x) (λi u hu=>hb i u (by have:=(zzf.1 hu).1;rw[hn]at this;exact this) (oL hn xs j i x u hx hu)) hK
def ZL{H:aX}{α:Type}{enc:α->Ξ}{v u:Ε}{n sz j i:Nat}{k:IntKind}{xs:List α}{x:α}{K:Ε->Prop}(hS:SL W l w)(hm:Has (.mem H) l)(hn:∀x,(enc x).length=sz)(h:bK H sz v n (xs.map enc).flatten)(hx:xs[j]?=some x)(hj:j<n)(hu:(enc x)[i]?=some u)(hK:K u):
  zj sz v (.int k (j:Int)) λp=>zm i p λq=>bx q w K:=
 Yt h hj λb o hb=>yR (Qj hS hm (hb i u (by have:=(zzf.1 hu).1;rw[hn]at this;exact this) (oL hn xs j i x u hx hu)) hK)
end
def I4(P:Program)(T:List Bool)(sz:Nat)(v0:Ε)(v1:Ε)(v2:Ε)(w:Ζ)(R:Ε->Ζ->Prop):Prop:=
 zd v0 λv9=>
 zd v1 λv11=>
 zc .neq v9 v11 λv12=>
 bL v12
 (R (.bool false) w)
 (∃(I:Ξ->Ζ->Prop) (μ:Ξ->Ζ->Nat),I [(Γ 0)] w /\
 ∀(v7:Ε) jr,I [v7] jr ->
 zd v0 λtZ=>
 zc .lss v7 tZ λoy=>
 bL oy
 (zl jr λkC=>
 zj sz v0 v7 λv22=>
 zf sz v22 kC λv23=>
 zj sz v1 v7 λv26=>
 zf sz v26 kC λv27=>
 zP P T v2 [v23,v27] kC λv28 o_=>
 yM v28 λv29=>
 bL v29
 (R (.bool false) o_)
 (zc .add v7 (Γ 1) λq'=>
 I [q'] o_/\μ [q'] o_<μ [v7] jr))
 (R (.bool true) jr))
def awl{P:Program}{T:List Bool}{f g:FuncId}{sz:Nat}{α:Type}[DecidableEq α]{enc:α->Ξ}(hn:∀x,(enc x).length=sz)(hT:T.getD g false=true)
  (vc:∀v0 v1 v2 w R,I4 P T sz v0 v1 v2 w R->zL P f [v0,v1,v2] w R) (one:∀a b,Spec P g [agg (enc a),agg (enc b)] [] (bj (.bool (decide (a=b))) []))
  (H:aX) (u v:Ε) (A B:List α) (hu:bK H sz u A.length (A.map enc).flatten) (hv:bK H sz v B.length (B.map enc).flatten) (hA:A.length<=9223372036854775806) :
  Spec P f [u,v,.func (.func g) #[] #[]] [.mem H] (bj (.bool (decide (A=B))) [.mem H]):=by
 refine Enzz λW F w hS=>?_;apply vc;unfold I4;refine zh hu (zh hv ?_);refine bw (λh=>?_) (λh=>?_)
 ·have:A≠B:=λe=>by subst e;exact h rfl
  simp only[this,wwk];(exact bt hS)
 have hl:A.length=B.length:=by omega
 refine⟨λvs w=>∃k:Nat,vs=[Γ k]/\k<=A.length/\A.take k=B.take k/\SL W (.mem H::F) w,λvs _=>match vs with|[.int _ k]=>(A.length-k).toNat|_=>0,⟨0,rfl,by omega,rfl,hS⟩,?_⟩;clear hS;rintro v7 w ⟨k,vL,hk,lL,hS⟩;cases vL;refine zh hu ?_;refine bw (λh=>?_) (λh=>?_)
 ·have jm:k<A.length:=by omega
  have fm:k<B.length:=by omega
  refine zQ hS ?_;clear hS;intro w hS;refine zy hS .hd hn hu (x:=A[k]) (by simp[jm]) jm ?_;refine zy hS .hd hn hv (x:=B[k]) (by simp[fm]) fm ?_;refine yh (args':=[agg (enc A[k]),agg (enc B[k])]) hT (one A[k] B[k]) rfl hS .nil ?_;clear hS;rintro v post ⟨rfl,rfl⟩ w hS;(try simp only[app]at hS);refine Gp ?_
  refine zr (λhe=>?_) (λhe=>?_)
  ·have:A≠B:=λe=>by subst e;simp at he
   simp only[this,wwk];(exact bt hS)
  have jk:=zzl he;refine Gp ?_;refine⟨⟨k+1,by simp,by omega,?_,hS⟩,by dsimp only;omega⟩;rw[zzh jm,zzh fm,lL,jk]
 have:k=A.length:=by omega
 subst this;have:A=B:=by rw[zz6,hl,zz6]at lL;exact lL
 simp only[this,decide_true];(exact bt hS)
def D1{α:Type}:∀(xs:List α) (t:Nat) (x:α),xs[t]?=some x->xs.Perm (x::xs.eraseIdx t)
 | [],t,x,h=>by simp at h
 | y::xs,0,x,h=>by simp at h;subst h;exact .refl _
 | y::xs,t+1,x,h=>((D1 xs t x (by simpa using h)).cons y).trans (.swap _ _ _)
def ze{α:Type}(A:α->zw)(xs:List α):zw:=star (xs.map λx=>.ob (A x))
section
variable {W w:Ζ} {l l':Β} {α:Type} {A:α->zw} {xs:List α}
def ze.iff:SL W (.ob (ze A xs)::l) w↔SL W ((xs.map λx=>Chunk.ob (A x))++l) w:=
 ⟨λh=>h.conv (λ_ s=>s),λh=>h.fold (λ_ s=>s)⟩
def ze.take{t:Nat}{x:α}(h:SL W (.ob (ze A xs)::l) w)(hx:xs[t]?=some x):SL W (.ob (A x)::.ob (ze A (xs.eraseIdx t))::l) w:=by
 have h1:=ze.iff.1 h;have p:(xs.map λx=>Chunk.ob (A x)).Perm (.ob (A x)::(xs.eraseIdx t).map λx=>Chunk.ob (A x)):=by
  exact (D1 xs t x hx).map λx=>Chunk.ob (A x)
 have h2:=h1.perm (p.append_right l);have h3:=h2.perm (l':=((xs.eraseIdx t).map λx=>Chunk.ob (A x))++(.ob (A x)::l)) (by simpa using vvn.symm);exact (ze.iff.2 h3).perm (.swap _ _ _)
def ze.put{t:Nat}{y:α}(h:SL W (.ob (A y)::.ob (ze A (xs.eraseIdx t))::l) w)(ht:t<xs.length):SL W (.ob (ze A (xs.set t y))::l) w:=by
 refine ze.iff.2 ?_;have h1:=ze.iff.1 (h.perm (.swap _ _ _));have p:(.ob (A y)::(xs.eraseIdx t).map λx=>Chunk.ob (A x)).Perm ((xs.set t y).map λx=>Chunk.ob (A x)):=by
  have:=(D1 (xs.set t y) t y (by simp[ht])).symm.map λx=>Chunk.ob (A x);rw[List.eraseIdx_set_eq]at this
  exact this
 refine h1.perm ?_;refine (vvn).trans ?_;exact p.append_right l
def ze.nil(h:SL W l w):SL W (.ob (ze A [])::l) w:=ze.iff.2 h
def ze.snoc{x:α}(h:SL W (.ob (ze A xs)::.ob (A x)::l) w):SL W (.ob (ze A (xs++[x]))::l) w:=by
 refine ze.iff.2 ?_;have h1:=ze.iff.1 h;simpa using h1
def aY.one{v:Ε}{t:Ι}{sz n:Nat}{cells:Ξ}(h:SL W (.ob (aY v t sz n cells)::l) w):v.oneCell'=true:=by
 rcases aY.open h with ⟨⟨a,rfl⟩,_⟩|⟨b,cap,rest,rfl,_⟩<;>rfl
def Has.front{c:Μ}(h:SL W l w){l2:Β}(r:dW c l l2):SL W (c::l2) w:=h.perm r.perm
def ai5{κ α:Type}{key:κ->Ε}{val:α->Ε}{p:Nat->Ζ->Prop}(hS:SL W l w)(h:∀b w',SL W (.ob (cM key val b [])::l) w'->p b w'):p w.heap.size (w.alloc (.map #[] 0)):=h _ _ hS.DD
def zW{H:aX}{v:Ε}{t:Ι}{sz n:Nat}{cells:Ξ}{F:Β}(hS:SL W l w)(hp:eQ [.mem H,.ob (aY v t sz n cells)] l F):∃H',H.le H'/\bK H' sz v n cells/\SL W (.mem H'::F) w:=aY.freeze (hS.pick hp)
def SL.DH(h:SL W l w):SL W (.mem aX.emp::l) w:=
 ⟨h.os,h.tape,h.output,let ⟨k,s,m⟩:=h.out;⟨k,⟨aX.emp,k,Sep.emp k,rfl,s⟩,m⟩⟩
def Has.rem{c:Μ}(h:Has c l):∃l2,dW c l l2:=by
 induction h with
 | hd=>exact⟨_,.hd⟩
 | tl _ ih=>obtain⟨l2,r⟩:=ih;exact⟨_,.tl r⟩
def aY.at{v:Ε}{t:Ι}{sz n:Nat}{cells:Ξ}(h:SL W l w)(m:Has (.ob (aY v t sz n cells)) l):
  ∃a cap,v= .slice a n cap/\cells.length=n*sz/\∀j,j<n->∃b,a=some ⟨b,0,none⟩/\∀i u,cells[i]?=some u->w.cell? ⟨b,i,none⟩=some u:=by
 obtain⟨l2,r⟩:=m.rem;rcases aY.open (h.perm r.perm) with ⟨⟨a,rfl⟩,rfl,rfl,_⟩|⟨b,cap,rest,rfl,hc,hl,hr,h2⟩
 ·exact⟨a,0,rfl,by simp,λj hj=>by omega⟩
 exact⟨_,cap,rfl,hl,λj hj=>⟨b,rfl,λi u hu=>h2.cell .hd (by rw[zzs (zzf.1 hu).1];exact hu)⟩⟩
def zB{v:Ε}{t:Ι}{sz n:Nat}{cells:Ξ}{K:Ε->Prop}(h:SL W l w)(m:Has (.ob (aY v t sz n cells)) l)(k:K (Γ n)):zd v K:=by
 obtain⟨a,cap,rfl,_⟩:=aY.at h m;exact zY k
def yp{v u:Ε}{t:Ι}{n j:Nat}{k:IntKind}{cells:Ξ}{K:Ε->Prop}(h:SL W l w)(m:Has (.ob (aY v t 1 n cells)) l)(hj:j<n)(hu:cells[j]?=some u)(hK:K u):
  zj 1 v (.int k (j:Int)) λp=>bx p w K:=by
 obtain⟨a,cap,rfl,_,h2⟩:=aY.at h m;obtain⟨b,rfl,h3⟩:=h2 j hj;refine zM hj ⟨_,u,rfl,h3 _ u ?_,hK⟩;rw[zz2,wwl];exact hu
def yK{α:Type}{enc:α->Ξ}{v:Ε}{t:Ι}{n sz j:Nat}{k:IntKind}{xs:List α}{x:α}{K:Ε->Prop}(h:SL W l w)(m:Has (.ob (aY v t sz n (xs.map enc).flatten)) l)(hn:∀x,(enc x).length=sz)(hx:xs[j]?=some x)(hj:j<n)(hK:K (agg (enc x))):
  zj sz v (.int k (j:Int)) λp=>zf sz p w K:=by
 obtain⟨a,cap,rfl,_,h2⟩:=aY.at h m;obtain⟨b,rfl,h3⟩:=h2 j hj;refine zM hj ⟨_,enc x,rfl,hn x,λi u hu=>?_,hK⟩;rw[zz7,zz2];exact h3 _ u (oL hn xs j i x u hx hu)
def zX{α:Type}{enc:α->Ξ}{v u:Ε}{t:Ι}{n sz j i:Nat}{k:IntKind}{xs:List α}{x:α}{K:Ε->Prop}(h:SL W l w)(m:Has (.ob (aY v t sz n (xs.map enc).flatten)) l)(hn:∀x,(enc x).length=sz)(hx:xs[j]?=some x)(hj:j<n)(hu:(enc x)[i]?=some u)(hK:K u):
  zj sz v (.int k (j:Int)) λp=>zm i p λq=>bx q w K:=by
 obtain⟨a,cap,rfl,_,h2⟩:=aY.at h m;obtain⟨b,rfl,h3⟩:=h2 j hj;refine zM hj (yR ⟨_,u,rfl,?_,hK⟩);rw[zz2];exact h3 _ u (oL hn xs j i x u hx hu)
def iG{v:Ε}{t:Ι}{sz n:Nat}{cells:Ξ}(h:SL W l w)(m:Has (.ob (aY v t sz n cells)) l):il w sz v n cells:=by
 obtain⟨a,cap,rfl,h1,h2⟩:=aY.at h m;rcases yy7 n with rfl|hn
 ·have:cells=[]:=zzm (by simpa using h1);subst this;cases a with
  | none=>exact⟨rfl,rfl⟩
  | some p=>exact⟨rfl,by simp,λj v e=>by simp at e⟩
 obtain⟨b,rfl,h3⟩:=h2 0 hn;exact⟨rfl,h1,λj v e=>by rw[zz7,zz2];exact h3 j v e⟩
end
def bP(v:Ε)(t:Ι)(sz n:Nat)(cells:Ξ):zw:=gi λx:Option (Nat × Ξ × Nat × Ξ)=>match x with
 | none=>zG ((∃a,v= .slice a 0 0)/\n=0/\cells=[]) []
 | some (b,pre,cap,rest)=>zG (v= .slice (some ⟨b,pre.length,none⟩) n cap/\n<=cap/\cells.length=n*sz/\rest.length=(cap-n)*sz) [.pt b (pre++(cells++rest)) t]
section
variable {W w:Ζ} {l:Β} {v:Ε} {t:Ι} {sz n:Nat} {cells:Ξ}
def bP.open(h:SL W (.ob (bP v t sz n cells)::l) w):
  ((∃a,v= .slice a 0 0)/\n=0/\cells=[]/\SL W l w)\/∃b pre cap rest,v= .slice (some ⟨b,pre.length,none⟩) n cap/\n<=cap/\cells.length=n*sz/\rest.length=(cap-n)*sz/\SL W (.pt b (pre++(cells++rest)) t::l) w:=by
 unfold bP at h;obtain⟨x,h⟩:=SL.ex.1 h
 match x,h with
 | none,h=>
  obtain⟨⟨h1,h2,h3⟩,h⟩:=SL.fact.1 h;exact .inl ⟨h1,h2,h3,h⟩
 | some (b,pre,cap,rest),h=>
  obtain⟨⟨h1,h2,h3,h4⟩,h⟩:=SL.fact.1 h;exact .inr ⟨b,pre,cap,rest,h1,h2,h3,h4,h⟩
def bP.lP{a:Option Addr}(h:SL W l w):SL W (.ob (bP (.slice a 0 0) t sz 0 [])::l) w:=by
 unfold bP;exact SL.ex.2 ⟨none,SL.fact.2 ⟨⟨⟨_,rfl⟩,rfl,rfl⟩,h⟩⟩
def bP.mk{b cap o:Nat}{pre rest:Ξ}(h1:n<=cap)(h2:cells.length=n*sz)(h3:rest.length=(cap-n)*sz)(ho:pre.length=o)(h:SL W (.pt b (pre++(cells++rest)) t::l) w):
  SL W (.ob (bP (.slice (some ⟨b,o,none⟩) n cap) t sz n cells)::l) w:=by
 subst ho;unfold bP;exact SL.ex.2 ⟨some (b,pre,cap,rest),SL.fact.2 ⟨⟨rfl,h1,h2,h3⟩,h⟩⟩
def bP.of(h:SL W (.ob (aY v t sz n cells)::l) w):SL W (.ob (bP v t sz n cells)::l) w:=by
 rcases aY.open h with ⟨⟨a,rfl⟩,rfl,rfl,hS⟩|⟨b,cap,rest,rfl,hc,hl,hr,hS⟩
 ·exact bP.lP hS
 exact bP.mk (pre:=[]) hc hl hr rfl (by simpa using hS)
def bP.at(h:SL W l w)(m:Has (.ob (bP v t sz n cells)) l):∃a cap,v= .slice a n cap/\n<=cap/\cells.length=n*sz:=by
 obtain⟨l2,r⟩:=m.rem;rcases bP.open (h.perm r.perm) with ⟨⟨a,rfl⟩,rfl,rfl,_⟩|⟨b,pre,cap,rest,rfl,hc,hl,_⟩
 ·exact⟨a,0,rfl,zzz _,by simp⟩
 exact⟨_,cap,rfl,hc,hl⟩
def bP.one(h:SL W l w)(m:Has (.ob (bP v t sz n cells)) l):v.oneCell'=true:=by
 obtain⟨a,cap,rfl,_⟩:=bP.at h m;rfl
def yq{K:Ε->Prop}(h:SL W l w)(m:Has (.ob (bP v t sz n cells)) l)(k:K (Γ n)):zd v K:=by
 obtain⟨a,cap,rfl,_⟩:=bP.at h m;exact zY k
def Zc{j:Nat}{k:IntKind}{K:Ε->Prop}(h:SL W l w)(m:Has (.ob (bP v t sz n cells)) l)(hj:j<n)
  (hK:∀b o,(∀i u,i<sz->cells[j*sz+i]?=some u->w.cell? ⟨b,o+i,none⟩=some u)->K (.pointer (some ⟨b,o,none⟩))):zj sz v (.int k (j:Int)) K:=by
 obtain⟨l2,r⟩:=m.rem;rcases bP.open (h.perm r.perm) with ⟨⟨a,rfl⟩,rfl,rfl,_⟩|⟨b,pre,cap,rest,rfl,hc,hl,hr,hS⟩
 ·omega
 refine zM hj (hK b (pre.length+j*sz) λi u hi hu=>hS.cell .hd ?_);rw[ww3,zz3 (by omega),xx0,zzs (zzf.1 hu).1];exact hu
def N'{k:Nat}{kk:IntKind}{K:Ε->Prop}(hS:SL W (.ob (bP v t sz n cells)::l) w)(hk:k<=n)(hK:∀u,SL W (.ob (bP u t sz (n-k) (cells.drop (k*sz)))::l) w->K u):dD sz v (some (.int kk (k:Int))) none none K:=by
 rcases bP.open hS with ⟨⟨a,rfl⟩,rfl,rfl,eF⟩|⟨b,pre,cap,rest,rfl,hc,hl,hr,eF⟩
 ·obtain rfl:k=0:=by omega
  refine⟨a,0,0,0,0,0,rfl,rfl,rfl,⟨kk,rfl⟩,zzz _,zzz _,zzz _,?_⟩;rw[zzd rfl];exact hK _ (by simpa using bP.lP (t:=t) (sz:=sz) (a:=a) eF)
 refine⟨_,n,cap,k,n,cap,rfl,rfl,rfl,⟨kk,rfl⟩,hk,hc,zzz _,hK _ ?_⟩;by_cases e:cap=k
 ·obtain rfl:n=k:=by omega
  rw[zzd e,Nat.sub_self,show cap-n=0 by omega,yyt (by omega)];exact bP.lP eF.drop
 rw[zzb e];have cA:k*sz<=cells.length:=by rw[hl];exact yy4 _ hk
 have e1:(some (⟨b,pre.length,none⟩:Addr)).map (·.add (k*sz))=some ⟨b,pre.length+k*sz,none⟩:=by simp[zz7]
 rw[e1];refine bP.mk (pre:=pre++cells.take (k*sz)) (rest:=rest) (by omega) (by rw[zz0,hl,xx6]) (by rw[hr];congr 1;omega) (by rw[zza,zzn];omega) ?_;rw[zze,<- zze (cells.take (k*sz)),yyk];exact eF
def Yr{x y:Ε}{fH m:Nat}{z cs:Ξ}{F:Β}{K:Ε->Ζ->Prop}(hS:SL W l w)(hr:dW (.ob (bP x t sz n cells)) l F)(gb:il w sz y m cs)
  (hl:cs.length=m*sz) (hz:z.length=sz) (h1:∀v∈cs,v.oneCell'=true) (hb:(n+m)*fH<=140737488355328) (hn:n+m<=140737488355328)
  (h:∀v' w',SL W (.ob (bP v' t sz (n+m) (cells++cs))::F) w'->K v' w'):zq sz fH z t x y w K:=by
 rcases bP.open (hS.perm hr.perm) with ⟨⟨a,rfl⟩,rfl,rfl,eF⟩|⟨b,pre,cap,rest,rfl,hc,hlen,ij,eF⟩
 ·refine⟨a,0,0,m,cs,rfl,gb,hb,hn,λh0=>?_,λh0=>⟨[],(by cases a with|none=>exact⟨rfl,rfl⟩|some p=>exact⟨rfl,by simp,λj v e=>by simp at e⟩),λc gW rM=>?_⟩⟩
  ·have hm:m=0:=by omega
   subst hm;have:cs=[]:=zzm (by simpa using hl);subst this;cases a with
   | none=>exact h _ _ (bP.lP eF)
   | some p=>exact h _ _ (bP.lP eF)
  refine h _ _ ?_;have:=bP.mk (sz:=sz) (n:=0+m) (cells:=cs) (pre:=[]) (rest:=bq z (c-(0+m))) (cap:=c) gW (by simpa using hl) (by rw[jS,hz]) rfl (SL.new (cs:=[]++(cs++bq z (c-(0+m)))) (t:=t) (eF.drew));simpa using this
 refine⟨some ⟨b,pre.length,none⟩,n,cap,m,cs,rfl,gb,hb,hn,λh0=>?_,λh0=>?_⟩
 ·have lH:cs.length<=rest.length:=by
   rw[hl,ij];exact yy4 _ (by omega)
  show om (Addr.add ⟨b,pre.length,none⟩ (n*sz)) 0 cs w _;rw[zz7];refine tV (t:=t) cs (pre.length+n*sz) 0 (pre++(cells++rest)) w (.pt b (pre++(cells++rest)) t::F) _ eF .hd (by simp[hlen];omega) h1 (λw' lF=>h _ _ ?_);have e:over (pre++(cells++rest)) (pre.length+n*sz+0) cs=pre++((cells++cs)++rest.drop cs.length):=by
   rw[show pre.length+n*sz+0=(pre++cells).length by rw[zza];omega,<- zze,Nv lH];simp
  rw[e]at lF
  exact bP.mk (n:=n+m) (cells:=cells++cs) (rest:=rest.drop cs.length) h0 (by simp[hlen,hl,yyo]) (by
   rw[zz0,ij,hl,<- xx6];congr 1;omega) rfl lF
 refine⟨cells,⟨rfl,hlen,λj v e=>?_⟩,λc gW rM=>h _ _ ?_⟩
 ·rw[zz7];refine eF.cell .hd ?_;rw[zz3 (by omega),xx0,zzs (zzf.1 e).1];exact e
 have:=bP.mk (sz:=sz) (n:=n+m) (cells:=cells++cs) (pre:=[]) (rest:=bq z (c-(n+m))) (cap:=c) gW (by simp[hlen,hl,yyo]) (by rw[jS,hz]) rfl (SL.new (cs:=[]++((cells++cs)++bq z (c-(n+m)))) (t:=t) (eF.drop.drew));simpa using this
def bP.block(hS:SL W (.ob (bP v t sz n cells)::l) w)(hn:0<n):∃b pre cap rest,v= .slice (some ⟨b,pre.length,none⟩) n cap/\n<=cap/\cells.length=n*sz/\rest.length=(cap-n)*sz/\SL W (.pt b (pre++(cells++rest)) t::l) w:=by
 rcases bP.open hS with ⟨_,h0,_⟩|h
 ·omega
 exact h
end
