/- Part. -/
import Derived.Test.YtmkllimamejcgaaGreatJ1
import Derived.MapKept
namespace Go.Proofs.YtmkllimamejcgaaGreat
set_option linter.all false
open Go.RowKit
abbrev Μ:=Chunk
abbrev Β:=List Μ
def yy1:=@MapKept.run_getObj_map
def xxk:=@MapKept.run_checkKey
def xx8:=@MapKept.run_findKey
def wwl:=@MapKept.run_setObj_map
def zze:=@List.take_succ_eq_append_getElem
def vvf:=@decide_false
def uuj:=@Nat.zero_mul
def wwx:=@Nat.one_mul
def uu1:=@Nat.add_comm
def xxx:=@List.take_succ_cons
def uuz:=@List.drop_succ_cons
def wwe:=@List.mem_flatten
def zz4:=@List.take_length
def tti:=@decide_true
def vvw:=@Nat.mul_one
def wwf:=@Nat.add_sub_cancel_left
def zzg:=@List.length_take
def zzk:=@List.append_assoc
structure Am{κ:Type}(d:TypeDesc)(key:κ->Ε):Prop where
 is:∀k,MapKept.IsKey d (key k)
 inj:∀{a b},key a=key b->a=b
def pg(k:IntKind):Am (.int k) (Value.int k):=⟨λ_=>rfl,λh=>by cases h;rfl⟩
section
variable {κ α:Type} [DecidableEq κ]
def fO:List (κ × α)->κ->Option α
 | [],_=>none
 | p::m,k=>if p.1=k then some p.2 else fO m k
def gI:List (κ × α)->κ->α->List (κ × α)
 | [],k,v=>[(k,v)]
 | p::m,k,v=>if p.1=k then (k,v)::m else p::gI m k v
def rI:List (κ × α)->κ->List (κ × α)
 | [],_=>[]
 | p::m,k=>if p.1=k then m else p::rI m k
def kv(e:MapEntry):Ε × Ε:=(e.key,e.val)
def kw(key:κ->Ε)(val:α->Ε)(p:κ × α):Ε × Ε:=(key p.1,val p.2)
def CF{d:TypeDesc}{key:κ->Ε}{val:α->Ε}(ok:Am d key)(k:κ):∀(es:List MapEntry) (m:List (κ × α)) (i:Nat),es.map kv=m.map (kw key val) ->
  (Instr.findNow d (key k) es i=some none/\fO m k=none/\(∀v,gI m k v=m++[(k,v)])/\rI m k=m/\∀x∈es,x.key≠key k) \/
  ∃j e a,Instr.findNow d (key k) es i=some (some (i+j,val a))/\es[j]?=some e/\e.key=key k/\fO m k=some a /\
   (∀v,(es.modify j λe=>{e with key:=key k,val:=val v}).map kv=(gI m k v).map (kw key val))/\(es.eraseIdx j).map kv=(rI m k).map (kw key val)
 | [],[],_,_=>.inl ⟨rfl,rfl,λ_=>rfl,rfl,by simp⟩
 | [],_::_,_,h=>by simp at h
 | _::_,[],_,h=>by simp at h
 | e::es,p::m,i,h=>by
  simp only[zzo,List.cons.injEq]at h;obtain⟨h1,h2⟩:=h;obtain⟨x,y⟩:=p;simp only[kv,kw,wwi]at h1;obtain⟨oY,AU⟩:=h1;obtain⟨r,hr,FA⟩:=MapKept.sameNow_of_keys (ok.is k) (ok.is x);by_cases hx:x=k
  ·subst hx;obtain rfl:r=true:=FA.2 rfl;refine .inr ⟨0,e,y,by simp[Instr.findNow,oY,hr,AU],rfl,oY,by simp[fO],?_,?_⟩
   ·intro v;simp[gI,kv,kw];exact h2
   simp[rI,h2]
  have hr':r=false:=by
   cases r with
   | false=>rfl
   | true=>exact absurd (ok.inj (FA.1 rfl)).symm hx
  subst hr';rcases CF ok k es m (i+1) h2 with ⟨a1,a2,a3,a4,a5⟩|⟨j,e',a,a1,a2,a3,a4,a5,a6⟩
  ·refine .inl ⟨by simp[Instr.findNow,oY,hr,a1],by simp[fO,hx,a2],λv=>by simp[gI,hx,a3],by simp[rI,hx,a4],?_⟩;intro z hz;rcases zz0.1 hz with rfl|hz
   ·rw[oY];exact λq=>hx (ok.inj q)
   exact a5 z hz
  refine .inr ⟨j+1,e',a,by simp[Instr.findNow,oY,hr,a1];omega,by simpa using a2,a3,by simp[fO,hx,a4],?_,?_⟩
  ·intro v;simp[gI,hx,kv,kw,oY,AU];exact a5 v
  simp[rI,hx,kv,kw,oY,AU];exact a6
end
def eE{κ α:Type}(key:κ->Ε)(val:α->Ε)(b:Nat)(m:List (κ × α)):zB:=
 jK λx:List MapEntry × Nat=>zG (x.1.map kv=m.map (kw key val)/\MapKept.Stamped x.1.toArray x.2) [.mp b x.1 x.2]
section
variable {W w:Ζ} {l l':Β} {κ α:Type} [DecidableEq κ] {key:κ->Ε} {val:α->Ε} {b:Nat} {m:List (κ × α)}
omit [DecidableEq κ] in
def eE.of{es:List MapEntry}{c:Nat}(h1:es.map kv=m.map (kw key val))(h2:MapKept.Stamped es.toArray c):(Chunk.ob (eE key val b m)).holds (bw.one b (.map es.toArray c)):=
 ⟨(es,c),⟨h1,h2⟩,⟨bw.one b (.map es.toArray c),bw.emp,λx=>.inr ⟨rfl,rfl⟩,rfl,rfl⟩⟩
omit [DecidableEq κ] in
def cB7{c:Μ}{k:bw}(h:star [c] k):c.holds k:=by
 obtain⟨h1,h2,s,a,r⟩:=h;obtain rfl:h2=bw.emp:=r;have:k=h1:=funext λb=>by
  rcases s b with ⟨x,y⟩|⟨x,y⟩
  ·rw[x,y];rfl
  exact y
 rw[this];exact a
omit [DecidableEq κ] in
def eE.out{k:bw}(h:(Chunk.ob (eE key val b m)).holds k):∃(es:List MapEntry) (c:Nat),es.map kv=m.map (kw key val)/\MapKept.Stamped es.toArray c/\k=bw.one b (.map es.toArray c):=by
 obtain⟨⟨es,c⟩,⟨h1,h2⟩,h3⟩:=h;exact⟨es,c,h1,h2,cB7 h3⟩
omit [DecidableEq κ] in
def SL.xW(h:SL W l w)(hm:Has (.ob (eE key val b m)) l):∃(es:List MapEntry) (c:Nat),es.map kv=m.map (kw key val)/\MapKept.Stamped es.toArray c/\w.heap[b]?=some (.map es.toArray c):=by
 obtain⟨k,s,x⟩:=h.out;obtain⟨h1,hh,le⟩:=hm.heap s;obtain⟨es,c,e1,e2,rfl⟩:=eE.out hh;exact⟨es,c,e1,e2,x b _ (le b _ (by simp[bw.one]))⟩
omit [DecidableEq κ] in
def SL.Bu{m':List (κ × α)}{es:List MapEntry}{c:Nat}{o:Obj}(h:SL W l w)(u:gh (.ob (eE key val b m)) (.ob (eE key val b m')) l l')(hb:w.heap[b]?=some o)(h1:es.map kv=m'.map (kw key val))(h2:MapKept.Stamped es.toArray c):
  SL W l' {w with heap:=w.heap.setIfInBounds b (.map es.toArray c)}:=
 h.rS (b:=b) (o':=.map es.toArray c) u (λk hk=>by obtain⟨es,c,_,_,rfl⟩:=eE.out hk;exact⟨_,rfl⟩) (eE.of h1 h2) (MapKept.heap_set hb).1 (MapKept.heap_set hb).2 rfl rfl rfl
omit [DecidableEq κ] in
def SL.JP(h:SL W l w):SL W (.ob (eE key val w.heap.size [])::l) (w.alloc (.map #[] 0)):=h.alloc (eE.of (es:=[]) rfl (MapKept.stamped_empty 0))
variable {P:Program} {t kt et:Ι} {d:TypeDesc} {z:Ε} {k:κ}
def Y2{K:Ε->Prop}(hS:SL W l w)(hm:Has (.ob (eE key val b m)) l)(ok:Am d key)(ht:P.underlying t=some (.map kt et))(hd:P.underlying kt=some d)(hz:∀w,(zeroValue et).run P w= .ok z w)
  (h:K (.tuple #[((fO m k).map val).getD z,.bool (fO m k).isSome])):ff P (Instr.lookup t (.map (some b)) (key k) true) w K:=by
 obtain⟨es,c,e1,e2,hb⟩:=hS.xW hm;rcases CF ok k es m 0 e1 with ⟨a1,a2,_,_,_⟩|⟨j,e,a,a1,_,_,a4,_,_⟩
 ·refine⟨_,?_,h⟩;simp[Instr.lookup,zzz ht,yy1 hb,xxk hd (ok.is k),xx8 hd a1,hz,Result.andThen,a2]
 refine⟨_,?_,h⟩;simp[Instr.lookup,zzz ht,yy1 hb,xxk hd (ok.is k),xx8 hd a1,Result.andThen,a4]
def yL{K:Ε->Prop}(hS:SL W l w)(hm:Has (.ob (eE key val b m)) l)(ok:Am d key)(ht:P.underlying t=some (.map kt et))(hd:P.underlying kt=some d)(hz:∀w,(zeroValue et).run P w= .ok z w)
  (h:K (((fO m k).map val).getD z)):ff P (Instr.lookup t (.map (some b)) (key k) false) w K:=by
 obtain⟨es,c,e1,e2,hb⟩:=hS.xW hm;rcases CF ok k es m 0 e1 with ⟨a1,a2,_,_,_⟩|⟨j,e,a,a1,_,_,a4,_,_⟩
 ·refine⟨_,?_,h⟩;simp[Instr.lookup,zzz ht,yy1 hb,xxk hd (ok.is k),xx8 hd a1,hz,Result.andThen,a2]
 refine⟨_,?_,h⟩;simp[Instr.lookup,zzz ht,yy1 hb,xxk hd (ok.is k),xx8 hd a1,Result.andThen,a4]
def qR{v:α}{K:Ε->Ζ->Prop}(hS:SL W l w)(u:gh (.ob (eE key val b m)) (.ob (eE key val b (gI m k v))) l l')(ok:Am d key)(ht:P.underlying t=some (.map kt et))(hd:P.underlying kt=some d)
  (h:∀u w',SL W l' w'->K u w'):zR P (do Instr.mapUpdate t (.map (some b)) (key k) (val v);pure undef) w K:=by
 obtain⟨es,c,e1,e2,hb⟩:=hS.xW u.has;have hks:∀x∈es,∃p∈m,x.key=key p.1:=λx hx=>by
  have:kv x∈es.map kv:=zzx.2 ⟨x,hx,rfl⟩;rw[e1]at this
  obtain⟨p,hp,hq⟩:=zzx.1 this;exact⟨p,hp,(Prod.mk.inj hq).1.symm⟩
 rcases CF ok k es m 0 e1 with ⟨a1,_,a3,_,a5⟩|⟨j,e,a,a1,a2,a3,_,a5,_⟩
 ·refine⟨undef,{w with heap:=w.heap.setIfInBounds b (.map (es++[({key:=key k,val:=val v,born:=c}:MapEntry)]).toArray (c+1))},?_,h _ _ (hS.Bu u hb (by rw[a3];simp[e1,kv,kw]) ?_)⟩
  ·simp[Instr.mapUpdate,zzz ht,yy1 hb,xxk hd (ok.is k),xx8 hd a1,wwl _ hb,Result.andThen]
  have:=MapKept.stamped_push e2 (key:=key k) (val:=val v) (by simpa using a5);simpa using this
 refine⟨undef,{w with heap:=w.heap.setIfInBounds b (.map (es.modify j λe=>{e with key:=key k,val:=val v}).toArray c)},?_,h _ _ (hS.Bu u hb (a5 v) ?_)⟩
 ·have hj:es.toArray[j]?=some e:=by simpa using a2
  simp[Instr.mapUpdate,zzz ht,yy1 hb,xxk hd (ok.is k),xx8 hd a1,a2,a3,MapKept.run_keyThatStays (ok.is k),wwl _ hb,Result.andThen]
 have xA:∀e',es.toArray[j]?=some e'->({e' with key:=key k,val:=val v}:MapEntry).key=e'.key:=λe' mc=>by
  have:es[j]?=some e':=by simpa using mc
  rw[a2]at this;cases this;exact a3.symm
 have:=MapKept.stamped_modify e2 j (λe=>{e with key:=key k,val:=val v}) (λ_ _=>rfl) (λe' _ mc=>xA e' mc);simpa using this
def cAj{ty kt':Ι}{K:Ε->Ζ->Prop}(hS:SL W l w)(u:gh (.ob (eE key val b m)) (.ob (eE key val b (rI m k))) l l')(ok:Am d key)(ht:P.underlying t=some (.map kt et))(hd:P.underlying kt=some d)
  (h:∀u w',SL W l' w'->K u w'):zR P (Builtin.delete_ #[t,kt'] ty #[.map (some b),key k]) w K:=by
 obtain⟨es,c,e1,e2,hb⟩:=hS.xW u.has;rcases CF ok k es m 0 e1 with ⟨a1,_,_,a4,_⟩|⟨j,e,a,a1,a2,_,_,_,a6⟩
 ·refine⟨.tuple #[],{w with heap:=w.heap.setIfInBounds b (.map es.toArray c)},?_,h _ _ (hS.Bu u hb (by rw[a4];exact e1) e2)⟩;simp[Builtin.delete_,zzz ht,yy1 hb,xxk hd (ok.is k),xx8 hd a1,wwl _ hb,Result.andThen]
 have de:j<es.length:=(zzf.1 a2).1;have hse:es.toArray.eraseIdxIfInBounds j=(es.eraseIdx j).toArray:=by simp[Array.eraseIdxIfInBounds,de]
 refine⟨.tuple #[],{w with heap:=w.heap.setIfInBounds b (.map (es.eraseIdx j).toArray c)},?_,h _ _ (hS.Bu u hb a6 ?_)⟩
 ·simp[Builtin.delete_,zzz ht,yy1 hb,xxk hd (ok.is k),xx8 hd a1,wwl _ hb,Result.andThen]
 have:=MapKept.stamped_erase e2 j
 rwa [hse]at this
omit [DecidableEq κ] in
end
abbrev KI:Int->Ε:=Value.int .i64
structure Cell where
 key:Int
 aw:Int
 gone:Bool
 val:Η
deriving DecidableEq
structure Row where
 key:Int
 val:Η
deriving DecidableEq
structure gr where
 aw:Int
 table:Int
 key:Int
 gone:Bool
 val:Η
deriving DecidableEq
def kA(c:Cell):Ξ:=[Γ c.key,Γ c.aw,.bool c.gone,.string c.val]
def eh(c:Row):Ξ:=[Γ c.key,.string c.val]
def jF(o:gr):Ξ:=[Γ o.aw,Γ o.table,Γ o.key,.bool o.gone,.string o.val]
def bw9(c:Cell):(kA c).length=4:=rfl
def jk(c:Row):(eh c).length=2:=rfl
def bFh(o:gr):(jF o).length=5:=rfl
def bFa(c:Cell):∀v∈kA c,v.oneCell'=true:=by simp[kA,Value.oneCell']
def bFi(c:Row):∀v∈eh c,v.oneCell'=true:=by simp[eh,Value.oneCell']
def Cv(o:gr):∀v∈jF o,v.oneCell'=true:=by simp[jF,Value.oneCell']
abbrev agg(l:Ξ):Ε:=.agg l.toArray
def pF(c:Cell):Ε:=agg (kA c)
def bIf(c:Cell)(z:Ξ)(hz:z.length=4):iz (cK z 1) [(0,4,pF c)]=some (kA c):=by
 simp[iz,cK,pF,Value.cells,kA,hz]
def vt{α:Type}(enc:α->Ξ)(xs:List α)(x:α):((xs++[x]).map enc).flatten=(xs.map enc).flatten++enc x:=by simp
def bIn{α:Type}(enc:α->Ξ)(xs:List α)(k:Nat)(h:k<xs.length):((xs.take (k+1)).map enc).flatten=((xs.take k).map enc).flatten++enc xs[k]:=by
 rw[zze h,vt]
section
variable {W w:Ζ} {l:Β} {P:Program}
def qO{t:Ι}{xs ys:Ξ}{p:Prop}[Decidable p]{K:Ε->Prop}(h:(Op.equal t (agg xs) (agg ys)).run P w= .ok (decide p) w)(hK:K (.bool (decide p))):Ze P t false (agg xs) (agg ys) w K:=
 ⟨_,_,_,rfl,rfl,h,hK⟩
def bIe{t:Ι}{fs:Array Field}(h:P.underlying t=some (.struct fs)):P.fieldsOf t=fs:=by unfold Program.fieldsOf;rw[h]
def Gt{t:Ι}{fs:Array Field}{xs ys:Ξ}{b:Bool}(h:P.underlying t=some (.struct fs))(hp:P.stoodInHeld t=false)(he:(Op.eqFields 9999 xs.toArray ys.toArray fs.toList).run P w= .ok b w):(Op.equal t (agg xs) (agg ys)).run P w= .ok b w:=by
 have hf:=bIe h;unfold Op.equal Op.maxDepth;rw[run_equalIn_agg w 9999 t _ _ (by rw[hf];exact h) hp,hf];exact he
def aRb(a b:Η):(a.toList == b.toList)=decide (a=b):=by
 rw[<- beq_toListBytes];by_cases h:a=b
 ·subst h;simp[(MapKept.bytes_beq a a).2 rfl]
 simp only[h,vvf];cases hb:a == b with
 | false=>rfl
 | true=>exact absurd ((MapKept.bytes_beq a b).1 hb) h
def toList_inj(a b:Η):(a.toList=b.toList)=(a=b):=by
 have:=aRb a b;by_cases h:a=b
 ·subst h;simp
 simp only[h,vvf,beq_eq_false_iff_ne]at this;simp[h,this]
def oV{α:Type}{enc:α->Ξ}{n:Nat}(hn:∀x,(enc x).length=n)(xs:List α):((xs.map enc).flatten).length=xs.length*n:=by
 induction xs with
 | nil=>simp
 | cons x xs ih=>simp[hn,ih,yyx];omega
def pP{α:Type}{enc:α->Ξ}{n:Nat}(hn:∀x,(enc x).length=n):∀(xs:List α) (j i:Nat) (x:α) (u:Ε),xs[j]?=some x->(enc x)[i]?=some u->((xs.map enc).flatten)[j*n+i]?=some u
 | [],j,i,x,u,h,_=>by simp at h
 | y::xs,0,i,x,u,h,hu=>by
  simp at h;subst h;have:i<(enc y).length:=(zzf.1 hu).1;simp only[zzo,zz8,uuj,yye];rw[zzs this];exact hu
 | y::xs,j+1,i,x,u,h,hu=>by
  have ih:=pP hn xs j i x u (by simpa using h) hu;simp only[zzo,zz8];rw[yyb (by rw[hn,yyx];omega),hn];rw[show (j+1)*n+i-n=j*n+i by rw[yyx];omega];exact ih
def uo{α:Type}{enc:α->Ξ}{n:Nat}(hn:∀x,(enc x).length=n):∀(xs:List α) (k:Nat),(xs.map enc).flatten.take (k*n)=((xs.take k).map enc).flatten
 | [],k=>by simp
 | x::xs,0=>by simp
 | x::xs,k+1=>by
  have e:(k+1)*n=(enc x).length+k*n:=by rw[hn,yyx,wwx,uu1]
  simp only[zzo,zz8,xxx];rw[e,xxy,uo hn xs k]
def vr{α:Type}{enc:α->Ξ}{n:Nat}(hn:∀x,(enc x).length=n):∀(xs:List α) (k:Nat),(xs.map enc).flatten.drop (k*n)=((xs.drop k).map enc).flatten
 | [],k=>by simp
 | x::xs,0=>by simp
 | x::xs,k+1=>by
  have e:(k+1)*n=(enc x).length+k*n:=by rw[hn,yyx,wwx,uu1]
  simp only[zzo,zz8,uuz];rw[e,xxd,vr hn xs k]
def tR{α:Type}{enc:α->Ξ}(h1:∀x,∀v∈enc x,v.oneCell'=true)(xs:List α):∀v∈(xs.map enc).flatten,v.oneCell'=true:=by
 intro v hv;obtain⟨l,hl,hv⟩:=wwe.1 hv;obtain⟨x,_,rfl⟩:=zzx.1 hl;exact h1 x v hv
def zD{H:bw}{α:Type}{enc:α->Ξ}{v:Ε}{n sz j:Nat}{k:IntKind}{xs:List α}{x:α}{K:Ε->Prop}(hS:SL W l w)(hm:Has (.mem H) l)(hn:∀x,(enc x).length=sz)(h:dq H sz v n (xs.map enc).flatten)(hx:xs[j]?=some x)(hj:j<n)(hK:K (agg (enc x))):
  zk sz v (.int k (j:Int)) λp=>zg sz p w K:=
 Yc h hj λb o hb=>QU hS hm (hn x) (λi u hu=>hb i u (by have:=(zzf.1 hu).1;rw[hn]at this;exact this) (pP hn xs j i x u hx hu)) hK
def QT{H:bw}{α:Type}{enc:α->Ξ}{v u:Ε}{n sz j i:Nat}{k:IntKind}{xs:List α}{x:α}{K:Ε->Prop}(hS:SL W l w)(hm:Has (.mem H) l)(hn:∀x,(enc x).length=sz)(h:dq H sz v n (xs.map enc).flatten)(hx:xs[j]?=some x)(hj:j<n)(hu:(enc x)[i]?=some u)(hK:K u):
  zk sz v (.int k (j:Int)) λp=>zl i p λq=>cn q w K:=
 Yc h hj λb o hb=>yK (Gx hS hm (hb i u (by have:=(zzf.1 hu).1;rw[hn]at this;exact this) (pP hn xs j i x u hx hu)) hK)
end
def P7(P:Program)(T:List Bool)(sz:Nat)(v0:Ε)(v1:Ε)(v2:Ε)(w:Ζ)(R:Ε->Ζ->Prop):Prop:=
 zd v0 λv9=>
 zd v1 λv11=>
 zc .neq v9 v11 λv12=>
 dm v12
 (R (.bool false) w)
 (∃(I:Ξ->Ζ->Prop) (μ:Ξ->Ζ->Nat),I [(Γ 0)] w /\
 ∀(v7:Ε) px,I [v7] px ->
 zd v0 λGM=>
 zc .lss v7 GM λBS=>
 dm BS
 (zi px λsU=>
 zk sz v0 v7 λv22=>
 zg sz v22 sU λv23=>
 zk sz v1 v7 λv26=>
 zg sz v26 sU λv27=>
 zS P T v2 [v23,v27] sU λv28 uZ=>
 Zf v28 λv29=>
 dm v29
 (R (.bool false) uZ)
 (zc .add v7 (Γ 1) λD3=>
 I [D3] uZ/\μ [D3] uZ<μ [v7] px))
 (R (.bool true) px))
def cA9{P:Program}{T:List Bool}{f g:FuncId}{sz:Nat}{α:Type}[DecidableEq α]{enc:α->Ξ}(hn:∀x,(enc x).length=sz)(hT:T.getD g false=true)
  (vc:∀v0 v1 v2 w R,P7 P T sz v0 v1 v2 w R->zQ P f [v0,v1,v2] w R) (one:∀a b,Spec P g [agg (enc a),agg (enc b)] [] (cE (.bool (decide (a=b))) []))
  (H:bw) (u v:Ε) (A B:List α) (hu:dq H sz u A.length (A.map enc).flatten) (hv:dq H sz v B.length (B.map enc).flatten) (hA:A.length<=9223372036854775806) :
  Spec P f [u,v,.func (.func g) #[] #[]] [.mem H] (cE (.bool (decide (A=B))) [.mem H]):=by
 refine Enzz λW F w hS=>?_;apply vc;unfold P7;refine zo hu (zo hv ?_);refine bZ (λh=>?_) (λh=>?_)
 ·have:A≠B:=λe=>by subst e;exact h rfl
  simp only[this,vvf];(exact cC hS)
 have hl:A.length=B.length:=by omega
 refine⟨λvs w=>∃k:Nat,vs=[Γ k]/\k<=A.length/\A.take k=B.take k/\SL W (.mem H::F) w,λvs _=>match vs with|[.int _ k]=>(A.length-k).toNat|_=>0,⟨0,rfl,by omega,rfl,hS⟩,?_⟩;clear hS;rintro v7 w ⟨k,hv7,hk,rE,hS⟩;cases hv7;refine zo hu ?_;refine bZ (λh=>?_) (λh=>?_)
 ·have nN:k<A.length:=by omega
  have fW:k<B.length:=by omega
  refine yz hS ?_;clear hS;intro w hS;refine zD hS .hd hn hu (x:=A[k]) (by simp[nN]) nN ?_;refine zD hS .hd hn hv (x:=B[k]) (by simp[fW]) fW ?_;refine yg (args':=[agg (enc A[k]),agg (enc B[k])]) hT (one A[k] B[k]) rfl hS .nil ?_;clear hS;rintro v post ⟨rfl,rfl⟩ w hS;(try simp only[app]at hS);refine Gp ?_
  refine zt (λhe=>?_) (λhe=>?_)
  ·have:A≠B:=λe=>by subst e;simp at he
   simp only[this,vvf];(exact cC hS)
  have mc:=zzp he;refine Gp ?_;refine⟨⟨k+1,by simp,by omega,?_,hS⟩,by dsimp only;omega⟩;rw[zze nN,zze fW,rE,mc]
 have:k=A.length:=by omega
 subst this;have:A=B:=by rw[zz4,hl,zz4]at rE;exact rE
 simp only[this,tti];(exact cC hS)
def Kh{α:Type}:∀(xs:List α) (t:Nat) (x:α),xs[t]?=some x->xs.Perm (x::xs.eraseIdx t)
 | [],t,x,h=>by simp at h
 | y::xs,0,x,h=>by simp at h;subst h;exact .refl _
 | y::xs,t+1,x,h=>((Kh xs t x (by simpa using h)).cons y).trans (.swap _ _ _)
def ze{α:Type}(A:α->zB)(xs:List α):zB:=star (xs.map λx=>.ob (A x))
section
variable {W w:Ζ} {l l':Β} {α:Type} {A:α->zB} {xs:List α}
def ze.iff:SL W (.ob (ze A xs)::l) w↔SL W ((xs.map λx=>Chunk.ob (A x))++l) w:=
 ⟨λh=>h.conv (λ_ s=>s),λh=>h.fold (λ_ s=>s)⟩
def ze.take{t:Nat}{x:α}(h:SL W (.ob (ze A xs)::l) w)(hx:xs[t]?=some x):SL W (.ob (A x)::.ob (ze A (xs.eraseIdx t))::l) w:=by
 have h1:=ze.iff.1 h;have p:(xs.map λx=>Chunk.ob (A x)).Perm (.ob (A x)::(xs.eraseIdx t).map λx=>Chunk.ob (A x)):=by
  exact (Kh xs t x hx).map λx=>Chunk.ob (A x)
 have h2:=h1.perm (p.append_right l);have h3:=h2.perm (l':=((xs.eraseIdx t).map λx=>Chunk.ob (A x))++(.ob (A x)::l)) (by simpa using vv2.symm);exact (ze.iff.2 h3).perm (.swap _ _ _)
def ze.put{t:Nat}{y:α}(h:SL W (.ob (A y)::.ob (ze A (xs.eraseIdx t))::l) w)(ht:t<xs.length):SL W (.ob (ze A (xs.set t y))::l) w:=by
 refine ze.iff.2 ?_;have h1:=ze.iff.1 (h.perm (.swap _ _ _));have p:(.ob (A y)::(xs.eraseIdx t).map λx=>Chunk.ob (A x)).Perm ((xs.set t y).map λx=>Chunk.ob (A x)):=by
  have:=(Kh (xs.set t y) t y (by simp[ht])).symm.map λx=>Chunk.ob (A x);rw[List.eraseIdx_set_eq]at this
  exact this
 refine h1.perm ?_;refine (vv2).trans ?_;exact p.append_right l
def ze.nil(h:SL W l w):SL W (.ob (ze A [])::l) w:=ze.iff.2 h
def ze.snoc{x:α}(h:SL W (.ob (ze A xs)::.ob (A x)::l) w):SL W (.ob (ze A (xs++[x]))::l) w:=by
 refine ze.iff.2 ?_;have h1:=ze.iff.1 h;simpa using h1
def bR.one{v:Ε}{t:Ι}{sz n:Nat}{cells:Ξ}(h:SL W (.ob (bR v t sz n cells)::l) w):v.oneCell'=true:=by
 rcases bR.open h with ⟨⟨a,rfl⟩,_⟩|⟨b,cap,rest,rfl,_⟩<;>rfl
def Has.front{c:Μ}(h:SL W l w){l2:Β}(r:gd c l l2):SL W (c::l2) w:=h.perm r.perm
def cAk{κ α:Type}{key:κ->Ε}{val:α->Ε}{p:Nat->Ζ->Prop}(hS:SL W l w)(h:∀b w',SL W (.ob (eE key val b [])::l) w'->p b w'):p w.heap.size (w.alloc (.map #[] 0)):=h _ _ hS.JP
def zz{H:bw}{v:Ε}{t:Ι}{sz n:Nat}{cells:Ξ}{F:Β}(hS:SL W l w)(hp:gC [.mem H,.ob (bR v t sz n cells)] l F):∃H',H.le H'/\dq H' sz v n cells/\SL W (.mem H'::F) w:=bR.freeze (hS.pick hp)
def SL.JT(h:SL W l w):SL W (.mem bw.emp::l) w:=
 ⟨h.os,h.tape,h.output,let ⟨k,s,m⟩:=h.out;⟨k,⟨bw.emp,k,Sep.emp k,rfl,s⟩,m⟩⟩
def Has.rem{c:Μ}(h:Has c l):∃l2,gd c l l2:=by
 induction h with
 | hd=>exact⟨_,.hd⟩
 | tl _ ih=>obtain⟨l2,r⟩:=ih;exact⟨_,.tl r⟩
def bR.at{v:Ε}{t:Ι}{sz n:Nat}{cells:Ξ}(h:SL W l w)(m:Has (.ob (bR v t sz n cells)) l):
  ∃a cap,v= .slice a n cap/\cells.length=n*sz/\∀j,j<n->∃b,a=some ⟨b,0,none⟩/\∀i u,cells[i]?=some u->w.cell? ⟨b,i,none⟩=some u:=by
 obtain⟨l2,r⟩:=m.rem;rcases bR.open (h.perm r.perm) with ⟨⟨a,rfl⟩,rfl,rfl,_⟩|⟨b,cap,rest,rfl,hc,hl,hr,h2⟩
 ·exact⟨a,0,rfl,by simp,λj hj=>by omega⟩
 exact⟨_,cap,rfl,hl,λj hj=>⟨b,rfl,λi u hu=>h2.cell .hd (by rw[zzs (zzf.1 hu).1];exact hu)⟩⟩
def zu{v:Ε}{t:Ι}{sz n:Nat}{cells:Ξ}{K:Ε->Prop}(h:SL W l w)(m:Has (.ob (bR v t sz n cells)) l)(k:K (Γ n)):zd v K:=by
 obtain⟨a,cap,rfl,_⟩:=bR.at h m;exact ye k
def yh{v u:Ε}{t:Ι}{n j:Nat}{k:IntKind}{cells:Ξ}{K:Ε->Prop}(h:SL W l w)(m:Has (.ob (bR v t 1 n cells)) l)(hj:j<n)(hu:cells[j]?=some u)(hK:K u):
  zk 1 v (.int k (j:Int)) λp=>cn p w K:=by
 obtain⟨a,cap,rfl,_,h2⟩:=bR.at h m;obtain⟨b,rfl,h3⟩:=h2 j hj;refine zF hj ⟨_,u,rfl,h3 _ u ?_,hK⟩;rw[yye,vvw];exact hu
def zT{α:Type}{enc:α->Ξ}{v:Ε}{t:Ι}{n sz j:Nat}{k:IntKind}{xs:List α}{x:α}{K:Ε->Prop}(h:SL W l w)(m:Has (.ob (bR v t sz n (xs.map enc).flatten)) l)(hn:∀x,(enc x).length=sz)(hx:xs[j]?=some x)(hj:j<n)(hK:K (agg (enc x))):
  zk sz v (.int k (j:Int)) λp=>zg sz p w K:=by
 obtain⟨a,cap,rfl,_,h2⟩:=bR.at h m;obtain⟨b,rfl,h3⟩:=h2 j hj;refine zF hj ⟨_,enc x,rfl,hn x,λi u hu=>?_,hK⟩;rw[yyd,yye];exact h3 _ u (pP hn xs j i x u hx hu)
def yi{α:Type}{enc:α->Ξ}{v u:Ε}{t:Ι}{n sz j i:Nat}{k:IntKind}{xs:List α}{x:α}{K:Ε->Prop}(h:SL W l w)(m:Has (.ob (bR v t sz n (xs.map enc).flatten)) l)(hn:∀x,(enc x).length=sz)(hx:xs[j]?=some x)(hj:j<n)(hu:(enc x)[i]?=some u)(hK:K u):
  zk sz v (.int k (j:Int)) λp=>zl i p λq=>cn q w K:=by
 obtain⟨a,cap,rfl,_,h2⟩:=bR.at h m;obtain⟨b,rfl,h3⟩:=h2 j hj;refine zF hj (yK ⟨_,u,rfl,?_,hK⟩);rw[yye];exact h3 _ u (pP hn xs j i x u hx hu)
def nk{v:Ε}{t:Ι}{sz n:Nat}{cells:Ξ}(h:SL W l w)(m:Has (.ob (bR v t sz n cells)) l):kJ w sz v n cells:=by
 obtain⟨a,cap,rfl,h1,h2⟩:=bR.at h m;rcases yyu n with rfl|hn
 ·have:cells=[]:=zzl (by simpa using h1);subst this;cases a with
  | none=>exact⟨rfl,rfl⟩
  | some p=>exact⟨rfl,by simp,λj v e=>by simp at e⟩
 obtain⟨b,rfl,h3⟩:=h2 0 hn;exact⟨rfl,h1,λj v e=>by rw[yyd,yye];exact h3 j v e⟩
end
def dt(v:Ε)(t:Ι)(sz n:Nat)(cells:Ξ):zB:=jK λx:Option (Nat × Ξ × Nat × Ξ)=>match x with
 | none=>zG ((∃a,v= .slice a 0 0)/\n=0/\cells=[]) []
 | some (b,pre,cap,rest)=>zG (v= .slice (some ⟨b,pre.length,none⟩) n cap/\n<=cap/\cells.length=n*sz/\rest.length=(cap-n)*sz) [.pt b (pre++(cells++rest)) t]
section
variable {W w:Ζ} {l:Β} {v:Ε} {t:Ι} {sz n:Nat} {cells:Ξ}
def dt.open(h:SL W (.ob (dt v t sz n cells)::l) w):
  ((∃a,v= .slice a 0 0)/\n=0/\cells=[]/\SL W l w)\/∃b pre cap rest,v= .slice (some ⟨b,pre.length,none⟩) n cap/\n<=cap/\cells.length=n*sz/\rest.length=(cap-n)*sz/\SL W (.pt b (pre++(cells++rest)) t::l) w:=by
 unfold dt at h;obtain⟨x,h⟩:=SL.ex.1 h
 match x,h with
 | none,h=>
  obtain⟨⟨h1,h2,h3⟩,h⟩:=SL.fact.1 h;exact .inl ⟨h1,h2,h3,h⟩
 | some (b,pre,cap,rest),h=>
  obtain⟨⟨h1,h2,h3,h4⟩,h⟩:=SL.fact.1 h;exact .inr ⟨b,pre,cap,rest,h1,h2,h3,h4,h⟩
def dt.rJ{a:Option Addr}(h:SL W l w):SL W (.ob (dt (.slice a 0 0) t sz 0 [])::l) w:=by
 unfold dt;exact SL.ex.2 ⟨none,SL.fact.2 ⟨⟨⟨_,rfl⟩,rfl,rfl⟩,h⟩⟩
def dt.mk{b cap o:Nat}{pre rest:Ξ}(h1:n<=cap)(h2:cells.length=n*sz)(h3:rest.length=(cap-n)*sz)(ho:pre.length=o)(h:SL W (.pt b (pre++(cells++rest)) t::l) w):
  SL W (.ob (dt (.slice (some ⟨b,o,none⟩) n cap) t sz n cells)::l) w:=by
 subst ho;unfold dt;exact SL.ex.2 ⟨some (b,pre,cap,rest),SL.fact.2 ⟨⟨rfl,h1,h2,h3⟩,h⟩⟩
def dt.of(h:SL W (.ob (bR v t sz n cells)::l) w):SL W (.ob (dt v t sz n cells)::l) w:=by
 rcases bR.open h with ⟨⟨a,rfl⟩,rfl,rfl,hS⟩|⟨b,cap,rest,rfl,hc,hl,hr,hS⟩
 ·exact dt.rJ hS
 exact dt.mk (pre:=[]) hc hl hr rfl (by simpa using hS)
def dt.at(h:SL W l w)(m:Has (.ob (dt v t sz n cells)) l):∃a cap,v= .slice a n cap/\n<=cap/\cells.length=n*sz:=by
 obtain⟨l2,r⟩:=m.rem;rcases dt.open (h.perm r.perm) with ⟨⟨a,rfl⟩,rfl,rfl,_⟩|⟨b,pre,cap,rest,rfl,hc,hl,_⟩
 ·exact⟨a,0,rfl,zzj _,by simp⟩
 exact⟨_,cap,rfl,hc,hl⟩
def dt.one(h:SL W l w)(m:Has (.ob (dt v t sz n cells)) l):v.oneCell'=true:=by
 obtain⟨a,cap,rfl,_⟩:=dt.at h m;rfl
def zJ{K:Ε->Prop}(h:SL W l w)(m:Has (.ob (dt v t sz n cells)) l)(k:K (Γ n)):zd v K:=by
 obtain⟨a,cap,rfl,_⟩:=dt.at h m;exact ye k
def y1{j:Nat}{k:IntKind}{K:Ε->Prop}(h:SL W l w)(m:Has (.ob (dt v t sz n cells)) l)(hj:j<n)
  (hK:∀b o,(∀i u,i<sz->cells[j*sz+i]?=some u->w.cell? ⟨b,o+i,none⟩=some u)->K (.pointer (some ⟨b,o,none⟩))):zk sz v (.int k (j:Int)) K:=by
 obtain⟨l2,r⟩:=m.rem;rcases dt.open (h.perm r.perm) with ⟨⟨a,rfl⟩,rfl,rfl,_⟩|⟨b,pre,cap,rest,rfl,hc,hl,hr,hS⟩
 ·omega
 refine zF hj (hK b (pre.length+j*sz) λi u hi hu=>hS.cell .hd ?_);rw[vvh,yyb (by omega),wwf,zzs (zzf.1 hu).1];exact hu
def Yd{k:Nat}{kk:IntKind}{K:Ε->Prop}(hS:SL W (.ob (dt v t sz n cells)::l) w)(hk:k<=n)(hK:∀u,SL W (.ob (dt u t sz (n-k) (cells.drop (k*sz)))::l) w->K u):fp sz v (some (.int kk (k:Int))) none none K:=by
 rcases dt.open hS with ⟨⟨a,rfl⟩,rfl,rfl,gE⟩|⟨b,pre,cap,rest,rfl,hc,hl,hr,gE⟩
 ·obtain rfl:k=0:=by omega
  refine⟨a,0,0,0,0,0,rfl,rfl,rfl,⟨kk,rfl⟩,zzj _,zzj _,zzj _,?_⟩;rw[zzd rfl];exact hK _ (by simpa using dt.rJ (t:=t) (sz:=sz) (a:=a) gE)
 refine⟨_,n,cap,k,n,cap,rfl,rfl,rfl,⟨kk,rfl⟩,hk,hc,zzj _,hK _ ?_⟩;by_cases e:cap=k
 ·obtain rfl:n=k:=by omega
  rw[zzd e,Nat.sub_self,show cap-n=0 by omega,yy6 (by omega)];exact dt.rJ gE.drop
 rw[zzb e];have de:k*sz<=cells.length:=by rw[hl];exact yyy _ hk
 have e1:(some (⟨b,pre.length,none⟩:Addr)).map (·.add (k*sz))=some ⟨b,pre.length+k*sz,none⟩:=by simp[yyd]
 rw[e1];refine dt.mk (pre:=pre++cells.take (k*sz)) (rest:=rest) (by omega) (by rw[zzq,hl,wwo]) (by rw[hr];congr 1;omega) (by rw[zza,zzg];omega) ?_;rw[zzk,<- zzk (cells.take (k*sz)),yyk];exact gE
def ZP{x y:Ε}{hU m:Nat}{z cs:Ξ}{F:Β}{K:Ε->Ζ->Prop}(hS:SL W l w)(hr:gd (.ob (dt x t sz n cells)) l F)(gU:kJ w sz y m cs)
  (hl:cs.length=m*sz) (hz:z.length=sz) (h1:∀v∈cs,v.oneCell'=true) (hb:(n+m)*hU<=140737488355328) (hn:n+m<=140737488355328)
  (h:∀v' w',SL W (.ob (dt v' t sz (n+m) (cells++cs))::F) w'->K v' w'):zx sz hU z t x y w K:=by
 rcases dt.open (hS.perm hr.perm) with ⟨⟨a,rfl⟩,rfl,rfl,gE⟩|⟨b,pre,cap,rest,rfl,hc,hlen,jP,gE⟩
 ·refine⟨a,0,0,m,cs,rfl,gU,hb,hn,λh0=>?_,λh0=>⟨[],(by cases a with|none=>exact⟨rfl,rfl⟩|some p=>exact⟨rfl,by simp,λj v e=>by simp at e⟩),λc gF jY=>?_⟩⟩
  ·have hm:m=0:=by omega
   subst hm;have:cs=[]:=zzl (by simpa using hl);subst this;cases a with
   | none=>exact h _ _ (dt.rJ gE)
   | some p=>exact h _ _ (dt.rJ gE)
  refine h _ _ ?_;have:=dt.mk (sz:=sz) (n:=0+m) (cells:=cs) (pre:=[]) (rest:=cK z (c-(0+m))) (cap:=c) gF (by simpa using hl) (by rw[lV,hz]) rfl (SL.new (cs:=[]++(cs++cK z (c-(0+m)))) (t:=t) (gE.drew));simpa using this
 refine⟨some ⟨b,pre.length,none⟩,n,cap,m,cs,rfl,gU,hb,hn,λh0=>?_,λh0=>?_⟩
 ·have oA:cs.length<=rest.length:=by
   rw[hl,jP];exact yyy _ (by omega)
  show tV (Addr.add ⟨b,pre.length,none⟩ (n*sz)) 0 cs w _;rw[yyd];refine BO (t:=t) cs (pre.length+n*sz) 0 (pre++(cells++rest)) w (.pt b (pre++(cells++rest)) t::F) _ gE .hd (by simp[hlen];omega) h1 (λw' pR=>h _ _ ?_);have e:p6 (pre++(cells++rest)) (pre.length+n*sz+0) cs=pre++((cells++cs)++rest.drop cs.length):=by
   rw[show pre.length+n*sz+0=(pre++cells).length by rw[zza];omega,<- zzk,We oA];simp
  rw[e]at pR
  exact dt.mk (n:=n+m) (cells:=cells++cs) (rest:=rest.drop cs.length) h0 (by simp[hlen,hl,yyx]) (by
   rw[zzq,jP,hl,<- wwo];congr 1;omega) rfl pR
 refine⟨cells,⟨rfl,hlen,λj v e=>?_⟩,λc gF jY=>h _ _ ?_⟩
 ·rw[yyd];refine gE.cell .hd ?_;rw[yyb (by omega),wwf,zzs (zzf.1 e).1];exact e
 have:=dt.mk (sz:=sz) (n:=n+m) (cells:=cells++cs) (pre:=[]) (rest:=cK z (c-(n+m))) (cap:=c) gF (by simp[hlen,hl,yyx]) (by rw[lV,hz]) rfl (SL.new (cs:=[]++((cells++cs)++cK z (c-(n+m)))) (t:=t) (gE.drop.drew));simpa using this
def dt.block(hS:SL W (.ob (dt v t sz n cells)::l) w)(hn:0<n):∃b pre cap rest,v= .slice (some ⟨b,pre.length,none⟩) n cap/\n<=cap/\cells.length=n*sz/\rest.length=(cap-n)*sz/\SL W (.pt b (pre++(cells++rest)) t::l) w:=by
 rcases dt.open hS with ⟨_,h0,_⟩|h
 ·omega
 exact h
end
