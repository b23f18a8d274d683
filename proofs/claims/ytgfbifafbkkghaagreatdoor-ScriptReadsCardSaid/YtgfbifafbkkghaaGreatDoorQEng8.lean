/- Part. -/
import Derived.Test.YtgfbifafbkkghaaGreatDoorQEng4
namespace Go.Proofs.YtgfbifafbkkghaaGreatDoor
set_option linter.all false
open Go.RowKit
def zzg:=@List.length_cons
def yya:=@List.drop_eq_getElem_cons
def yyk:=@List.take_append_drop
def xxw:=@List.foldl_cons
def yy2:=@List.take_length_add_append
def yy3:=@List.drop_length_add_append
def zzj:=@List.map_cons
def xxv:=@Prod.mk.injEq
def zzo:=@decide_eq_true_eq
def wwq:=@if_false
def xxj:=@List.map_map
def zz1:=@List.mem_map
def zzf:=@List.getElem?_eq_some_iff
def vvj:=@if_true
def zzd:=@if_pos
def zzb:=@if_neg
section
variable {P:Program} {w:Ζ} {K:Ε->Ζ->Prop}
def Of(off:Nat):∀(vs:Ξ) (k:Nat) (cells:Ξ),off+k+vs.length<=cells.length ->
  (vs.zipIdx k).foldl (λcs (p:Ε × Nat)=>cs.set (off+p.2) p.1) cells=cells.take (off+k)++vs++cells.drop (off+k+vs.length)
 | [],k,cells,h=>by simp
 | v::r,k,cells,h=>by
  simp only[zzg]at h;obtain⟨A,x,B,rfl,hA⟩:∃A x B,cells=A++x::B/\A.length=off+k:=by
   refine⟨cells.take (off+k),cells[off+k]'(by omega),cells.drop (off+k+1),?_,by simp;omega⟩;rw[<- yya,yyk]
  have f':off+k=A.length:=hA.symm;rw[List.zipIdx_cons,xxw,Of off r (k+1) _ (by simp at h ⊢;omega)];have e1:(A++x::B).set (off+k) v=A++v::B:=by rw[f'];simp
  have e2:(A++v::B).take (off+(k+1))=A++[v]:=by rw[show off+(k+1)=A.length+1 by omega,yy2];simp
  have e3:(A++v::B).drop (off+(k+1)+r.length)=B.drop r.length:=by rw[show off+(k+1)+r.length=A.length+(r.length+1) by omega,yy3];simp
  have e4:(A++x::B).take (off+k)=A:=by rw[f'];simp
  have e5:(A++x::B).drop (off+k+(r.length+1))=B.drop r.length:=by rw[f',yy3];simp
  simp only[zzg]at *
  rw[e1,e2,e3,e4,e5];simp
def S7(vs cells:Array Ε)(off:Nat)(h:off+vs.size<=cells.size):
  vs.zipIdx.foldl (λcs (p:Ε × Nat)=>cs.setIfInBounds (off+p.2) p.1) cells=(cells.toList.take off++vs.toList++cells.toList.drop (off+vs.size)).toArray:=by
 have h1:∀(l:List (Ε × Nat)) (c:Array Ε),(l.foldl (λcs (p:Ε × Nat)=>cs.setIfInBounds (off+p.2) p.1) c).toList=l.foldl (λcs (p:Ε × Nat)=>cs.set (off+p.2) p.1) c.toList:=by
  intro l;induction l with
  | nil=>intro c;rfl
  | cons x r ih=>intro c;rw[xxw,xxw,ih];simp
 have h2:=Of off vs.toList 0 cells.toList (by simpa using h);apply Array.toList_inj.1;rw[<- Array.foldl_toList,h1,Array.toList_zipIdx,h2];simp
def fill_eq(place:Nat->Option (Nat × Nat)):∀(ps:List (Nat × Ε)) (l:List (Nat × Nat × Ε)) (z cells:Ξ),
  (ps.map λp=>(place p.1,p.2))=(l.map λq=>(some (q.1,q.2.1),q.2.2))->eV z l=some cells->Instr.fill place z.toArray ps=some cells.toArray
 | [],[],z,cells,_,h=>by simp[eV]at h;subst h;rfl
 | [],_::_,z,cells,hm,h=>by simp at hm
 | _::_,[],z,cells,hm,h=>by simp at hm
 | (i,v)::ps,(off,size,u)::l,z,cells,hm,h=>by
  simp only[zzj,List.cons.injEq,xxv]at hm;obtain⟨⟨hp,rfl⟩,hm⟩:=hm;simp only[eV]at h;split at h
  ·rename_i hc;obtain⟨h1,h2⟩:=hc;rw[Instr.fill,hp];have h3:¬(v.cells.size≠size\/off+v.cells.size>z.length):=by omega
   have T5:=S7 v.cells z.toArray off (by simp;omega);simp only[Bool.or_eq_true,zzo,List.size_toArray,h3,wwq];rw[T5,<- fill_eq place ps l _ cells hm h,h1]
  cases h
def J8:∀(fs:List Field) (l:List (Nat × Nat)),sW P fs=some l->(fs.mapM λf=>do pure (f.offset,<- sizeOf f.type):Sem (List (Nat × Nat))).run P w= .ok l w
 | [],l,h=>by simp[sW]at h;subst h;simp
 | f::r,l,h=>by
  simp only[sW]at h;split at h
  ·rename_i n hn;split at h
   ·rename_i l' hl;cases h;have ih:=J8 r l' hl;simp only[bind_pure_comp]at ih;simp[List.mapM_cons,run_sizeOf hn,ih]
   cases h
  cases h
def DZ(pl:List (Nat × Nat))(ev:Operand->Ε):∀(ps:List (Nat × Operand)) (l:List (Nat × Nat × Ε)),mm pl ev ps=some l ->
  ((ps.map λp=>(p.1,ev p.2)).map λp=>(pl[p.1]?,p.2))=(l.map λq=>(some (q.1,q.2.1),q.2.2))
 | [],l,h=>by simp[mm]at h;subst h;rfl
 | (i,x)::r,l,h=>by
  simp only[mm]at h;split at h
  ·rename_i off n hi;split at h
   ·rename_i l' hl;cases h;simp[hi,DZ pl ev r l' hl]
   cases h
  cases h
def P'{t:Ι}{fields:Array Field}{i:TypeInfo}{v:Ε}{pl:List (Nat × Nat)}{ps:Array (Nat × Operand)}{ev:Operand->Ε}{l:List (Nat × Nat × Ε)}
  (ht:P.underlying t=some (.struct fields)) (hi:P.info? t=some i) (hv:i.zero=some v) (gn:sW P fields.toList=some pl) (hl:mm pl ev ps.toList=some l)
  (h:zp v.cells.toList l λv=>K v w):dt P (do pure (.value (<- Instr.build t (ps.map λ(i,x)=>(i,ev x))))) w K:=by
 obtain⟨cells,hc,hk⟩:=h;refine .value ?_ hk;have h1:(fields.mapM λf=>do pure (f.offset,<- sizeOf f.type):Sem (Array (Nat × Nat))).run P w= .ok pl.toArray w:=by
  rw[Array.mapM_eq_mapM_toList,Sem.run_map,J8 _ _ gn];rfl
 have h2:=fill_eq (λj=>pl[j]?) (ps.toList.map λp=>(p.1,ev p.2)) l _ cells (by simpa using DZ pl ev _ _ hl) hc;rw[Array.toArray_toList]at h2
 simp only[Instr.build,Sem.run_bind,tT hi hv,zzu ht,Result.andThen_ok,h1,Array.toList_map];have h3:(λx:Nat=>(pl.toArray[x]?:Option (Nat × Nat)))=λj=>pl[j]?:=by funext j;simp
 rw[h3,h2];rfl
def P9{t e:Ι}{i:TypeInfo}{v:Ε}{len n:Nat}{ps:Array (Nat × Operand)}{ev:Operand->Ε}{l:List (Nat × Nat × Ε)}
  (ht:P.underlying t=some (.slice e)) (hi:P.info? e=some i) (hv:i.zero=some v) (hn:iH P e=some n) (hz:n=v.cells.toList.length) (hle:len*n<=16777216)
  (hl:mm ((List.range len).map λi=>(i*n,n)) ev ps.toList=some l) (h:zk (bq v.cells.toList len) l e len w K) :
  dt P (do pure (.value (<- Instr.buildSlice t len (ps.map λ(i,x)=>(i,ev x))))) w K:=by
 obtain⟨cells,hc,hk⟩:=h;refine .value ?_ hk;have hlen:∀(ps:List (Nat × Operand)) (l:List (Nat × Nat × Ε)),mm ((List.range len).map λi=>(i*n,n)) ev ps=some l ->
   ((ps.map λp=>(p.1,ev p.2)).map λp=>(some (p.1*n,n),p.2))=(l.map λq=>(some (q.1,q.2.1),q.2.2)):=λps l h=>by
  have:=DZ _ ev ps l h;rw[<- this];rw[xxj,xxj];have jl:∀p∈ps,p.1<len:=by
   intro p hp;have hm:(((List.range len).map λi=>(i*n,n))[p.1]?,ev p.2)∈((ps.map λp=>(p.1,ev p.2)).map λp=>(((List.range len).map λi=>(i*n,n))[p.1]?,p.2)):=by
    simp only[xxj,zz1];exact⟨p,hp,rfl⟩
   rw[this]at hm
   obtain⟨q,_,hq⟩:=zz1.1 hm;simp only[xxv]at hq;have:=(zzf.1 hq.1.symm).1;simpa using this
  refine List.map_congr_left λp hp=>?_;simp[jl p hp]
 have h2:=fill_eq (λi=>some (i*n,n)) (ps.toList.map λp=>(p.1,ev p.2)) l _ cells (hlen _ _ hl) hc;have U2:n=v.cells.size:=by simpa using hz
 subst U2;have hr:=EH v.cells len;simp only[Instr.buildSlice,Sem.run_bind,zzu ht,Result.andThen_ok,run_sizeOf hn,show ¬len*v.cells.size>2 ^ 24 by omega,wwq];by_cases h0:len*v.cells.size=0
 ·have U0:bq v.cells.toList len=[]:=zzm (by rw[jS];simpa using h0);rw[U0]at h2
  have UA:(Array.range 0).map (λi=>(#[]:Array Ε)[i % (#[]:Array Ε).size]!) = #[]:=Array.eq_empty_of_size_eq_zero (by simp);simp only[h0,vvj,pure_bind,UA,Array.toList_map];rw[show ([]:Ξ).toArray = #[] from rfl]at h2
  rw[h2];rfl
 simp only[h0,wwq,pure_bind,Sem.run_bind,tT hi hv,Result.andThen_ok,hr,Array.toList_map];rw[h2];rfl
end
open Go.RowKit
section
variable {P:Program} {w:Ζ} {K:Ε->Ζ->Prop}
def Eg{sz n:Nat}{y:Ε}{cs:Ξ}{w':Ζ}(h:il w sz y n cs)(hw:∀a,w'.cell? a=w.cell? a):
  (Builtin.firstCells sz n y).run P w'= .ok cs.toArray w'/\(Builtin.lenOf y).run P w'= .ok n w':=by
 unfold il at h;split at h
 ·obtain⟨rfl,h1,h2⟩:=h;exact⟨run_firstCells_some w' sz n _ _ _ cs h1 (λj v hj=>by rw[hw];exact h2 j v hj),rfl⟩
 ·obtain⟨rfl,rfl⟩:=h;exact⟨run_firstCells_none w' sz n _ _,rfl⟩
 ·rename_i s;obtain⟨rfl,rfl⟩:=h;refine⟨?_,rfl⟩;have:(s.extract 0 s.size)=s:=by simp
  simp only[Builtin.firstCells,this,Sem.run_pure,Result.ok.injEq,and_true];apply Array.ext';simp
 cases h
def JT(w:Ζ)(a:Addr):w.drew.cell? a=w.cell? a:=rfl
def Ja{t u e ty:Ι}{d:TypeDesc}{i:TypeInfo}{v:Ε}{x y:Ε}(ht:P.underlying t=some (.slice e))(hu:P.underlying u=some d)(hd:∀k,d≠.int k)
  (hi:P.info? e=some i) (hv:i.zero=some v) (hn:iH P e=some v.cells.size)
  (h:zq v.cells.size (o8 P e) v.cells.toList e x y w K):dt P (do pure (.value (<- Builtin.append_ #[t,u] ty #[x,y]))) w K:=by
 obtain⟨a,len,cap,n,cs,rfl,gb,hb,hlen,h1,h2⟩:=h;have ig:o8 P e=i.bytes:=by simp[o8,hi]
 rw[ig]at hb
 obtain⟨r1,r2⟩:=Eg (P:=P) gb (λ_=>rfl);have hz:(underlying u).run P w= .ok d w:=zzu hu w;have hzf:(match d with | .int _=>true|_=>false)=false:=by
  cases d with
  | int k=>exact absurd rfl (hd k)
  | _=>rfl
 by_cases hc:len+n<=cap
 ·have hk:=h1 hc;cases a with
  | none=>
   refine .value ?_ hk;simp only[Builtin.append_,List.getElem?_toArray,List.getElem?_cons_zero,List.getElem?_cons_succ,Sem.run_bind,zzu ht,Result.andThen_ok,run_sizeOf hn,hz,Sem.run_pure,Bool.false_eq_true,wwq,r2,hc,vvj,Bool.not_false,r1]
  | some p=>
   obtain⟨w',hs,hk⟩:=Ei (P:=P) _ _ _ _ _ hk;refine .value ?_ hk;simp only[Builtin.append_,List.getElem?_toArray,List.getElem?_cons_zero,List.getElem?_cons_succ,Sem.run_bind,zzu ht,Result.andThen_ok,run_sizeOf hn,hz,Sem.run_pure,Bool.false_eq_true,wwq,r2,hc,vvj,Bool.not_false,r1,hs]
 obtain⟨nq,ho,hk⟩:=h2 (by omega);have hk:=hk (grownCap w (len+n) cap e) (grownCap_ge _ _ _ _) (by have:=grownCap_le_maxLen w (len+n) cap e (by simp only[maxLen];omega);simpa [maxLen] using this);obtain⟨q1,_⟩:=Eg (P:=P) gb (JT w);obtain⟨q2,_⟩:=Eg (P:=P) (w':=w.drew) ho (JT w);refine .value ?_ hk;have hm:¬(((len+n:Nat):Int)>IntKind.i64.max/\(False\/i.bytes=0)):=by
  intro hh;have:IntKind.i64.max=9223372036854775807:=rfl;omega
 have lH:=growslice_fits (bytes:=i.bytes) (show cap<len+n by omega) hb;have T2:¬(Builtin.nextslicecap (len+n) cap*i.bytes>2 ^ 48):=by simpa using lH
 have Dl:Builtin.zeroCells v.cells (grownCap w (len+n) cap e-(len+n))=(bq v.cells.toList (grownCap w (len+n) cap e-(len+n))).toArray:=EH v.cells _;have UP:∀w,(typeInfo e).run P w= .ok i w:=λw=>by simp[typeInfo,hi]
 have z_:nq.toArray++cs.toArray++(bq v.cells.toList (grownCap w (len+n) cap e-(len+n))).toArray=(nq++cs++bq v.cells.toList (grownCap w (len+n) cap e-(len+n))).toArray:=by simp
 simp only[Builtin.append_,List.getElem?_toArray,List.getElem?_cons_zero,List.getElem?_cons_succ,Sem.run_bind,zzu ht,Result.andThen_ok,run_sizeOf hn,hz,Sem.run_pure,Bool.false_eq_true,wwq,r2,hc,Bool.not_false,vvj,UP,hm,T2,
  run_choose,Question.forced,run_askRoom]
 show ((Builtin.firstCells v.cells.size len _).run P w.drew).andThen _=_;rw[q2];simp only[Result.andThen_ok];show ((Builtin.firstCells v.cells.size n _).run P w.drew).andThen _=_;rw[q1];simp only[Result.andThen_ok,tT hi hv];show ((newRow e (nq.toArray++cs.toArray++Builtin.zeroCells v.cells (grownCap w (len+n) cap e-(len+n)))).run P w.drew).andThen _=_;rw[Dl,z_];rfl
def Jp{T:List Bool}(hT:Calls.lx P T){f:FuncId}{first captured args:Ξ}(hf:T.getD f false=true)(h:zL P f (first++args++captured) w K):
  dt P (do let d <- Deferred.ofValue (.func (.func f) first.toArray captured.toArray) args.toArray;invoke d.target d.args) w K:=by
 obtain⟨fn,h1,h2,h3⟩:=hT f hf;refine .inr (.inr ⟨f,(first++args++captured).toArray,?_,h⟩);have e1:first.toArray++args.toArray++captured.toArray=(first++args++captured).toArray:=by simp
 simp only[Deferred.ofValue,invoke,callFunc,pure_bind,Sem.run_bind,run_program,Result.andThen_ok,h1,h2,h3,Bool.false_eq_true,wwq,e1];rfl
def XA{f:FuncId}{args:Ξ}(h:wE P f args w K):dt P (do let d <- Deferred.ofValue (.func (.func f) #[] #[]) args.toArray;invoke d.target d.args) w K:=by
 obtain⟨v,w',h1,h2⟩:=h;refine .inl ⟨v,w',?_,h2⟩;have e:(#[]:Array Ε)++args.toArray ++ #[]=args.toArray:=by simp
 simp only[Deferred.ofValue,invoke,pure_bind,e,h1]
def ca:Op->List Operand
 | .alloc _=>[]
 | .move x | .assign x | .box _ x | .load _ x | .nilCheck x | .unOp _ _ x | .convert _ _ x | .fieldAddr _ x _ | .field _ x _ | .extract x _=>[x]
 | .pick c a b=>[c,a,b]
 | .build _ ps | .buildSlice _ _ ps=>ps.toList.map (·.2)
 | .store _ a v | .binOp _ _ a v _ | .makeSlice _ a v | .indexAddr _ a v | .index _ a v | .lookup _ a v _ | .mapEntry _ a v=>[a,v]
 | .makeFunc _ first captured=>first.toList++captured.toList
 | .slice _ x l h m=>x::(l.toList++h.toList++m.toList)
 | .mapUpdate _ m k v | .entryStore _ m k v | .insert _ m k v=>[m,k,v]
 | .call c=>match c.callee with
  | .value f=>f::c.args.toList
  | _=>c.args.toList
 | _=>[]
def DY{pl:List (Nat × Nat)}{ev ρ:Operand->Ε}:∀(ps:List (Nat × Operand)),(∀x∈ps.map (·.2),ρ x=ev x)->mm pl ρ ps=mm pl ev ps
 | [],_=>rfl
 | (i,x)::r,h=>by
  simp only[mm];rw[DY r (λy hy=>h y (by simp only[zzj,zzv];exact .inr hy)),h x (by simp)]
def Au{ev ρ:Operand->Ε}(xs:Array Operand)(h:∀x∈xs.toList,ρ x=ev x):xs.map ρ=(xs.toList.map ev).toArray:=by
 apply Array.ext';simp only[Array.toList_map];exact List.map_congr_left h
set_option maxHeartbeats 1000000 in
def DR{T:List Bool}(hT:Calls.lx P T){o:Oper}{ρ ev:Operand->Ε}(hF:∀f,ρ (.func f)= .func (.func f) #[] #[])(hρ:∀x∈ca o.op,ρ x=ev x)(h:cQ P T o.op o.type ev w K):dt P (execOp ρ o) w K:=by
 obtain⟨dst,op,ty,pos,after,guard⟩:=o;simp only at h hρ;unfold execOp;cases op with
 | move x=>exact .inl ⟨_,_,rfl,by rw[hρ x (by simp[ca])];exact h⟩
 | assign x=>exact .inl ⟨_,_,rfl,by rw[hρ x (by simp[ca])];exact h⟩
 | alloc e=>
  simp only[cQ]at h;split at h
  ·rename_i z hz;exact Py hz h
  cases h
 | box e x=>
  simp only[cQ]at h;simp only[hρ x (by simp[ca])];split at h
  ·exact Jm (by rw[jC h.1]) h.2
  ·obtain⟨vs,hx,h⟩:=h;exact Jm (by rw[hx];rfl) h
  cases h
 | build t ps=>
  simp only[cQ]at h;split at h
  ·rename_i fields ht;split at h
   ·rename_i z hz;split at h
    ·rename_i pl gn;split at h
     ·rename_i l hl;obtain⟨i,v,hi,hv,rfl⟩:=yw hz;rw[<- DY ps.toList (by simpa [ca] using hρ)]at hl
      exact P' ht hi hv gn hl h
     cases h
    cases h
   cases h
  cases h
 | buildSlice t len ps=>
  simp only[cQ]at h;split at h
  ·rename_i e ht;split at h
   ·rename_i z hz;split at h
    ·rename_i n hn;split at h
     ·rename_i l hl;split at h
      ·rename_i s8 j1;obtain⟨i,v,hi,hv,rfl⟩:=yw hz;rw[<- DY ps.toList (by simpa [ca] using hρ)]at hl
       exact P9 ht hi hv hn (beq_iff.1 s8) (Nat.le_of_ble_eq_true j1) hl h
      cases h
     cases h
    cases h
   cases h
  cases h
 | load t x=>
  simp only[cQ]at h;simp only[hρ x (by simp[ca])];split at h
  ·rename_i ht;exact VS ht h
  ·rename_i n ht;exact V0 ht h
  cases h
 | store t x v=>
  simp only[cQ]at h;simp only[hρ x (by simp[ca]),hρ v (by simp[ca])];split at h
  ·rename_i ht;split at h
   ·rename_i hs;exact aFp ht hs h
   cases h
  ·rename_i n ht;exact aFq ht h
  cases h
 | nilCheck x=>
  obtain⟨a,hx,hk⟩:=h;refine .inl ⟨_,_,?_,hk⟩;simp only[hρ x (by simp[ca]),hx];rfl
 | binOp op t x y u=>
  simp only[cQ]at h;simp only[hρ x (by simp[ca]),hρ y (by simp[ca])];split at h
  ·exact Ji h
  ·exact Ji h
  ·split at h
   ·rename_i hm;exact Su hm h
   cases h
  ·split at h
   ·rename_i hm;exact WJ hm h
   cases h
  ·rename_i d ht;exact Sy ht h
  ·rename_i d ht;exact WK ht h
  cases h
 | unOp op t x=>
  cases op with
  | not=>simp only[hρ x (by simp[ca])];exact WO h
  | neg=>simp only[hρ x (by simp[ca])];exact WI h
  | xor=>simp only[hρ x (by simp[ca])];exact RH h
  | _=>cases h
 | convert s d x=>
  simp only[cQ]at h;simp only[hρ x (by simp[ca])];split at h
  ·rename_i e k hs hd;exact RL hs hd h
  ·rename_i hs hd;exact RM hs hd h
  ·exact h.kL
  ·exact h.kL
  exact dC.kL h
 | makeFunc fn first captured=>
  simp only[cQ]at h;split at h
  ·refine .inl ⟨_,_,rfl,?_⟩;rw[Au first (λx hx=>hρ x (by simp[ca];left;simpa using hx)),Au captured (λx hx=>hρ x (by simp[ca];right;simpa using hx))];exact h
  cases h
 | makeSlice t x y=>
  simp only[cQ]at h;simp only[hρ x (by simp[ca]),hρ y (by simp[ca])];split at h
  ·rename_i e ht;split at h
   ·rename_i z hz;split at h
    ·rename_i n hn;split at h
     ·rename_i hb;obtain⟨i,v,hi,hv,rfl⟩:=yw hz;refine WD ht hi hv (by rw[hn,beq_iff.1 hb];simp) h
     cases h
    cases h
   cases h
  cases h
 | slice t x lo hi mx=>
  have e1:lo.map ρ=lo.map ev:=by cases lo with|none=>rfl|some y=>simp[hρ y (by simp[ca])]
  have e2:hi.map ρ=hi.map ev:=by cases hi with|none=>rfl|some y=>simp[hρ y (by simp[ca])]
  have e3:mx.map ρ=mx.map ev:=by cases mx with|none=>rfl|some y=>simp[hρ y (by simp[ca])]
  simp only[cQ]at h;simp only[hρ x (by simp[ca]),e1,e2,e3];split at h
  ·rename_i e ht;split at h
   ·rename_i n hn;split at h
    ·cases h
    rename_i cU;refine awz ht hn ?_ h;intro hm;cases mx with
    | none=>simp at hm
    | some m=>cases hi with
     | none=>exact absurd rfl (cU m rfl)
     | some y=>rfl
   cases h
  ·rename_i ht;split at h
   ·exact awy ht h
   cases h
  cases h
 | fieldAddr s x f=>
  simp only[cQ]at h;simp only[hρ x (by simp[ca])];split at h
  ·rename_i off hf;exact SU hf h
  cases h
 | indexAddr t x i=>
  simp only[cQ]at h;simp only[hρ x (by simp[ca]),hρ i (by simp[ca])];split at h
  ·rename_i e ht;split at h
   ·rename_i n hn;exact U7 ht hn h
   cases h
  ·rename_i len e ht;split at h
   ·rename_i n hn;exact U6 ht hn h
   cases h
  cases h
 | extract x i=>simp only[hρ x (by simp[ca])];exact SA h
 | field t x f=>simp only[hρ x (by simp[ca])];exact dC.kL h
 | index t x i=>simp only[hρ x (by simp[ca]),hρ i (by simp[ca])];exact dC.kL h
 | lookup t x i ok=>simp only[hρ x (by simp[ca]),hρ i (by simp[ca])];exact dC.kL h
 | mapUpdate t m k x=>
  simp only[hρ m (by simp[ca]),hρ k (by simp[ca]),hρ x (by simp[ca])];obtain⟨v,w',hr,hk⟩:=h;simp only[Sem.run_bind,Sem.run_pure]at hr;cases hm:(Instr.mapUpdate t (ev m) (ev k) (ev x)).run P w with
  | ok u w2=>rw[hm]at hr;cases hr;exact .inr (.inl ⟨w',by simp[hm],hk⟩)
  | halt e w2=>rw[hm]at hr;cases hr
 | insert t m k x=>
  simp only[hρ m (by simp[ca]),hρ k (by simp[ca]),hρ x (by simp[ca])];obtain⟨v,w',hr,hk⟩:=h;simp only[Sem.run_bind,Sem.run_pure]at hr;cases hm:(Instr.mapUpdate t (ev m) (ev k) (ev x)).run P w with
  | ok u w2=>rw[hm]at hr;cases hr;exact .inr (.inl ⟨w',by simp[hm],hk⟩)
  | halt e w2=>rw[hm]at hr;cases hr
 | mapEntry t m k=>simp only[hρ m (by simp[ca]),hρ k (by simp[ca])];exact zR.kL h
 | entryStore t m k x=>
  simp only[hρ m (by simp[ca]),hρ k (by simp[ca]),hρ x (by simp[ca])];obtain⟨v,w',hr,hk⟩:=h;simp only[Sem.run_bind,Sem.run_pure]at hr;cases hm:(Instr.entryStore t (ev m) (ev k) (ev x)).run P w with
  | ok u w2=>rw[hm]at hr;cases hr;exact .inr (.inl ⟨w',by simp[hm],hk⟩)
  | halt e w2=>rw[hm]at hr;cases hr
 | makeMap t r=>
  cases r with
  | none=>exact .inl ⟨_,_,rfl,h⟩
  | some x=>cases h
 | call c=>
  obtain⟨callee,args,ry⟩:=c;cases callee with
  | value g=>
   have ha:args.map ρ=(args.toList.map ev).toArray:=Au args (λx hx=>hρ x (by simp[ca];right;simpa using hx));cases g with
   | func f=>
    simp only[cQ]at h;split at h
    ·rename_i hf;have:=Jp hT (first:=[]) (captured:=[]) hf (by simpa using h);simp only[resolve,ha,hF f];exact this
    simp only[resolve,ha,hF f];exact XA h
   | tmp t=>
    obtain⟨f,first,captured,hg,hf,h⟩:=h;have:=Jp hT hf h;have T6:ρ (.tmp t)=ev (.tmp t):=hρ _ (by simp[ca]);simp only[resolve,ha,T6,hg];simpa using this
   | _=>cases h
  | invoke r m=>cases h
  | builtin b=>
   have ha:args.map ρ=(args.toList.map ev).toArray:=Au args (λx hx=>hρ x (by simpa [ca] using hx));have hb:(do let d <- resolve ρ ⟨.builtin b,args,ry⟩ ty;invoke d.target d.args)=builtin b ry ty (args.map λ| .const _=>true|_=>false) (args.toList.map ev).toArray:=by
    simp only[resolve,ha];rfl
   show dt P (do let d <- resolve ρ ⟨.builtin b,args,ry⟩ ty;invoke d.target d.args) w K;rw[hb];cases b with
   | len=>
    simp only[cQ]at h;split at h
    ·rename_i x t hx ht;have CG:ry = #[t]:=by apply Array.ext';exact ht
     rw[hx];subst CG;split at h
     ·rename_i e hs;exact VI hs h
     ·rename_i hs;exact VK hs h
     exact dC.kL h
    cases h
   | min=>
    simp only[cQ]at h;split at h
    ·rename_i x y hx;rw[hx];exact WA h
    cases h
   | max=>
    simp only[cQ]at h;split at h
    ·rename_i x y hx;rw[hx];exact Wb h
    cases h
   | append=>
    simp only[cQ]at h;split at h
    ·rename_i x y t u hx ht;have CG:ry = #[t,u]:=by apply Array.ext';exact ht
     rw[hx];subst CG;split at h
     ·rename_i e hs;split at h
      ·rename_i z hz;obtain⟨i,v,hi,hv,rfl⟩:=yw hz;split at h
       ·rename_i n hn;split at h
        ·rename_i e' hb hu;have ig:=beq_iff.1 hb;simp at ig;subst ig;exact Ja hs hu (λk hk=>by cases hk) hi hv hn h
        ·rename_i hb hu;have ig:=beq_iff.1 hb;simp at ig;subst ig;exact Ja hs hu (λk hk=>by cases hk) hi hv hn h
        ·exact zR.kL h
        cases h
       cases h
      cases h
     cases h
    cases h
   | copy=>exact h.kL
   | delete=>exact h.kL
   | cap=>exact dC.kL h
   | clear=>exact h.kL
   | _=>cases h
 | _=>cases h
end
open Go.RowKit
def bL(x:Ε)(A B:Prop):Prop:=∃r,x= .bool r/\(r=true->A)/\(r=false->B)
def jD(E:Env)(x:Operand)(e:fu):Env:=match x with
 | .tmp t=>(t,e)::E
 | _=>E
def lh(n:Nat)(E:Env)(d:Option Nat)(x:Option fu)(K:Env->Prop):Prop:=match x with
 | some e=>K (E.put n d e)
 | none=>False
def ny(P:Program)(T:List Bool)(n:Nat)(o:Oper)(E:Env)(w:Ζ)(K:Env->Ζ->Prop):Prop:=
 match o.op with
 | .move x=>lh n E o.dst (E.fa x) λE'=>K E' w
 | .assign x=>lh n E o.dst (E.fa x) λE'=>K E' w
 | .pick c a b=>match E.fa c with
  | some .t=>lh n E o.dst (E.fa a) λE'=>K E' w
  | some .f=>lh n E o.dst (E.fa b) λE'=>K E' w
  | some (.v x)=>bL x (lh n (jD E c .t) o.dst (Env.fa (jD E c .t) a) λE'=>K E' w) (lh n (jD E c .f) o.dst (Env.fa (jD E c .f) b) λE'=>K E' w)
  | some .u=>False
  | none=>False
 | op=>match E.hasAll (ca op) with
  | true=>cQ P T op o.type E.ev w λv w'=>K (E.put n o.dst (.v v)) w'
  | false=>False
def oN(ops:List Oper)(g:Option (Nat × Bool))(E:Env)(run skip:Env->Prop):Prop:=match g with
 | none=>run E
 | some (j,want)=>match (ops[j]?).bind (·.dst) with
  | some g=>match E.get g with
   | some .t=>(match want with|true=>run E|false=>skip E)
   | some .f=>(match want with|true=>skip E|false=>run E)
   | some (.v x)=>bL x (match want with|true=>run ((g,.t)::E)|false=>skip ((g,.t)::E)) (match want with|true=>skip ((g,.f)::E)|false=>run ((g,.f)::E))
   | some .u=>skip E
   | none=>False
  | none=>False
def wa(P:Program)(T:List Bool)(n:Nat)(ops:List Oper)(K:Env->Ζ->Prop):List Oper->Env->Ζ->Prop
 | [],E,w=>K E w
 | o::r,E,w=>oN ops o.guard E (λE'=>ny P T n o E' w λA7 w'=>wa P T n ops K r A7 w') (λE'=>wa P T n ops K r (E'.put n o.dst .u) w)
def fU(W:Α)(a a':Act):Prop:=∀t,t∉W->a'.tmps[t]?=a.tmps[t]?
def fU.refl(W:Α)(a:Act):fU W a a:=λ_ _=>rfl
def fU.trans{W:Α}{a b c:Act}(h:fU W a b)(k:fU W b c):fU W a c:=λt ht=>(k t ht).trans (h t ht)
def fU.mono{W W':Α}{a b:Act}(h:fU W a b)(hw:∀t∈W,t∈W'):fU W' a b:=λt ht=>h t λx=>ht (hw t x)
def fU.put(a:Act)(d:Option Nat)(v:Ε)(W:Α)(hd:∀t,d=some t->t∈W):fU W a (a.put d v):=by
 cases d with
 | none=>exact .refl _ _
 | some d=>
  intro t ht;have:d≠t:=λe=>ht (hd t (by rw[e]));simp[Act.put,Array.getElem?_setIfInBounds_ne this]
def dd.set{X:Α}{n:Nat}{E:Env}{a:Act}(h:dd X n E a){t:Nat}{e:fu}(he:t∉X->a.tmps[t]?=some e.val):dd X n ((t,e)::E) a:=by
 refine⟨h.size,h.defers,λu e' hX hu=>?_⟩;simp only[Env.get]at hu;split at hu
 ·rename_i hb;obtain rfl:=beq_iff.1 hb;cases hu;exact he hX
 exact h.get u e' hX hu
def dd.jD{X:Α}{n:Nat}{E:Env}{a:Act}(h:dd X n E a){x:Operand}{v:Ε}{e:fu}(hx:E.fa x=some (.v v))(hv:e.val=v):dd X n (jD E x e) a:=by
 cases x with
 | tmp t=>exact h.set (λhX=>by rw[hv];exact h.get t _ hX hx)
 | const v=>exact h
 | global g=>exact h
 | func f=>exact h
def tP{X:Α}{n:Nat}{E:Env}{d:Option Nat}{x:Operand}{K:Env->Prop}(h:lh n E d (E.fa x) K){a:Act}(hA:dd X n E a)(hX:ri X x):∃E',dd X n E' (a.put d (a.eval x))/\K E':=by
 unfold lh at h;split at h
 ·rename_i e he;exact⟨_,by rw[hA.fa hX he];exact hA.put d e,h⟩
 cases h
section
variable {P:Program} {T:List Bool} {n:Nat} {X:Α}
def Oy(hT:Calls.lx P T){o:Oper}{E:Env}{w:Ζ}{K:Env->Ζ->Prop}(h:ny P T n o E w K){a:Act}(hA:dd X n E a)(hX:∀x∈ca o.op,ri X x){next:Act->Ζ->Prop}{Q:Exit->Act->Ζ->Prop}
  (hn:∀E' v w',dd X n E' (a.put o.dst v)->K E' w'->next (a.put o.dst v) w'):o.wp P a w next Q:=by
 unfold ny at h;split at h
 ·rename_i x fA;obtain⟨E',h1,h2⟩:=tP h hA (hX x (by simp[fA,ca]));refine dt.upon (K:=λv w'=>∃E',dd X n E' (a.put o.dst v)/\K E' w') (.inl ⟨a.eval x,w,by simp[execOp,fA],E',h1,h2⟩) ?_;rintro v w' ⟨E',h1,h2⟩;exact hn E' v w' h1 h2
 ·rename_i x fA;obtain⟨E',h1,h2⟩:=tP h hA (hX x (by simp[fA,ca]));refine dt.upon (K:=λv w'=>∃E',dd X n E' (a.put o.dst v)/\K E' w') (.inl ⟨a.eval x,w,by simp[execOp,fA],E',h1,h2⟩) ?_;rintro v w' ⟨E',h1,h2⟩;exact hn E' v w' h1 h2
 ·rename_i c x y fA;have key:∀(r:Bool),a.eval c= .bool r->(∃E',dd X n E' (a.put o.dst (if r then a.eval x else a.eval y))/\K E' w)->o.wp P a w next Q:=λr hr h=>by
   refine dt.upon (K:=λv w'=>∃E',dd X n E' (a.put o.dst v)/\K E' w') (.inl ⟨_,w,by simp[execOp,fA,hr,asBool],h⟩) ?_;rintro v w' ⟨E',h1,h2⟩;exact hn E' v w' h1 h2
  split at h
  ·rename_i hc;exact key true (hA.fa (hX c (by simp[fA,ca])) hc) (tP h hA (hX _ (by simp[fA,ca])))
  ·rename_i hc;exact key false (hA.fa (hX c (by simp[fA,ca])) hc) (tP h hA (hX _ (by simp[fA,ca])))
  ·rename_i v hc;obtain⟨r,rfl,h1,h2⟩:=h;cases r with
   | true=>
    exact key true (hA.fa (hX c (by simp[fA,ca])) hc) (tP (h1 rfl) (hA.jD hc rfl) (hX _ (by simp[fA,ca])))
   | false=>exact key false (hA.fa (hX c (by simp[fA,ca])) hc) (tP (h2 rfl) (hA.jD hc rfl) (hX _ (by simp[fA,ca])))
  ·cases h
  cases h
 split at h
 ·rename_i hh;refine dt.upon (DR hT (λ_=>rfl) (λx hx=>hA.ev (hX x hx) (Env.xN hh x hx)) h) ?_;intro v w' hk;exact hn _ v w' (hA.put o.dst (.v v)) hk
 cases h
def Tl{ops:Array Oper}{g:Option (Nat × Bool)}{o:Oper}(hg:o.guard=g){E:Env}{run skip:Env->Prop}(h:oN ops.toList g E run skip){a:Act}(hA:dd X n E a)
  (hX:∀j want s,g=some (j,want)->(ops[j]?).bind (·.dst)=some s->s∉X) :
  ∃E',dd X n E' a/\((Region.wanted o (yielded ops a.tmps)=true/\run E')\/(Region.wanted o (yielded ops a.tmps)=false/\skip E')):=by
 subst hg;unfold oN at h;split at h
 ·rename_i hg;exact⟨E,hA,.inl ⟨by simp[Region.wanted,hg],h⟩⟩
 rename_i j want hg;split at h
 ·rename_i s hs;have hw:∀b,a.tmps[s]?=some (.bool b)->Region.wanted o (yielded ops a.tmps)=(b == want):=λb hb=>by
   simp only[Region.wanted,hg,yielded];rw[show ((ops[j]?).bind (·.dst))=some s by simpa using hs];simp only[Option.bind_some,hb];cases b<;>cases want<;>rfl
  have iR:s∉X:=hX j want s hg (by simpa using hs);split at h
  ·rename_i he;have:=hw true (hA.get _ _ iR he);split at h
   ·exact⟨E,hA,.inl ⟨this,h⟩⟩
   exact⟨E,hA,.inr ⟨this,h⟩⟩
  ·rename_i he;have:=hw false (hA.get _ _ iR he);split at h
   ·exact⟨E,hA,.inr ⟨this,h⟩⟩
   exact⟨E,hA,.inl ⟨this,h⟩⟩
  ·rename_i x he;obtain⟨r,rfl,h1,h2⟩:=h;have hr:=hw r (hA.get _ _ iR he);cases r with
   | true=>
    have h1:=h1 rfl;have f':dd X n ((s,.t)::E) a:=hA.set (λ_=>hA.get s (.v (.bool true)) iR he);split at h1
    ·exact⟨_,f',.inl ⟨hr,h1⟩⟩
    exact⟨_,f',.inr ⟨hr,h1⟩⟩
   | false=>
    have h2:=h2 rfl;have f':dd X n ((s,.f)::E) a:=hA.set (λ_=>hA.get s (.v (.bool false)) iR he);split at h2
    ·exact⟨_,f',.inr ⟨hr,h2⟩⟩
    exact⟨_,f',.inl ⟨hr,h2⟩⟩
  ·rename_i he;have hb:=hA.get _ _ iR he;refine⟨E,hA,.inr ⟨?_,h⟩⟩;simp only[Region.wanted,hg,yielded];rw[show ((ops[j]?).bind (·.dst))=some s by simpa using hs];simp only[Option.bind_some,hb];cases want<;>rfl
  cases h
 cases h
def mU(l:List Oper):Α:=l.filterMap (·.dst)
def DW(hT:Calls.lx P T){ops:Array Oper}{K:Env->Ζ->Prop}{Q:Exit->Act->Ζ->Prop}{W:Α}{a0:Act}(hn:∀E' a' w',dd [] n E' a'->fU W a0 a'->K E' w'->Q .normal a' w'):
  ∀(l:List Oper) (E:Env) (a:Act) (w:Ζ),(∀t∈mU l,t∈W)->fU W a0 a->dd [] n E a->wa P T n ops.toList K l E w->wpList P ops Q l a w
 | [],E,a,w,_,hk,hA,h=>hn E a w hA hk h
 | o::r,E,a,w,hW,hk,hA,h=>by
  unfold wa at h;have hd:∀t,o.dst=some t->t∈W:=λt ht=>hW t (by simp[mU,ht]);have xL:∀t∈mU r,t∈W:=λt ht=>hW t (by
   unfold mU at ht ⊢;rw[List.filterMap_cons];split
   ·exact ht
   exact List.mem_cons_of_mem _ ht)
  obtain⟨E',f',⟨hw,h⟩|⟨hw,h⟩⟩:=Tl rfl h hA (λ_ _ _ _ _ h=>by cases h)
  ·unfold wpList;rw[zzd hw];refine .inl (Oy hT h f' (λx _=>.nil x) ?_);intro E2 v w' kU hK;exact DW hT hn r E2 _ w' xL (hk.trans (fU.put a o.dst v W hd)) kU hK
  unfold wpList;rw[zzb (by rw[hw];exact Bool.false_ne_true)];exact DW hT hn r _ _ w xL (hk.trans (fU.put a o.dst undef W hd)) (f'.put o.dst .u) h
end
inductive Ex where
 | normal
 | exit (id:Nat)
 | ret
def Ex.to:Ex->Exit
 | .normal=>.normal
 | .exit i=>.exit i
 | .ret=>.ret
def oK:Code->Option Nat
 | .region id _ _=>some id
 | .seq a b=>match oK a with
  | some i=>some i
  | none=>oK b
 | .cond _ a b=>match oK a with
  | some i=>some i
  | none=>oK b
 | .block _ c=>oK c
 | .loop c=>oK c
 | .scope c=>oK c
 | _=>none
def wr:Code->Α
 | .region _ ops _=>mU ops.toList
 | .seq a b=>wr a++wr b
 | .cond _ a b=>wr a++wr b
 | .block _ c=>wr c
 | .loop c=>wr c
 | .scope c=>wr c
 | _=>[]
abbrev Marks:=List (Nat × Α × Α)
def Marks.find:Marks->Option Nat->Option (Α × Α)
 | _,none=>none
 | [],_=>none
 | (k,x)::r,some i=>match Nat.beq k i with
  | true=>some x
  | false=>Marks.find r (some i)
def vW(t:Nat):Α->Bool
 | []=>false
 | u::r=>match Nat.beq u t with
  | true=>true
  | false=>vW t r
def uQ(W:Α):Α->Bool
 | []=>true
 | l::r=>match vW l W with
  | true=>false
  | false=>uQ W r
def tA(E R:Env):Α->Env
 | []=>R
 | l::r=>match E.get l with
  | some e=>(l,e)::tA E R r
  | none=>tA E R r
def jQ(E:Env):Α->Option Ξ
 | []=>some []
 | s::r=>match E.get s with
  | some e=>match jQ E r with
   | some vs=>some (e.val::vs)
   | none=>none
  | none=>none
def w7(R:Env):Α->Ξ->Env
 | s::r,v::vs=>(s,.v v)::w7 R r vs
 | _,_=>R
def wW:Nat->(Ξ->Prop)->Prop
 | 0,K=>K []
 | k+1,K=>∀v:Ε,wW k λl=>K (v::l)
def vS:Α->Nat
 | []=>0
 | _::r=>vS r+1
def EE(o:Option Ξ)(K:Ξ->Prop):Prop:=match o with
 | some l=>K l
 | none=>False
def Zf:∀(k:Nat) (K:Ξ->Prop),wW k K->∀l:Ξ,l.length=k->K l
 | 0,K,h,l,hl=>by rw[zzm hl];exact h
 | k+1,K,h,[],hl=>by simp at hl
 | k+1,K,h,v::l,hl=>Zf k _ (h v) l (by simpa using hl)
def Dy:∀l:Α,vS l=l.length
 | []=>rfl
 | _::r=>by simp[vS,Dy r]
def Ew{E:Env}:∀{S:Α} {vs:Ξ},jQ E S=some vs->vs.length=S.length
 | [],vs,h=>by simp[jQ]at h;subst h;rfl
 | s::r,vs,h=>by
  simp only[jQ]at h;split at h
  ·split at h
   ·rename_i t_ hv;cases h;simp[Ew hv]
   cases h
  cases h
def MN{t:Nat}:∀{l:Α},vW t l=true↔t∈l
 | []=>by simp[vW]
 | u::r=>by
  simp only[vW,zzv];split
  ·rename_i h;simp[(beq_iff.1 h).symm]
  rename_i h;have d_:t≠u:=λe=>by rw[beq_iff.2 e.symm]at h;cases h
  rw[MN];simp[d_]
def y0{W:Α}:∀{L:Α},uQ W L=true->∀l∈L,l∉W
 | [],_,l,hl=>by cases hl
 | x::r,h,l,hl=>by
  simp only[uQ]at h;split at h
  ·cases h
  rename_i hm;rcases zzv.1 hl with rfl|hl
  ·intro jl;rw[MN.2 jl]at hm;cases hm
  exact y0 h l hl
def Ap{n:Nat}{E R:Env}{a a':Act}(hA:dd [] n E a)(hR:dd [] n R a'){W:Α}(hk:fU W a a'):∀{L:Α},(∀l∈L,l∉W)->dd [] n (tA E R L) a'
 | [],_=>hR
 | l::r,h=>by
  simp only[tA];split
  ·rename_i e he;exact (Ap hA hR hk (λx hx=>h x (List.mem_cons_of_mem _ hx))).set (λ_=>by rw[hk l (h l (by simp))];exact hA.get l e (by simp) he)
  exact Ap hA hR hk (λx hx=>h x (List.mem_cons_of_mem _ hx))
def BM{n:Nat}{E R:Env}{a:Act}(hA:dd [] n E a)(hR:dd [] n R a):∀{S:Α} {vs:Ξ},jQ E S=some vs->dd [] n (w7 R S vs) a
 | [],vs,h=>by simp[jQ]at h;subst h;exact hR
 | s::r,vs,h=>by
  simp only[jQ]at h;split at h
  ·rename_i e he;split at h
   ·rename_i t_ hv;cases h;exact (BM hA hR hv).set (λ_=>hA.get s e (by simp) he)
   cases h
  cases h
open Go.RowKit
def fe(P:Program):Op->Bool
 | .move _ | .pick .. | .build .. | .nilCheck _ | .unOp .. | .makeFunc .. | .fieldAddr .. | .indexAddr .. | .extract .. | .field .. | .index .. | .lookup .. | .slice .. | .load .. | .binOp ..=>true
 | .convert s d _=>match P.underlying s,P.underlying d with
  | some _,some (.int _)=>true
  | some .string,some .string=>true
  | some .string,some (.slice _)=>false
  | some (.slice _),some (.slice _)=>false
  | _,_=>true
 | .call c=>match c.callee with
  | .builtin .len=>true
  | .builtin .min=>true
  | .builtin .max=>true
  | .builtin .cap=>true
  | _=>false
 | _=>false
def ky(P:Program):Op->Bool
 | .field .. | .index .. | .lookup .. | .load ..=>true
 | .binOp _ t _ _ _=>match P.underlying t with
  | some (.struct _)=>true
  | _=>false
 | .convert s d _=>match P.underlying s,P.underlying d with
  | some _,some (.int _)=>false
  | some .string,some .string=>false
  | _,_=>true
 | .call c=>match c.callee with
  | .builtin .len=>match c.argTypes.toList with
   | [t]=>match P.underlying t with
    | some (.slice _)=>false
    | some .string=>false
    | _=>true
   | _=>true
  | .builtin .cap=>true
  | _=>false
 | _=>false
def mN(acc:Α):List Edge->Nat
 | []=>0
 | e::r=>match Region.binds .any e with
  | true=>mN acc r ||| 2 ^ e.on ||| acc.getD e.on 0
  | false=>mN acc r
def ki:List Oper->Α->Α
 | [],acc=>acc
 | o::r,acc=>ki r (acc++[mN acc o.after.toList])
def idxs(f:Oper->Bool):List Oper->Nat->Α
 | [],_=>[]
 | o::r,k=>match f o with
  | true=>k::idxs f r (k+1)
  | false=>idxs f r (k+1)
def kQ(f:Nat->Bool):Α->Α
 | []=>[]
 | j::r=>match f j with
  | true=>j::kQ f r
  | false=>kQ f r
def r_:Α->Nat
 | []=>0
 | j::r=>2 ^ j ||| r_ r
def uD(f:Nat->Bool):Α->Bool
 | []=>false
 | j::r=>match f j with
  | true=>true
  | false=>uD f r
def p'(a b:Nat):Bool:=Nat.beq (Nat.land a b) a
structure RS where
 ops:List Oper
 B:Α
 dY:Α
 nL:Α
 cm:Nat
def dx(P:Program)(ops:List Oper):RS:=
 let dY:=idxs (λo=>!fe P o.op) ops 0
 {ops,B:=ki ops [],dY,nL:=idxs (λo=>fe P o.op) ops 0,cm:=r_ dY}
def RS.enabled(R:RS)(done j:Nat):Bool:=p' (Nat.land (R.B.getD j 0) R.cm) done
def RS.v_(R:RS)(done j:Nat):Bool:=uD (λc=>match Nat.testBit done c with
 | true=>Nat.testBit (R.B.getD c 0) j
 | false=>false) R.dY
def NJ(P:Program)(T:List Bool)(o:Oper)(E:Env)(w:Ζ)(R:Prop):Prop:=match o.dst with
 | some d=>match E.get d with
  | some e=>cQ P T o.op o.type E.ev w λv _=>v=e.val/\R
  | none=>False
 | none=>False
def tQ(P:Program)(T:List Bool)(ops:List Oper)(E:Env)(w:Ζ)(R:Prop):Α->Prop
 | []=>R
 | j::r=>match ops[j]? with
  | some o=>oN ops o.guard E (λ_=>NJ P T o E w (tQ P T ops E w R r)) (λ_=>tQ P T ops E w R r)
  | none=>False
def sZ(P:Program)(T:List Bool)(n:Nat)(ops:List Oper)(w:Ζ)(K:Env->Prop):Α->Env->Prop
 | [],E=>K E
 | j::r,E=>match ops[j]? with
  | some o=>oN ops o.guard E (λE'=>ny P T n o E' w λA7 _=>sZ P T n ops w K r A7) (λE'=>sZ P T n ops w K r (E'.put n o.dst .u))
  | none=>False
def wX(F:Nat->Prop):Α->Prop
 | []=>False
 | [c]=>F c
 | c::r=>F c/\wX F r
def RS.go(R:RS)(P:Program)(T:List Bool)(n:Nat)(K:Env->Ζ->Prop):Nat->Nat->Nat->Env->Ζ->Prop
 | 0,_,_,_,_=>False
 | k+1,done,en,E,w=>
  tQ P T R.ops E w
   (sZ P T n R.ops w (λE'=>
     match p' R.cm done with
     | true=>K E' w
     | false=>wX (λc=>match R.ops[c]? with
       | some o=>oN R.ops o.guard E' (λE2=>ny P T n o E2 w λE3 w3=>RS.go R P T n K k (done ||| 2 ^ c) (en ||| r_ (kQ (λj=>R.enabled done j) R.nL)) E3 w3)
         (λE2=>RS.go R P T n K k (done ||| 2 ^ c) (en ||| r_ (kQ (λj=>R.enabled done j) R.nL)) (E2.put n o.dst .u) w)
       | none=>False)
      (kQ (λc=>!Nat.testBit done c && R.enabled done c) R.dY))
    (kQ (λj=>!Nat.testBit en j && R.enabled done j) R.nL) E)
   (kQ (λj=>Nat.testBit en j && !R.v_ done j && (match R.ops[j]? with|some o=>ky P o.op|none=>false)) R.nL)
def r7{α:Type}:List α->Nat
 | []=>0
 | _::r=>r7 r+1
def B4(P:Program)(T:List Bool)(n:Nat)(ops:List Oper)(K:Env->Ζ->Prop)(E:Env)(w:Ζ):Prop:=
 (dx P ops).go P T n K (r7 (dx P ops).dY+1) 0 0 E w
def looks(ops:List Oper)(o:Oper):Α:=
 ((ca o.op).filterMap λx=>match x with | .tmp t=>some t|_=>none)++(match o.guard with|some (j,_)=>((ops[j]?).bind (·.dst)).toList|none=>[])
def AQ(P:Program)(n:Nat)(ops:List Oper)(draw:Bool):Bool:=match draw with
 | false=>true
 | true=>
  let R:=dx P ops
  (List.range ops.length).all λi=>match ops[i]? with
   | some oi=>(oi.dst.toList.all λd=>decide (d<n)) && (oi.after.toList.all λe=>!Region.binds .any e || decide (e.on<i)) &&
    (fe P oi.op == false || !((oi.dst.toList).any λd=>(looks ops oi).contains d)) &&
    (List.range ops.length).all λj=>match ops[j]? with
     | some oj=>match oj.dst with
      | some d=>i == j || ((!fe P oj.op || oi.dst != some d) &&
        (!(looks ops oi).contains d || (R.B.getD i 0).testBit j || (!fe P oj.op && (R.B.getD j 0).testBit i)))
      | none=>true
     | none=>true
   | none=>true
