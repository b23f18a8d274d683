/- Part. -/
import Derived.Test.YtmkllimamejcgaaGreatQEng4
namespace Go.Proofs.YtmkllimamejcgaaGreat
set_option linter.all false
open Go.RowKit
def zzi:=@List.length_cons
def yyq:=@List.drop_eq_getElem_cons
def yyk:=@List.take_append_drop
def xxo:=@List.foldl_cons
def xxy:=@List.take_length_add_append
def xxd:=@List.drop_length_add_append
def zzo:=@List.map_cons
def wwi:=@Prod.mk.injEq
def zzw:=@decide_eq_true_eq
def wwb:=@if_false
def xxj:=@List.map_map
def zzx:=@List.mem_map
def zzf:=@List.getElem?_eq_some_iff
def wwj:=@if_true
def xxe:=@Bool.false_eq_true
def zzd:=@if_pos
def zzb:=@if_neg
section
variable {P:Program} {w:Ζ} {K:Ε->Ζ->Prop}
def W5(off:Nat):∀(vs:Ξ) (k:Nat) (cells:Ξ),off+k+vs.length<=cells.length ->
  (vs.zipIdx k).foldl (λcs (p:Ε × Nat)=>cs.set (off+p.2) p.1) cells=cells.take (off+k)++vs++cells.drop (off+k+vs.length)
 | [],k,cells,h=>by simp
 | v::r,k,cells,h=>by
  simp only[zzi]at h;obtain⟨A,x,B,rfl,hA⟩:∃A x B,cells=A++x::B/\A.length=off+k:=by
   refine⟨cells.take (off+k),cells[off+k]'(by omega),cells.drop (off+k+1),?_,by simp;omega⟩;rw[<- yyq,yyk]
  have iZ:off+k=A.length:=hA.symm;rw[List.zipIdx_cons,xxo,W5 off r (k+1) _ (by simp at h ⊢;omega)];have e1:(A++x::B).set (off+k) v=A++v::B:=by rw[iZ];simp
  have e2:(A++v::B).take (off+(k+1))=A++[v]:=by rw[show off+(k+1)=A.length+1 by omega,xxy];simp
  have e3:(A++v::B).drop (off+(k+1)+r.length)=B.drop r.length:=by rw[show off+(k+1)+r.length=A.length+(r.length+1) by omega,xxd];simp
  have e4:(A++x::B).take (off+k)=A:=by rw[iZ];simp
  have e5:(A++x::B).drop (off+k+(r.length+1))=B.drop r.length:=by rw[iZ,xxd];simp
  simp only[zzi]at *
  rw[e1,e2,e3,e4,e5];simp
def bIt(vs cells:Array Ε)(off:Nat)(h:off+vs.size<=cells.size):
  vs.zipIdx.foldl (λcs (p:Ε × Nat)=>cs.setIfInBounds (off+p.2) p.1) cells=(cells.toList.take off++vs.toList++cells.toList.drop (off+vs.size)).toArray:=by
 have h1:∀(l:List (Ε × Nat)) (c:Array Ε),(l.foldl (λcs (p:Ε × Nat)=>cs.setIfInBounds (off+p.2) p.1) c).toList=l.foldl (λcs (p:Ε × Nat)=>cs.set (off+p.2) p.1) c.toList:=by
  intro l;induction l with
  | nil=>intro c;rfl
  | cons x r ih=>intro c;rw[xxo,xxo,ih];simp
 have h2:=W5 off vs.toList 0 cells.toList (by simpa using h);apply Array.toList_inj.1;rw[<- Array.foldl_toList,h1,Array.toList_zipIdx,h2];simp
def fill_eq(place:Nat->Option (Nat × Nat)):∀(ps:List (Nat × Ε)) (l:List (Nat × Nat × Ε)) (z cells:Ξ),
  (ps.map λp=>(place p.1,p.2))=(l.map λq=>(some (q.1,q.2.1),q.2.2))->iz z l=some cells->Instr.fill place z.toArray ps=some cells.toArray
 | [],[],z,cells,_,h=>by simp[iz]at h;subst h;rfl
 | [],_::_,z,cells,hm,h=>by simp at hm
 | _::_,[],z,cells,hm,h=>by simp at hm
 | (i,v)::ps,(off,size,u)::l,z,cells,hm,h=>by
  simp only[zzo,List.cons.injEq,wwi]at hm;obtain⟨⟨hp,rfl⟩,hm⟩:=hm;simp only[iz]at h;split at h
  ·rename_i hc;obtain⟨h1,h2⟩:=hc;rw[Instr.fill,hp];have h3:¬(v.cells.size≠size\/off+v.cells.size>z.length):=by omega
   have bU8:=bIt v.cells z.toArray off (by simp;omega);simp only[Bool.or_eq_true,zzw,List.size_toArray,h3,wwb];rw[bU8,<- fill_eq place ps l _ cells hm h,h1]
  cases h
def SK:∀(fs:List Field) (l:List (Nat × Nat)),AO P fs=some l->(fs.mapM λf=>do pure (f.offset,<- sizeOf f.type):Sem (List (Nat × Nat))).run P w= .ok l w
 | [],l,h=>by simp[AO]at h;subst h;simp
 | f::r,l,h=>by
  simp only[AO]at h;split at h
  ·rename_i n hn;split at h
   ·rename_i l' hl;cases h;have ih:=SK r l' hl;simp only[bind_pure_comp]at ih;simp[List.mapM_cons,run_sizeOf hn,ih]
   cases h
  cases h
def Kf(pl:List (Nat × Nat))(ev:Operand->Ε):∀(ps:List (Nat × Operand)) (l:List (Nat × Nat × Ε)),rM pl ev ps=some l ->
  ((ps.map λp=>(p.1,ev p.2)).map λp=>(pl[p.1]?,p.2))=(l.map λq=>(some (q.1,q.2.1),q.2.2))
 | [],l,h=>by simp[rM]at h;subst h;rfl
 | (i,x)::r,l,h=>by
  simp only[rM]at h;split at h
  ·rename_i off n hi;split at h
   ·rename_i l' hl;cases h;simp[hi,Kf pl ev r l' hl]
   cases h
  cases h
def aRt{t:Ι}{fields:Array Field}{i:TypeInfo}{v:Ε}{pl:List (Nat × Nat)}{ps:Array (Nat × Operand)}{ev:Operand->Ε}{l:List (Nat × Nat × Ε)}
  (ht:P.underlying t=some (.struct fields)) (hi:P.info? t=some i) (hv:i.zero=some v) (dW:AO P fields.toList=some pl) (hl:rM pl ev ps.toList=some l)
  (h:zm v.cells.toList l λv=>K v w):fJ P (do pure (.value (<- Instr.build t (ps.map λ(i,x)=>(i,ev x))))) w K:=by
 obtain⟨cells,hc,hk⟩:=h;refine .value ?_ hk;have h1:(fields.mapM λf=>do pure (f.offset,<- sizeOf f.type):Sem (Array (Nat × Nat))).run P w= .ok pl.toArray w:=by
  rw[Array.mapM_eq_mapM_toList,Sem.run_map,SK _ _ dW];rfl
 have h2:=fill_eq (λj=>pl[j]?) (ps.toList.map λp=>(p.1,ev p.2)) l _ cells (by simpa using Kf pl ev _ _ hl) hc;rw[Array.toArray_toList]at h2
 simp only[Instr.build,Sem.run_bind,BJ hi hv,zzz ht,Result.andThen_ok,h1,Array.toList_map];have h3:(λx:Nat=>(pl.toArray[x]?:Option (Nat × Nat)))=λj=>pl[j]?:=by funext j;simp
 rw[h3,h2];rfl
def aRs{t e:Ι}{i:TypeInfo}{v:Ε}{len n:Nat}{ps:Array (Nat × Operand)}{ev:Operand->Ε}{l:List (Nat × Nat × Ε)}
  (ht:P.underlying t=some (.slice e)) (hi:P.info? e=some i) (hv:i.zero=some v) (hn:lC P e=some n) (hz:n=v.cells.toList.length) (hle:len*n<=16777216)
  (hl:rM ((List.range len).map λi=>(i*n,n)) ev ps.toList=some l) (h:zn (cK v.cells.toList len) l e len w K) :
  fJ P (do pure (.value (<- Instr.buildSlice t len (ps.map λ(i,x)=>(i,ev x))))) w K:=by
 obtain⟨cells,hc,hk⟩:=h;refine .value ?_ hk;have hlen:∀(ps:List (Nat × Operand)) (l:List (Nat × Nat × Ε)),rM ((List.range len).map λi=>(i*n,n)) ev ps=some l ->
   ((ps.map λp=>(p.1,ev p.2)).map λp=>(some (p.1*n,n),p.2))=(l.map λq=>(some (q.1,q.2.1),q.2.2)):=λps l h=>by
  have:=Kf _ ev ps l h;rw[<- this];rw[xxj,xxj];have jZ:∀p∈ps,p.1<len:=by
   intro p hp;have hm:(((List.range len).map λi=>(i*n,n))[p.1]?,ev p.2)∈((ps.map λp=>(p.1,ev p.2)).map λp=>(((List.range len).map λi=>(i*n,n))[p.1]?,p.2)):=by
    simp only[xxj,zzx];exact⟨p,hp,rfl⟩
   rw[this]at hm
   obtain⟨q,_,hq⟩:=zzx.1 hm;simp only[wwi]at hq;have:=(zzf.1 hq.1.symm).1;simpa using this
  refine List.map_congr_left λp hp=>?_;simp[jZ p hp]
 have h2:=fill_eq (λi=>some (i*n,n)) (ps.toList.map λp=>(p.1,ev p.2)) l _ cells (hlen _ _ hl) hc;have hzz:n=v.cells.size:=by simpa using hz
 subst hzz;have hr:=Lb v.cells len;simp only[Instr.buildSlice,Sem.run_bind,zzz ht,Result.andThen_ok,run_sizeOf hn,show ¬len*v.cells.size>2 ^ 24 by omega,wwb];by_cases h0:len*v.cells.size=0
 ·have hz0:cK v.cells.toList len=[]:=zzl (by rw[lV];simpa using h0);rw[hz0]at h2
  have tI:(Array.range 0).map (λi=>(#[]:Array Ε)[i % (#[]:Array Ε).size]!) = #[]:=Array.eq_empty_of_size_eq_zero (by simp);simp only[h0,wwj,pure_bind,tI,Array.toList_map];rw[show ([]:Ξ).toArray = #[] from rfl]at h2
  rw[h2];rfl
 simp only[h0,wwb,pure_bind,Sem.run_bind,BJ hi hv,Result.andThen_ok,hr,Array.toList_map];rw[h2];rfl
end
open Go.RowKit
section
variable {P:Program} {w:Ζ} {K:Ε->Ζ->Prop}
def KB{sz n:Nat}{y:Ε}{cs:Ξ}{w':Ζ}(h:kJ w sz y n cs)(hw:∀a,w'.cell? a=w.cell? a):
  (Builtin.firstCells sz n y).run P w'= .ok cs.toArray w'/\(Builtin.lenOf y).run P w'= .ok n w':=by
 unfold kJ at h;split at h
 ·obtain⟨rfl,h1,h2⟩:=h;exact⟨run_firstCells_some w' sz n _ _ _ cs h1 (λj v hj=>by rw[hw];exact h2 j v hj),rfl⟩
 ·obtain⟨rfl,rfl⟩:=h;exact⟨run_firstCells_none w' sz n _ _,rfl⟩
 ·rename_i s;obtain⟨rfl,rfl⟩:=h;refine⟨?_,rfl⟩;have:(s.extract 0 s.size)=s:=by simp
  simp only[Builtin.firstCells,this,Sem.run_pure,Result.ok.injEq,and_true];apply Array.ext';simp
 cases h
def Ss(w:Ζ)(a:Addr):w.drew.cell? a=w.cell? a:=rfl
def Rh{t u e ty:Ι}{d:TypeDesc}{i:TypeInfo}{v:Ε}{x y:Ε}(ht:P.underlying t=some (.slice e))(hu:P.underlying u=some d)(hd:∀k,d≠.int k)
  (hi:P.info? e=some i) (hv:i.zero=some v) (hn:lC P e=some v.cells.size)
  (h:zx v.cells.size (uX P e) v.cells.toList e x y w K):fJ P (do pure (.value (<- Builtin.append_ #[t,u] ty #[x,y]))) w K:=by
 obtain⟨a,len,cap,n,cs,rfl,gU,hb,hlen,h1,h2⟩:=h;have mF:uX P e=i.bytes:=by simp[uX,hi]
 rw[mF]at hb
 obtain⟨r1,r2⟩:=KB (P:=P) gU (λ_=>rfl);have hz:(underlying u).run P w= .ok d w:=zzz hu w;have Dv:(match d with | .int _=>true|_=>false)=false:=by
  cases d with
  | int k=>exact absurd rfl (hd k)
  | _=>rfl
 by_cases hc:len+n<=cap
 ·have hk:=h1 hc;cases a with
  | none=>
   refine .value ?_ hk;simp only[Builtin.append_,List.getElem?_toArray,List.getElem?_cons_zero,List.getElem?_cons_succ,Sem.run_bind,zzz ht,Result.andThen_ok,run_sizeOf hn,hz,Sem.run_pure,xxe,wwb,r2,hc,wwj,Bool.not_false,r1]
  | some p=>
   obtain⟨w',hs,hk⟩:=KK (P:=P) _ _ _ _ _ hk;refine .value ?_ hk;simp only[Builtin.append_,List.getElem?_toArray,List.getElem?_cons_zero,List.getElem?_cons_succ,Sem.run_bind,zzz ht,Result.andThen_ok,run_sizeOf hn,hz,Sem.run_pure,xxe,wwb,r2,hc,wwj,Bool.not_false,r1,hs]
 obtain⟨nU,ho,hk⟩:=h2 (by omega);have hk:=hk (grownCap w (len+n) cap e) (grownCap_ge _ _ _ _) (by have:=grownCap_le_maxLen w (len+n) cap e (by simp only[maxLen];omega);simpa [maxLen] using this);obtain⟨q1,_⟩:=KB (P:=P) gU (Ss w);obtain⟨q2,_⟩:=KB (P:=P) (w':=w.drew) ho (Ss w);refine .value ?_ hk;have hm:¬(((len+n:Nat):Int)>IntKind.i64.max/\(False\/i.bytes=0)):=by
  intro hh;have:IntKind.i64.max=9223372036854775807:=rfl;omega
 have oA:=growslice_fits (bytes:=i.bytes) (show cap<len+n by omega) hb;have bU5:¬(Builtin.nextslicecap (len+n) cap*i.bytes>2 ^ 48):=by simpa using oA
 have Jx:Builtin.zeroCells v.cells (grownCap w (len+n) cap e-(len+n))=(cK v.cells.toList (grownCap w (len+n) cap e-(len+n))).toArray:=Lb v.cells _;have hti:∀w,(typeInfo e).run P w= .ok i w:=λw=>by simp[typeInfo,hi]
 have rC:nU.toArray++cs.toArray++(cK v.cells.toList (grownCap w (len+n) cap e-(len+n))).toArray=(nU++cs++cK v.cells.toList (grownCap w (len+n) cap e-(len+n))).toArray:=by simp
 simp only[Builtin.append_,List.getElem?_toArray,List.getElem?_cons_zero,List.getElem?_cons_succ,Sem.run_bind,zzz ht,Result.andThen_ok,run_sizeOf hn,hz,Sem.run_pure,xxe,wwb,r2,hc,Bool.not_false,wwj,hti,hm,bU5,
  run_choose,Question.forced,run_askRoom]
 show ((Builtin.firstCells v.cells.size len _).run P w.drew).andThen _=_;rw[q2];simp only[Result.andThen_ok];show ((Builtin.firstCells v.cells.size n _).run P w.drew).andThen _=_;rw[q1];simp only[Result.andThen_ok,BJ hi hv];show ((newRow e (nU.toArray++cs.toArray++Builtin.zeroCells v.cells (grownCap w (len+n) cap e-(len+n)))).run P w.drew).andThen _=_;rw[Jx,rC];rfl
def RD{T:List Bool}(hT:Calls.pB P T){f:FuncId}{first captured args:Ξ}(hf:T.getD f false=true)(h:zQ P f (first++args++captured) w K):
  fJ P (do let d <- Deferred.ofValue (.func (.func f) first.toArray captured.toArray) args.toArray;invoke d.target d.args) w K:=by
 obtain⟨fn,h1,h2,h3⟩:=hT f hf;refine .inr (.inr ⟨f,(first++args++captured).toArray,?_,h⟩);have e1:first.toArray++args.toArray++captured.toArray=(first++args++captured).toArray:=by simp
 simp only[Deferred.ofValue,invoke,callFunc,pure_bind,Sem.run_bind,run_program,Result.andThen_ok,h1,h2,h3,xxe,wwb,e1];rfl
def cn8{f:FuncId}{args:Ξ}(h:q7 P f args w K):fJ P (do let d <- Deferred.ofValue (.func (.func f) #[] #[]) args.toArray;invoke d.target d.args) w K:=by
 obtain⟨v,w',h1,h2⟩:=h;refine .inl ⟨v,w',?_,h2⟩;have e:(#[]:Array Ε)++args.toArray ++ #[]=args.toArray:=by simp
 simp only[Deferred.ofValue,invoke,pure_bind,e,h1]
def dZ:Op->List Operand
 | .alloc _=>[]
 | .move x | .assign x | .box _ x | .load _ x | .nilCheck x | .unOp _ _ x | .convert _ _ x | .fieldAddr _ x _ | .field _ x _ | .extract x _=>[x]
 | .pick c a b=>[c,a,b]
 | .build _ ps | .buildSlice _ _ ps=>ps.toList.map (·.2)
 | .store _ a v | .binOp _ _ a v _ | .makeSlice _ a v | .indexAddr _ a v | .index _ a v | .lookup _ a v _ | .mapEntry _ a v=>[a,v]
 | .makeFunc _ first captured=>first.toList++captured.toList
 | .slice _ x l h m=>x::(l.toList++h.toList++m.toList)
 | .mapUpdate _ m k v | .entryStore _ m k v | .insert _ m k v=>[m,k,v]
 | .call c=>match c.callee with
  | .value f=>f::c.args.toList
  | _=>c.args.toList
 | _=>[]
def Ke{pl:List (Nat × Nat)}{ev ρ:Operand->Ε}:∀(ps:List (Nat × Operand)),(∀x∈ps.map (·.2),ρ x=ev x)->rM pl ρ ps=rM pl ev ps
 | [],_=>rfl
 | (i,x)::r,h=>by
  simp only[rM];rw[Ke r (λy hy=>h y (by simp only[zzo,zz0];exact .inr hy)),h x (by simp)]
def F7{ev ρ:Operand->Ε}(xs:Array Operand)(h:∀x∈xs.toList,ρ x=ev x):xs.map ρ=(xs.toList.map ev).toArray:=by
 apply Array.ext';simp only[Array.toList_map];exact List.map_congr_left h
set_option maxHeartbeats 1000000 in
def J7{T:List Bool}(hT:Calls.pB P T){o:Oper}{ρ ev:Operand->Ε}(hF:∀f,ρ (.func f)= .func (.func f) #[] #[])(hρ:∀x∈dZ o.op,ρ x=ev x)(h:fk P T o.op o.type ev w K):fJ P (execOp ρ o) w K:=by
 obtain⟨dst,op,ty,pos,after,guard⟩:=o;simp only at h hρ;unfold execOp;cases op with
 | move x=>exact .inl ⟨_,_,rfl,by rw[hρ x (by simp[dZ])];exact h⟩
 | assign x=>exact .inl ⟨_,_,rfl,by rw[hρ x (by simp[dZ])];exact h⟩
 | alloc e=>
  simp only[fk]at h;split at h
  ·rename_i z hz;exact aF8 hz h
  cases h
 | box e x=>
  simp only[fk]at h;simp only[hρ x (by simp[dZ])];split at h
  ·exact Rw (by rw[By h.1]) h.2
  ·obtain⟨vs,hx,h⟩:=h;exact Rw (by rw[hx];rfl) h
  cases h
 | build t ps=>
  simp only[fk]at h;split at h
  ·rename_i fields ht;split at h
   ·rename_i z hz;split at h
    ·rename_i pl dW;split at h
     ·rename_i l hl;obtain⟨i,v,hi,hv,rfl⟩:=yB hz;rw[<- Ke ps.toList (by simpa [dZ] using hρ)]at hl
      exact aRt ht hi hv dW hl h
     cases h
    cases h
   cases h
  cases h
 | buildSlice t len ps=>
  simp only[fk]at h;split at h
  ·rename_i e ht;split at h
   ·rename_i z hz;split at h
    ·rename_i n hn;split at h
     ·rename_i l hl;split at h
      ·rename_i Ff o8;obtain⟨i,v,hi,hv,rfl⟩:=yB hz;rw[<- Ke ps.toList (by simpa [dZ] using hρ)]at hl
       exact aRs ht hi hv hn (beq_iff.1 Ff) (Nat.le_of_ble_eq_true o8) hl h
      cases h
     cases h
    cases h
   cases h
  cases h
 | load t x=>
  simp only[fk]at h;simp only[hρ x (by simp[dZ])];split at h
  ·rename_i ht;exact bY2 ht h
  ·rename_i n ht;exact bZa ht h
  cases h
 | store t x v=>
  simp only[fk]at h;simp only[hρ x (by simp[dZ]),hρ v (by simp[dZ])];split at h
  ·rename_i ht;split at h
   ·rename_i hs;exact cCd ht hs h
   cases h
  ·rename_i n ht;exact cCe ht h
  cases h
 | nilCheck x=>
  obtain⟨a,hx,hk⟩:=h;refine .inl ⟨_,_,?_,hk⟩;simp only[hρ x (by simp[dZ]),hx];rfl
 | binOp op t x y u=>
  simp only[fk]at h;simp only[hρ x (by simp[dZ]),hρ y (by simp[dZ])];split at h
  ·exact Rt h
  ·exact Rt h
  ·split at h
   ·rename_i hm;exact bFl hm h
   cases h
  ·split at h
   ·rename_i hm;exact b_k hm h
   cases h
  ·rename_i d ht;exact bFo ht h
  ·rename_i d ht;exact b_l ht h
  cases h
 | unOp op t x=>
  cases op with
  | not=>simp only[hρ x (by simp[dZ])];exact b_v h
  | neg=>simp only[hρ x (by simp[dZ])];exact b_j h
  | xor=>simp only[hρ x (by simp[dZ])];exact aW9 h
  | _=>cases h
 | convert s d x=>
  simp only[fk]at h;simp only[hρ x (by simp[dZ])];split at h
  ·rename_i e k hs hd;exact a_m hs hd h
  ·rename_i hs hd;exact a_n hs hd h
  ·exact h.oT
  ·exact h.oT
  exact ff.oT h
 | makeFunc fn first captured=>
  simp only[fk]at h;split at h
  ·refine .inl ⟨_,_,rfl,?_⟩;rw[F7 first (λx hx=>hρ x (by simp[dZ];left;simpa using hx)),F7 captured (λx hx=>hρ x (by simp[dZ];right;simpa using hx))];exact h
  cases h
 | makeSlice t x y=>
  simp only[fk]at h;simp only[hρ x (by simp[dZ]),hρ y (by simp[dZ])];split at h
  ·rename_i e ht;split at h
   ·rename_i z hz;split at h
    ·rename_i n hn;split at h
     ·rename_i hb;obtain⟨i,v,hi,hv,rfl⟩:=yB hz;refine b_c ht hi hv (by rw[hn,beq_iff.1 hb];simp) h
     cases h
    cases h
   cases h
  cases h
 | slice t x lo hi mx=>
  have e1:lo.map ρ=lo.map ev:=by cases lo with|none=>rfl|some y=>simp[hρ y (by simp[dZ])]
  have e2:hi.map ρ=hi.map ev:=by cases hi with|none=>rfl|some y=>simp[hρ y (by simp[dZ])]
  have e3:mx.map ρ=mx.map ev:=by cases mx with|none=>rfl|some y=>simp[hρ y (by simp[dZ])]
  simp only[fk]at h;simp only[hρ x (by simp[dZ]),e1,e2,e3];split at h
  ·rename_i e ht;split at h
   ·rename_i n hn;split at h
    ·cases h
    rename_i fu;refine cBm ht hn ?_ h;intro hm;cases mx with
    | none=>simp at hm
    | some m=>cases hi with
     | none=>exact absurd rfl (fu m rfl)
     | some y=>rfl
   cases h
  ·rename_i ht;split at h
   ·exact cBl ht h
   cases h
  cases h
 | fieldAddr s x f=>
  simp only[fk]at h;simp only[hρ x (by simp[dZ])];split at h
  ·rename_i off hf;exact bIc hf h
  cases h
 | indexAddr t x i=>
  simp only[fk]at h;simp only[hρ x (by simp[dZ]),hρ i (by simp[dZ])];split at h
  ·rename_i e ht;split at h
   ·rename_i n hn;exact bXm ht hn h
   cases h
  ·rename_i len e ht;split at h
   ·rename_i n hn;exact bXl ht hn h
   cases h
  cases h
 | extract x i=>simp only[hρ x (by simp[dZ])];exact bFs h
 | field t x f=>simp only[hρ x (by simp[dZ])];exact ff.oT h
 | index t x i=>simp only[hρ x (by simp[dZ]),hρ i (by simp[dZ])];exact ff.oT h
 | lookup t x i ok=>simp only[hρ x (by simp[dZ]),hρ i (by simp[dZ])];exact ff.oT h
 | mapUpdate t m k x=>
  simp only[hρ m (by simp[dZ]),hρ k (by simp[dZ]),hρ x (by simp[dZ])];obtain⟨v,w',hr,hk⟩:=h;simp only[Sem.run_bind,Sem.run_pure]at hr;cases hm:(Instr.mapUpdate t (ev m) (ev k) (ev x)).run P w with
  | ok u w2=>rw[hm]at hr;cases hr;exact .inr (.inl ⟨w',by simp[hm],hk⟩)
  | halt e w2=>rw[hm]at hr;cases hr
 | insert t m k x=>
  simp only[hρ m (by simp[dZ]),hρ k (by simp[dZ]),hρ x (by simp[dZ])];obtain⟨v,w',hr,hk⟩:=h;simp only[Sem.run_bind,Sem.run_pure]at hr;cases hm:(Instr.mapUpdate t (ev m) (ev k) (ev x)).run P w with
  | ok u w2=>rw[hm]at hr;cases hr;exact .inr (.inl ⟨w',by simp[hm],hk⟩)
  | halt e w2=>rw[hm]at hr;cases hr
 | mapEntry t m k=>simp only[hρ m (by simp[dZ]),hρ k (by simp[dZ])];exact zR.oT h
 | entryStore t m k x=>
  simp only[hρ m (by simp[dZ]),hρ k (by simp[dZ]),hρ x (by simp[dZ])];obtain⟨v,w',hr,hk⟩:=h;simp only[Sem.run_bind,Sem.run_pure]at hr;cases hm:(Instr.entryStore t (ev m) (ev k) (ev x)).run P w with
  | ok u w2=>rw[hm]at hr;cases hr;exact .inr (.inl ⟨w',by simp[hm],hk⟩)
  | halt e w2=>rw[hm]at hr;cases hr
 | makeMap t r=>
  cases r with
  | none=>exact .inl ⟨_,_,rfl,h⟩
  | some x=>cases h
 | call c=>
  obtain⟨callee,args,wE⟩:=c;cases callee with
  | value g=>
   have ha:args.map ρ=(args.toList.map ev).toArray:=F7 args (λx hx=>hρ x (by simp[dZ];right;simpa using hx));cases g with
   | func f=>
    simp only[fk]at h;split at h
    ·rename_i hf;have:=RD hT (first:=[]) (captured:=[]) hf (by simpa using h);simp only[resolve,ha,hF f];exact this
    simp only[resolve,ha,hF f];exact cn8 h
   | tmp t=>
    obtain⟨f,first,captured,hg,hf,h⟩:=h;have:=RD hT hf h;have xw:ρ (.tmp t)=ev (.tmp t):=hρ _ (by simp[dZ]);simp only[resolve,ha,xw,hg];simpa using this
   | _=>cases h
  | invoke r m=>cases h
  | builtin b=>
   have ha:args.map ρ=(args.toList.map ev).toArray:=F7 args (λx hx=>hρ x (by simpa [dZ] using hx));have hb:(do let d <- resolve ρ ⟨.builtin b,args,wE⟩ ty;invoke d.target d.args)=builtin b wE ty (args.map λ| .const _=>true|_=>false) (args.toList.map ev).toArray:=by
    simp only[resolve,ha];rfl
   show fJ P (do let d <- resolve ρ ⟨.builtin b,args,wE⟩ ty;invoke d.target d.args) w K;rw[hb];cases b with
   | len=>
    simp only[fk]at h;split at h
    ·rename_i x t hx ht;have IC:wE = #[t]:=by apply Array.ext';exact ht
     rw[hx];subst IC;split at h
     ·rename_i e hs;exact bYv hs h
     ·rename_i hs;exact bYw hs h
     exact ff.oT h
    cases h
   | min=>
    simp only[fk]at h;split at h
    ·rename_i x y hx;rw[hx];exact bZ9 h
    cases h
   | max=>
    simp only[fk]at h;split at h
    ·rename_i x y hx;rw[hx];exact bZl h
    cases h
   | append=>
    simp only[fk]at h;split at h
    ·rename_i x y t u hx ht;have IC:wE = #[t,u]:=by apply Array.ext';exact ht
     rw[hx];subst IC;split at h
     ·rename_i e hs;split at h
      ·rename_i z hz;obtain⟨i,v,hi,hv,rfl⟩:=yB hz;split at h
       ·rename_i n hn;split at h
        ·rename_i e' hb hu;have mF:=beq_iff.1 hb;simp at mF;subst mF;exact Rh hs hu (λk hk=>by cases hk) hi hv hn h
        ·rename_i hb hu;have mF:=beq_iff.1 hb;simp at mF;subst mF;exact Rh hs hu (λk hk=>by cases hk) hi hv hn h
        ·exact zR.oT h
        cases h
       cases h
      cases h
     cases h
    cases h
   | copy=>exact h.oT
   | delete=>exact h.oT
   | cap=>exact ff.oT h
   | clear=>exact h.oT
   | _=>cases h
 | _=>cases h
end
open Go.RowKit
def dm(x:Ε)(A B:Prop):Prop:=∃r,x= .bool r/\(r=true->A)/\(r=false->B)
def mO(E:Env)(x:Operand)(e:iC):Env:=match x with
 | .tmp t=>(t,e)::E
 | _=>E
def pj(n:Nat)(E:Env)(d:Option Nat)(x:Option iC)(K:Env->Prop):Prop:=match x with
 | some e=>K (E.put n d e)
 | none=>False
def sR(P:Program)(T:List Bool)(n:Nat)(o:Oper)(E:Env)(w:Ζ)(K:Env->Ζ->Prop):Prop:=
 match o.op with
 | .move x=>pj n E o.dst (E.hY x) λE'=>K E' w
 | .assign x=>pj n E o.dst (E.hY x) λE'=>K E' w
 | .pick c a b=>match E.hY c with
  | some .t=>pj n E o.dst (E.hY a) λE'=>K E' w
  | some .f=>pj n E o.dst (E.hY b) λE'=>K E' w
  | some (.v x)=>dm x (pj n (mO E c .t) o.dst (Env.hY (mO E c .t) a) λE'=>K E' w) (pj n (mO E c .f) o.dst (Env.hY (mO E c .f) b) λE'=>K E' w)
  | some .u=>False
  | none=>False
 | op=>match E.Fc (dZ op) with
  | true=>fk P T op o.type E.ev w λv w'=>K (E.put n o.dst (.v v)) w'
  | false=>False
def ur(ops:List Oper)(g:Option (Nat × Bool))(E:Env)(run skip:Env->Prop):Prop:=match g with
 | none=>run E
 | some (j,want)=>match (ops[j]?).bind (·.dst) with
  | some g=>match E.get g with
   | some .t=>(match want with|true=>run E|false=>skip E)
   | some .f=>(match want with|true=>skip E|false=>run E)
   | some (.v x)=>dm x (match want with|true=>run ((g,.t)::E)|false=>skip ((g,.t)::E)) (match want with|true=>skip ((g,.f)::E)|false=>run ((g,.f)::E))
   | some .u=>skip E
   | none=>False
  | none=>False
def DL(P:Program)(T:List Bool)(n:Nat)(ops:List Oper)(K:Env->Ζ->Prop):List Oper->Env->Ζ->Prop
 | [],E,w=>K E w
 | o::r,E,w=>ur ops o.guard E (λE'=>sR P T n o E' w λGQ w'=>DL P T n ops K r GQ w') (λE'=>DL P T n ops K r (E'.put n o.dst .u) w)
def jt(W:Α)(a a':Act):Prop:=∀t,t∉W->a'.tmps[t]?=a.tmps[t]?
def jt.refl(W:Α)(a:Act):jt W a a:=λ_ _=>rfl
def jt.trans{W:Α}{a b c:Act}(h:jt W a b)(k:jt W b c):jt W a c:=λt ht=>(k t ht).trans (h t ht)
def jt.mono{W W':Α}{a b:Act}(h:jt W a b)(hw:∀t∈W,t∈W'):jt W' a b:=λt ht=>h t λx=>ht (hw t x)
def jt.put(a:Act)(d:Option Nat)(v:Ε)(W:Α)(hd:∀t,d=some t->t∈W):jt W a (a.put d v):=by
 cases d with
 | none=>exact .refl _ _
 | some d=>
  intro t ht;have:d≠t:=λe=>ht (hd t (by rw[e]));simp[Act.put,Array.getElem?_setIfInBounds_ne this]
def fD.set{X:Α}{n:Nat}{E:Env}{a:Act}(h:fD X n E a){t:Nat}{e:iC}(he:t∉X->a.tmps[t]?=some e.val):fD X n ((t,e)::E) a:=by
 refine⟨h.size,h.defers,λu e' hX hu=>?_⟩;simp only[Env.get]at hu;split at hu
 ·rename_i hb;obtain rfl:=beq_iff.1 hb;cases hu;exact he hX
 exact h.get u e' hX hu
def fD.mO{X:Α}{n:Nat}{E:Env}{a:Act}(h:fD X n E a){x:Operand}{v:Ε}{e:iC}(hx:E.hY x=some (.v v))(hv:e.val=v):fD X n (mO E x e) a:=by
 cases x with
 | tmp t=>exact h.set (λhX=>by rw[hv];exact h.get t _ hX hx)
 | const v=>exact h
 | global g=>exact h
 | func f=>exact h
def BF{X:Α}{n:Nat}{E:Env}{d:Option Nat}{x:Operand}{K:Env->Prop}(h:pj n E d (E.hY x) K){a:Act}(hA:fD X n E a)(hX:wx X x):∃E',fD X n E' (a.put d (a.eval x))/\K E':=by
 unfold pj at h;split at h
 ·rename_i e he;exact⟨_,by rw[hA.hY hX he];exact hA.put d e,h⟩
 cases h
section
variable {P:Program} {T:List Bool} {n:Nat} {X:Α}
def Xn(hT:Calls.pB P T){o:Oper}{E:Env}{w:Ζ}{K:Env->Ζ->Prop}(h:sR P T n o E w K){a:Act}(hA:fD X n E a)(hX:∀x∈dZ o.op,wx X x){next:Act->Ζ->Prop}{Q:Exit->Act->Ζ->Prop}
  (hn:∀E' v w',fD X n E' (a.put o.dst v)->K E' w'->next (a.put o.dst v) w'):o.wp P a w next Q:=by
 unfold sR at h;split at h
 ·rename_i x fh;obtain⟨E',h1,h2⟩:=BF h hA (hX x (by simp[fh,dZ]));refine fJ.upon (K:=λv w'=>∃E',fD X n E' (a.put o.dst v)/\K E' w') (.inl ⟨a.eval x,w,by simp[execOp,fh],E',h1,h2⟩) ?_;rintro v w' ⟨E',h1,h2⟩;exact hn E' v w' h1 h2
 ·rename_i x fh;obtain⟨E',h1,h2⟩:=BF h hA (hX x (by simp[fh,dZ]));refine fJ.upon (K:=λv w'=>∃E',fD X n E' (a.put o.dst v)/\K E' w') (.inl ⟨a.eval x,w,by simp[execOp,fh],E',h1,h2⟩) ?_;rintro v w' ⟨E',h1,h2⟩;exact hn E' v w' h1 h2
 ·rename_i c x y fh;have key:∀(r:Bool),a.eval c= .bool r->(∃E',fD X n E' (a.put o.dst (if r then a.eval x else a.eval y))/\K E' w)->o.wp P a w next Q:=λr hr h=>by
   refine fJ.upon (K:=λv w'=>∃E',fD X n E' (a.put o.dst v)/\K E' w') (.inl ⟨_,w,by simp[execOp,fh,hr,asBool],h⟩) ?_;rintro v w' ⟨E',h1,h2⟩;exact hn E' v w' h1 h2
  split at h
  ·rename_i hc;exact key true (hA.hY (hX c (by simp[fh,dZ])) hc) (BF h hA (hX _ (by simp[fh,dZ])))
  ·rename_i hc;exact key false (hA.hY (hX c (by simp[fh,dZ])) hc) (BF h hA (hX _ (by simp[fh,dZ])))
  ·rename_i v hc;obtain⟨r,rfl,h1,h2⟩:=h;cases r with
   | true=>
    exact key true (hA.hY (hX c (by simp[fh,dZ])) hc) (BF (h1 rfl) (hA.mO hc rfl) (hX _ (by simp[fh,dZ])))
   | false=>exact key false (hA.hY (hX c (by simp[fh,dZ])) hc) (BF (h2 rfl) (hA.mO hc rfl) (hX _ (by simp[fh,dZ])))
  ·cases h
  cases h
 split at h
 ·rename_i hh;refine fJ.upon (J7 hT (λ_=>rfl) (λx hx=>hA.ev (hX x hx) (Env.Fe hh x hx)) h) ?_;intro v w' hk;exact hn _ v w' (hA.put o.dst (.v v)) hk
 cases h
def bRg{ops:Array Oper}{g:Option (Nat × Bool)}{o:Oper}(hg:o.guard=g){E:Env}{run skip:Env->Prop}(h:ur ops.toList g E run skip){a:Act}(hA:fD X n E a)
  (hX:∀j want s,g=some (j,want)->(ops[j]?).bind (·.dst)=some s->s∉X) :
  ∃E',fD X n E' a/\((Region.wanted o (yielded ops a.tmps)=true/\run E')\/(Region.wanted o (yielded ops a.tmps)=false/\skip E')):=by
 subst hg;unfold ur at h;split at h
 ·rename_i hg;exact⟨E,hA,.inl ⟨by simp[Region.wanted,hg],h⟩⟩
 rename_i j want hg;split at h
 ·rename_i s hs;have hw:∀b,a.tmps[s]?=some (.bool b)->Region.wanted o (yielded ops a.tmps)=(b == want):=λb hb=>by
   simp only[Region.wanted,hg,yielded];rw[show ((ops[j]?).bind (·.dst))=some s by simpa using hs];simp only[Option.bind_some,hb];cases b<;>cases want<;>rfl
  have lL:s∉X:=hX j want s hg (by simpa using hs);split at h
  ·rename_i he;have:=hw true (hA.get _ _ lL he);split at h
   ·exact⟨E,hA,.inl ⟨this,h⟩⟩
   exact⟨E,hA,.inr ⟨this,h⟩⟩
  ·rename_i he;have:=hw false (hA.get _ _ lL he);split at h
   ·exact⟨E,hA,.inr ⟨this,h⟩⟩
   exact⟨E,hA,.inl ⟨this,h⟩⟩
  ·rename_i x he;obtain⟨r,rfl,h1,h2⟩:=h;have hr:=hw r (hA.get _ _ lL he);cases r with
   | true=>
    have h1:=h1 rfl;have iZ:fD X n ((s,.t)::E) a:=hA.set (λ_=>hA.get s (.v (.bool true)) lL he);split at h1
    ·exact⟨_,iZ,.inl ⟨hr,h1⟩⟩
    exact⟨_,iZ,.inr ⟨hr,h1⟩⟩
   | false=>
    have h2:=h2 rfl;have iZ:fD X n ((s,.f)::E) a:=hA.set (λ_=>hA.get s (.v (.bool false)) lL he);split at h2
    ·exact⟨_,iZ,.inr ⟨hr,h2⟩⟩
    exact⟨_,iZ,.inl ⟨hr,h2⟩⟩
  ·rename_i he;have hb:=hA.get _ _ lL he;refine⟨E,hA,.inr ⟨?_,h⟩⟩;simp only[Region.wanted,hg,yielded];rw[show ((ops[j]?).bind (·.dst))=some s by simpa using hs];simp only[Option.bind_some,hb];cases want<;>rfl
  cases h
 cases h
def sj(l:List Oper):Α:=l.filterMap (·.dst)
def Kc(hT:Calls.pB P T){ops:Array Oper}{K:Env->Ζ->Prop}{Q:Exit->Act->Ζ->Prop}{W:Α}{a0:Act}(hn:∀E' a' w',fD [] n E' a'->jt W a0 a'->K E' w'->Q .normal a' w'):
  ∀(l:List Oper) (E:Env) (a:Act) (w:Ζ),(∀t∈sj l,t∈W)->jt W a0 a->fD [] n E a->DL P T n ops.toList K l E w->wpList P ops Q l a w
 | [],E,a,w,_,hk,hA,h=>hn E a w hA hk h
 | o::r,E,a,w,hW,hk,hA,h=>by
  unfold DL at h;have hd:∀t,o.dst=some t->t∈W:=λt ht=>hW t (by simp[sj,ht]);have Fa:∀t∈sj r,t∈W:=λt ht=>hW t (by
   unfold sj at ht ⊢;rw[List.filterMap_cons];split
   ·exact ht
   exact List.mem_cons_of_mem _ ht)
  obtain⟨E',iZ,⟨hw,h⟩|⟨hw,h⟩⟩:=bRg rfl h hA (λ_ _ _ _ _ h=>by cases h)
  ·unfold wpList;rw[zzd hw];refine .inl (Xn hT h iZ (λx _=>.nil x) ?_);intro E2 v w' oZ hK;exact Kc hT hn r E2 _ w' Fa (hk.trans (jt.put a o.dst v W hd)) oZ hK
  unfold wpList;rw[zzb (by rw[hw];exact Bool.false_ne_true)];exact Kc hT hn r _ _ w Fa (hk.trans (jt.put a o.dst undef W hd)) (iZ.put o.dst .u) h
end
inductive Ex where
 | normal
 | exit (id:Nat)
 | ret
def Ex.to:Ex->Exit
 | .normal=>.normal
 | .exit i=>.exit i
 | .ret=>.ret
def uk:Code->Option Nat
 | .region id _ _=>some id
 | .seq a b=>match uk a with
  | some i=>some i
  | none=>uk b
 | .cond _ a b=>match uk a with
  | some i=>some i
  | none=>uk b
 | .block _ c=>uk c
 | .loop c=>uk c
 | .scope c=>uk c
 | _=>none
def wr:Code->Α
 | .region _ ops _=>sj ops.toList
 | .seq a b=>wr a++wr b
 | .cond _ a b=>wr a++wr b
 | .block _ c=>wr c
 | .loop c=>wr c
 | .scope c=>wr c
 | _=>[]
abbrev Marks:=List (Nat × Α × Α)
def Marks.find:Marks->Option Nat->Option (Α × Α)
 | _,none=>none
 | [],_=>none
 | (k,x)::r,some i=>match Nat.beq k i with
  | true=>some x
  | false=>Marks.find r (some i)
def DD(t:Nat):Α->Bool
 | []=>false
 | u::r=>match Nat.beq u t with
  | true=>true
  | false=>DD t r
def Ct(W:Α):Α->Bool
 | []=>true
 | l::r=>match DD l W with
  | true=>false
  | false=>Ct W r
def Bq(E R:Env):Α->Env
 | []=>R
 | l::r=>match E.get l with
  | some e=>(l,e)::Bq E R r
  | none=>Bq E R r
def nu(E:Env):Α->Option Ξ
 | []=>some []
 | s::r=>match E.get s with
  | some e=>match nu E r with
   | some vs=>some (e.val::vs)
   | none=>none
  | none=>none
def Ev(R:Env):Α->Ξ->Env
 | s::r,v::vs=>(s,.v v)::Ev R r vs
 | _,_=>R
def En:Nat->(Ξ->Prop)->Prop
 | 0,K=>K []
 | k+1,K=>∀v:Ε,En k λl=>K (v::l)
def Dz:Α->Nat
 | []=>0
 | _::r=>Dz r+1
def K_(o:Option Ξ)(K:Ξ->Prop):Prop:=match o with
 | some l=>K l
 | none=>False
def Zr:∀(k:Nat) (K:Ξ->Prop),En k K->∀l:Ξ,l.length=k->K l
 | 0,K,h,l,hl=>by rw[zzl hl];exact h
 | k+1,K,h,[],hl=>by simp at hl
 | k+1,K,h,v::l,hl=>Zr k _ (h v) l (by simpa using hl)
def JK:∀l:Α,Dz l=l.length
 | []=>rfl
 | _::r=>by simp[Dz,JK r]
def K1{E:Env}:∀{S:Α} {vs:Ξ},nu E S=some vs->vs.length=S.length
 | [],vs,h=>by simp[nu]at h;subst h;rfl
 | s::r,vs,h=>by
  simp only[nu]at h;split at h
  ·split at h
   ·rename_i BT hv;cases h;simp[K1 hv]
   cases h
  cases h
def Vv{t:Nat}:∀{l:Α},DD t l=true↔t∈l
 | []=>by simp[DD]
 | u::r=>by
  simp only[DD,zz0];split
  ·rename_i h;simp[(beq_iff.1 h).symm]
  rename_i h;have dQ:t≠u:=λe=>by rw[beq_iff.2 e.symm]at h;cases h
  rw[Vv];simp[dQ]
def y3{W:Α}:∀{L:Α},Ct W L=true->∀l∈L,l∉W
 | [],_,l,hl=>by cases hl
 | x::r,h,l,hl=>by
  simp only[Ct]at h;split at h
  ·cases h
  rename_i hm;rcases zz0.1 hl with rfl|hl
  ·intro jZ;rw[Vv.2 jZ]at hm;cases hm
  exact y3 h l hl
def F3{n:Nat}{E R:Env}{a a':Act}(hA:fD [] n E a)(hR:fD [] n R a'){W:Α}(hk:jt W a a'):∀{L:Α},(∀l∈L,l∉W)->fD [] n (Bq E R L) a'
 | [],_=>hR
 | l::r,h=>by
  simp only[Bq];split
  ·rename_i e he;exact (F3 hA hR hk (λx hx=>h x (List.mem_cons_of_mem _ hx))).set (λ_=>by rw[hk l (h l (by simp))];exact hA.get l e (by simp) he)
  exact F3 hA hR hk (λx hx=>h x (List.mem_cons_of_mem _ hx))
def HD{n:Nat}{E R:Env}{a:Act}(hA:fD [] n E a)(hR:fD [] n R a):∀{S:Α} {vs:Ξ},nu E S=some vs->fD [] n (Ev R S vs) a
 | [],vs,h=>by simp[nu]at h;subst h;exact hR
 | s::r,vs,h=>by
  simp only[nu]at h;split at h
  ·rename_i e he;split at h
   ·rename_i BT hv;cases h;exact (HD hA hR hv).set (λ_=>hA.get s e (by simp) he)
   cases h
  cases h
open Go.RowKit
def iq(P:Program):Op->Bool
 | .move _ | .pick .. | .build .. | .nilCheck _ | .unOp .. | .makeFunc .. | .fieldAddr .. | .indexAddr .. | .extract .. | .field .. | .index .. | .lookup .. | .slice .. | .load .. | .binOp ..=>true
 | .convert s d _=>match P.underlying s,P.underlying d with
  | some _,some (.int _)=>true
  | some .string,some .string=>true
  | some .string,some (.slice _)=>false
  | some (.slice _),some (.slice _)=>false
  | _,_=>true
 | .call c=>match c.callee with
  | .builtin .len=>true
  | .builtin .min=>true
  | .builtin .max=>true
  | .builtin .cap=>true
  | _=>false
 | _=>false
def oE(P:Program):Op->Bool
 | .field .. | .index .. | .lookup .. | .load ..=>true
 | .binOp _ t _ _ _=>match P.underlying t with
  | some (.struct _)=>true
  | _=>false
 | .convert s d _=>match P.underlying s,P.underlying d with
  | some _,some (.int _)=>false
  | some .string,some .string=>false
  | _,_=>true
 | .call c=>match c.callee with
  | .builtin .len=>match c.argTypes.toList with
   | [t]=>match P.underlying t with
    | some (.slice _)=>false
    | some .string=>false
    | _=>true
   | _=>true
  | .builtin .cap=>true
  | _=>false
 | _=>false
def sa(acc:Α):List Edge->Nat
 | []=>0
 | e::r=>match Region.binds .any e with
  | true=>sa acc r ||| 2 ^ e.on ||| acc.getD e.on 0
  | false=>sa acc r
def om:List Oper->Α->Α
 | [],acc=>acc
 | o::r,acc=>om r (acc++[sa acc o.after.toList])
def idxs(f:Oper->Bool):List Oper->Nat->Α
 | [],_=>[]
 | o::r,k=>match f o with
  | true=>k::idxs f r (k+1)
  | false=>idxs f r (k+1)
def oW(f:Nat->Bool):Α->Α
 | []=>[]
 | j::r=>match f j with
  | true=>j::oW f r
  | false=>oW f r
def xY:Α->Nat
 | []=>0
 | j::r=>2 ^ j ||| xY r
def Ck(f:Nat->Bool):Α->Bool
 | []=>false
 | j::r=>match f j with
  | true=>true
  | false=>Ck f r
def wg(a b:Nat):Bool:=Nat.beq (Nat.land a b) a
structure RS where
 ops:List Oper
 B:Α
 jC:Α
 tj:Α
 cm:Nat
def fP(P:Program)(ops:List Oper):RS:=
 let jC:=idxs (λo=>!iq P o.op) ops 0
 {ops,B:=om ops [],jC,tj:=idxs (λo=>iq P o.op) ops 0,cm:=xY jC}
def RS.enabled(R:RS)(done j:Nat):Bool:=wg (Nat.land (R.B.getD j 0) R.cm) done
def RS.DG(R:RS)(done j:Nat):Bool:=Ck (λc=>match Nat.testBit done c with
 | true=>Nat.testBit (R.B.getD c 0) j
 | false=>false) R.jC
def Wu(P:Program)(T:List Bool)(o:Oper)(E:Env)(w:Ζ)(R:Prop):Prop:=match o.dst with
 | some d=>match E.get d with
  | some e=>fk P T o.op o.type E.ev w λv _=>v=e.val/\R
  | none=>False
 | none=>False
def BH(P:Program)(T:List Bool)(ops:List Oper)(E:Env)(w:Ζ)(R:Prop):Α->Prop
 | []=>R
 | j::r=>match ops[j]? with
  | some o=>ur ops o.guard E (λ_=>Wu P T o E w (BH P T ops E w R r)) (λ_=>BH P T ops E w R r)
  | none=>False
def AQ(P:Program)(T:List Bool)(n:Nat)(ops:List Oper)(w:Ζ)(K:Env->Prop):Α->Env->Prop
 | [],E=>K E
 | j::r,E=>match ops[j]? with
  | some o=>ur ops o.guard E (λE'=>sR P T n o E' w λGQ _=>AQ P T n ops w K r GQ) (λE'=>AQ P T n ops w K r (E'.put n o.dst .u))
  | none=>False
def Eo(F:Nat->Prop):Α->Prop
 | []=>False
 | [c]=>F c
 | c::r=>F c/\Eo F r
def RS.go(R:RS)(P:Program)(T:List Bool)(n:Nat)(K:Env->Ζ->Prop):Nat->Nat->Nat->Env->Ζ->Prop
 | 0,_,_,_,_=>False
 | k+1,done,en,E,w=>
  BH P T R.ops E w
   (AQ P T n R.ops w (λE'=>
     match wg R.cm done with
     | true=>K E' w
     | false=>Eo (λc=>match R.ops[c]? with
       | some o=>ur R.ops o.guard E' (λE2=>sR P T n o E2 w λE3 w3=>RS.go R P T n K k (done ||| 2 ^ c) (en ||| xY (oW (λj=>R.enabled done j) R.tj)) E3 w3)
         (λE2=>RS.go R P T n K k (done ||| 2 ^ c) (en ||| xY (oW (λj=>R.enabled done j) R.tj)) (E2.put n o.dst .u) w)
       | none=>False)
      (oW (λc=>!Nat.testBit done c && R.enabled done c) R.jC))
    (oW (λj=>!Nat.testBit en j && R.enabled done j) R.tj) E)
   (oW (λj=>Nat.testBit en j && !R.DG done j && (match R.ops[j]? with|some o=>oE P o.op|none=>false)) R.tj)
def xV{α:Type}:List α->Nat
 | []=>0
 | _::r=>xV r+1
def HV(P:Program)(T:List Bool)(n:Nat)(ops:List Oper)(K:Env->Ζ->Prop)(E:Env)(w:Ζ):Prop:=
 (fP P ops).go P T n K (xV (fP P ops).jC+1) 0 0 E w
def looks(ops:List Oper)(o:Oper):Α:=
 ((dZ o.op).filterMap λx=>match x with | .tmp t=>some t|_=>none)++(match o.guard with|some (j,_)=>((ops[j]?).bind (·.dst)).toList|none=>[])
def Gq(P:Program)(n:Nat)(ops:List Oper)(draw:Bool):Bool:=match draw with
 | false=>true
 | true=>
  let R:=fP P ops
  (List.range ops.length).all λi=>match ops[i]? with
   | some oi=>(oi.dst.toList.all λd=>decide (d<n)) && (oi.after.toList.all λe=>!Region.binds .any e || decide (e.on<i)) &&
    (iq P oi.op == false || !((oi.dst.toList).any λd=>(looks ops oi).contains d)) &&
    (List.range ops.length).all λj=>match ops[j]? with
     | some oj=>match oj.dst with
      | some d=>i == j || ((!iq P oj.op || oi.dst != some d) &&
        (!(looks ops oi).contains d || (R.B.getD i 0).testBit j || (!iq P oj.op && (R.B.getD j 0).testBit i)))
      | none=>true
     | none=>true
   | none=>true
