/- Part. -/
import Derived.Test.YthohmpdacdmclaaGreatDoorQEng4
namespace Go.Proofs.YthohmpdacdmclaaGreatDoor
set_option linter.all false
open Go.RowKit
def zzi:=@List.length_cons
def yyn:=@List.drop_eq_getElem_cons
def yyf:=@List.take_append_drop
def xxo:=@List.foldl_cons
def yy9:=@List.take_length_add_append
def xxa:=@List.drop_length_add_append
def zzp:=@List.map_cons
def vvd:=@Prod.mk.injEq
def zz1:=@decide_eq_true_eq
def wwt:=@if_false
def xxh:=@List.map_map
def zz5:=@List.mem_map
def zzh:=@List.getElem?_eq_some_iff
def ww0:=@if_true
def xxx:=@Bool.false_eq_true
def zzc:=@if_pos
def zzb:=@if_neg
section
variable {P:Program} {w:Ζ} {K:Ε->Ζ->Prop}
def W5(off:Nat):∀(vs:Ξ) (k:Nat) (cells:Ξ),off+k+vs.length<=cells.length ->
  (vs.zipIdx k).foldl (λcs (p:Ε × Nat)=>cs.set (off+p.2) p.1) cells=cells.take (off+k)++vs++cells.drop (off+k+vs.length)
 | [],k,cells,h=>by simp
 | v::r,k,cells,h=>by
  simp only[zzi]at h;obtain⟨A,x,B,rfl,hA⟩:∃A x B,cells=A++x::B/\A.length=off+k:=by
   refine⟨cells.take (off+k),cells[off+k]'(by omega),cells.drop (off+k+1),?_,by simp;omega⟩;rw[<- yyn,yyf]
  have iq:off+k=A.length:=hA.symm;rw[List.zipIdx_cons,xxo,W5 off r (k+1) _ (by simp at h ⊢;omega)];have e1:(A++x::B).set (off+k) v=A++v::B:=by rw[iq];simp
  have e2:(A++v::B).take (off+(k+1))=A++[v]:=by rw[show off+(k+1)=A.length+1 by omega,yy9];simp
  have e3:(A++v::B).drop (off+(k+1)+r.length)=B.drop r.length:=by rw[show off+(k+1)+r.length=A.length+(r.length+1) by omega,xxa];simp
  have e4:(A++x::B).take (off+k)=A:=by rw[iq];simp
  have e5:(A++x::B).drop (off+k+(r.length+1))=B.drop r.length:=by rw[iq,xxa];simp
  simp only[zzi]at *
  rw[e1,e2,e3,e4,e5];simp
def bfw(vs cells:Array Ε)(off:Nat)(h:off+vs.size<=cells.size):
  vs.zipIdx.foldl (λcs (p:Ε × Nat)=>cs.setIfInBounds (off+p.2) p.1) cells=(cells.toList.take off++vs.toList++cells.toList.drop (off+vs.size)).toArray:=by
 have h1:∀(l:List (Ε × Nat)) (c:Array Ε),(l.foldl (λcs (p:Ε × Nat)=>cs.setIfInBounds (off+p.2) p.1) c).toList=l.foldl (λcs (p:Ε × Nat)=>cs.set (off+p.2) p.1) c.toList:=by
  intro l;induction l with
  | nil=>intro c;rfl
  | cons x r ih=>intro c;rw[xxo,xxo,ih];simp
 have h2:=W5 off vs.toList 0 cells.toList (by simpa using h);apply Array.toList_inj.1;rw[<- Array.foldl_toList,h1,Array.toList_zipIdx,h2];simp
def fill_eq(place:Nat->Option (Nat × Nat)):∀(ps:List (Nat × Ε)) (l:List (Nat × Nat × Ε)) (z cells:Ξ),
  (ps.map λp=>(place p.1,p.2))=(l.map λq=>(some (q.1,q.2.1),q.2.2))->gT z l=some cells->Instr.fill place z.toArray ps=some cells.toArray
 | [],[],z,cells,_,h=>by simp[gT]at h;subst h;rfl
 | [],_::_,z,cells,hm,h=>by simp at hm
 | _::_,[],z,cells,hm,h=>by simp at hm
 | (i,v)::ps,(off,size,u)::l,z,cells,hm,h=>by
  simp only[zzp,List.cons.injEq,vvd]at hm;obtain⟨⟨hp,rfl⟩,hm⟩:=hm;simp only[gT]at h;split at h
  ·rename_i hc;obtain⟨h1,h2⟩:=hc;rw[Instr.fill,hp];have h3:¬(v.cells.size≠size\/off+v.cells.size>z.length):=by omega
   have bh6:=bfw v.cells z.toArray off (by simp;omega);simp only[Bool.or_eq_true,zz1,List.size_toArray,h3,wwt];rw[bh6,<- fill_eq place ps l _ cells hm h,h1]
  cases h
def SB:∀(fs:List Field) (l:List (Nat × Nat)),Af P fs=some l->(fs.mapM λf=>do pure (f.offset,<- sizeOf f.type):Sem (List (Nat × Nat))).run P w= .ok l w
 | [],l,h=>by simp[Af]at h;subst h;simp
 | f::r,l,h=>by
  simp only[Af]at h;split at h
  ·rename_i n hn;split at h
   ·rename_i l' hl;cases h;have ih:=SB r l' hl;simp only[bind_pure_comp]at ih;simp[List.mapM_cons,run_sizeOf hn,ih]
   cases h
  cases h
def J1(pl:List (Nat × Nat))(ev:Operand->Ε):∀(ps:List (Nat × Operand)) (l:List (Nat × Nat × Ε)),p7 pl ev ps=some l ->
  ((ps.map λp=>(p.1,ev p.2)).map λp=>(pl[p.1]?,p.2))=(l.map λq=>(some (q.1,q.2.1),q.2.2))
 | [],l,h=>by simp[p7]at h;subst h;rfl
 | (i,x)::r,l,h=>by
  simp only[p7]at h;split at h
  ·rename_i off n hi;split at h
   ·rename_i l' hl;cases h;simp[hi,J1 pl ev r l' hl]
   cases h
  cases h
def aRy{t:Ι}{fields:Array Field}{i:TypeInfo}{v:Ε}{pl:List (Nat × Nat)}{ps:Array (Nat × Operand)}{ev:Operand->Ε}{l:List (Nat × Nat × Ε)}
  (ht:P.underlying t=some (.struct fields)) (hi:P.info? t=some i) (hv:i.zero=some v) (dm:Af P fields.toList=some pl) (hl:p7 pl ev ps.toList=some l)
  (h:zo v.cells.toList l λv=>K v w):eP P (do pure (.value (<- Instr.build t (ps.map λ(i,x)=>(i,ev x))))) w K:=by
 obtain⟨cells,hc,hk⟩:=h;refine .value ?_ hk;have h1:(fields.mapM λf=>do pure (f.offset,<- sizeOf f.type):Sem (Array (Nat × Nat))).run P w= .ok pl.toArray w:=by
  rw[Array.mapM_eq_mapM_toList,Sem.run_map,SB _ _ dm];rfl
 have h2:=fill_eq (λj=>pl[j]?) (ps.toList.map λp=>(p.1,ev p.2)) l _ cells (by simpa using J1 pl ev _ _ hl) hc;rw[Array.toArray_toList]at h2
 simp only[Instr.build,Sem.run_bind,A7 hi hv,zzu ht,Result.andThen_ok,h1,Array.toList_map];have h3:(λx:Nat=>(pl.toArray[x]?:Option (Nat × Nat)))=λj=>pl[j]?:=by funext j;simp
 rw[h3,h2];rfl
def aRx{t e:Ι}{i:TypeInfo}{v:Ε}{len n:Nat}{ps:Array (Nat × Operand)}{ev:Operand->Ε}{l:List (Nat × Nat × Ε)}
  (ht:P.underlying t=some (.slice e)) (hi:P.info? e=some i) (hv:i.zero=some v) (hn:kA P e=some n) (hz:n=v.cells.toList.length) (hle:len*n<=16777216)
  (hl:p7 ((List.range len).map λi=>(i*n,n)) ev ps.toList=some l) (h:zm (bE v.cells.toList len) l e len w K) :
  eP P (do pure (.value (<- Instr.buildSlice t len (ps.map λ(i,x)=>(i,ev x))))) w K:=by
 obtain⟨cells,hc,hk⟩:=h;refine .value ?_ hk;have hlen:∀(ps:List (Nat × Operand)) (l:List (Nat × Nat × Ε)),p7 ((List.range len).map λi=>(i*n,n)) ev ps=some l ->
   ((ps.map λp=>(p.1,ev p.2)).map λp=>(some (p.1*n,n),p.2))=(l.map λq=>(some (q.1,q.2.1),q.2.2)):=λps l h=>by
  have:=J1 _ ev ps l h;rw[<- this];rw[xxh,xxh];have jR:∀p∈ps,p.1<len:=by
   intro p hp;have hm:(((List.range len).map λi=>(i*n,n))[p.1]?,ev p.2)∈((ps.map λp=>(p.1,ev p.2)).map λp=>(((List.range len).map λi=>(i*n,n))[p.1]?,p.2)):=by
    simp only[xxh,zz5];exact⟨p,hp,rfl⟩
   rw[this]at hm
   obtain⟨q,_,hq⟩:=zz5.1 hm;simp only[vvd]at hq;have:=(zzh.1 hq.1.symm).1;simpa using this
  refine List.map_congr_left λp hp=>?_;simp[jR p hp]
 have h2:=fill_eq (λi=>some (i*n,n)) (ps.toList.map λp=>(p.1,ev p.2)) l _ cells (hlen _ _ hl) hc;have hzz:n=v.cells.size:=by simpa using hz
 subst hzz;have hr:=KS v.cells len;simp only[Instr.buildSlice,Sem.run_bind,zzu ht,Result.andThen_ok,run_sizeOf hn,show ¬len*v.cells.size>2 ^ 24 by omega,wwt];by_cases h0:len*v.cells.size=0
 ·have hz0:bE v.cells.toList len=[]:=zzl (by rw[kV];simpa using h0);rw[hz0]at h2
  have vv:(Array.range 0).map (λi=>(#[]:Array Ε)[i % (#[]:Array Ε).size]!) = #[]:=Array.eq_empty_of_size_eq_zero (by simp);simp only[h0,ww0,pure_bind,vv,Array.toList_map];rw[show ([]:Ξ).toArray = #[] from rfl]at h2
  rw[h2];rfl
 simp only[h0,wwt,pure_bind,Sem.run_bind,A7 hi hv,Result.andThen_ok,hr,Array.toList_map];rw[h2];rfl
end
open Go.RowKit
section
variable {P:Program} {w:Ζ} {K:Ε->Ζ->Prop}
def Kk{sz n:Nat}{y:Ε}{cs:Ξ}{w':Ζ}(h:jw w sz y n cs)(hw:∀a,w'.cell? a=w.cell? a):
  (Builtin.firstCells sz n y).run P w'= .ok cs.toArray w'/\(Builtin.lenOf y).run P w'= .ok n w':=by
 unfold jw at h;split at h
 ·obtain⟨rfl,h1,h2⟩:=h;exact⟨run_firstCells_some w' sz n _ _ _ cs h1 (λj v hj=>by rw[hw];exact h2 j v hj),rfl⟩
 ·obtain⟨rfl,rfl⟩:=h;exact⟨run_firstCells_none w' sz n _ _,rfl⟩
 ·rename_i s;obtain⟨rfl,rfl⟩:=h;refine⟨?_,rfl⟩;have:(s.extract 0 s.size)=s:=by simp
  simp only[Builtin.firstCells,this,Sem.run_pure,Result.ok.injEq,and_true];apply Array.ext';simp
 cases h
def Sf(w:Ζ)(a:Addr):w.drew.cell? a=w.cell? a:=rfl
def P2{t u e ty:Ι}{d:TypeDesc}{i:TypeInfo}{v:Ε}{x y:Ε}(ht:P.underlying t=some (.slice e))(hu:P.underlying u=some d)(hd:∀k,d≠.int k)
  (hi:P.info? e=some i) (hv:i.zero=some v) (hn:kA P e=some v.cells.size)
  (h:zt v.cells.size (uD P e) v.cells.toList e x y w K):eP P (do pure (.value (<- Builtin.append_ #[t,u] ty #[x,y]))) w K:=by
 obtain⟨a,len,cap,n,cs,rfl,gK,hb,hlen,h1,h2⟩:=h;have mj:uD P e=i.bytes:=by simp[uD,hi]
 rw[mj]at hb
 obtain⟨r1,r2⟩:=Kk (P:=P) gK (λ_=>rfl);have hz:(underlying u).run P w= .ok d w:=zzu hu w;have Fl:(match d with | .int _=>true|_=>false)=false:=by
  cases d with
  | int k=>exact absurd rfl (hd k)
  | _=>rfl
 by_cases hc:len+n<=cap
 ·have hk:=h1 hc;cases a with
  | none=>
   refine .value ?_ hk;simp only[Builtin.append_,List.getElem?_toArray,List.getElem?_cons_zero,List.getElem?_cons_succ,Sem.run_bind,zzu ht,Result.andThen_ok,run_sizeOf hn,hz,Sem.run_pure,xxx,wwt,r2,hc,ww0,Bool.not_false,r1]
  | some p=>
   obtain⟨w',hs,hk⟩:=Kn (P:=P) _ _ _ _ _ hk;refine .value ?_ hk;simp only[Builtin.append_,List.getElem?_toArray,List.getElem?_cons_zero,List.getElem?_cons_succ,Sem.run_bind,zzu ht,Result.andThen_ok,run_sizeOf hn,hz,Sem.run_pure,xxx,wwt,r2,hc,ww0,Bool.not_false,r1,hs]
 obtain⟨mZ,ho,hk⟩:=h2 (by omega);have hk:=hk (grownCap w (len+n) cap e) (grownCap_ge _ _ _ _) (by have:=grownCap_le_maxLen w (len+n) cap e (by simp only[maxLen];omega);simpa [maxLen] using this);obtain⟨q1,_⟩:=Kk (P:=P) gK (Sf w);obtain⟨q2,_⟩:=Kk (P:=P) (w':=w.drew) ho (Sf w);refine .value ?_ hk;have hm:¬(((len+n:Nat):Int)>IntKind.i64.max/\(False\/i.bytes=0)):=by
  intro hh;have:IntKind.i64.max=9223372036854775807:=rfl;omega
 have pO:=growslice_fits (bytes:=i.bytes) (show cap<len+n by omega) hb;have bh3:¬(Builtin.nextslicecap (len+n) cap*i.bytes>2 ^ 48):=by simpa using pO
 have Jd:Builtin.zeroCells v.cells (grownCap w (len+n) cap e-(len+n))=(bE v.cells.toList (grownCap w (len+n) cap e-(len+n))).toArray:=KS v.cells _;have hti:∀w,(typeInfo e).run P w= .ok i w:=λw=>by simp[typeInfo,hi]
 have pV:mZ.toArray++cs.toArray++(bE v.cells.toList (grownCap w (len+n) cap e-(len+n))).toArray=(mZ++cs++bE v.cells.toList (grownCap w (len+n) cap e-(len+n))).toArray:=by simp
 simp only[Builtin.append_,List.getElem?_toArray,List.getElem?_cons_zero,List.getElem?_cons_succ,Sem.run_bind,zzu ht,Result.andThen_ok,run_sizeOf hn,hz,Sem.run_pure,xxx,wwt,r2,hc,Bool.not_false,ww0,hti,hm,bh3,
  run_choose,Question.forced,run_askRoom]
 show ((Builtin.firstCells v.cells.size len _).run P w.drew).andThen _=_;rw[q2];simp only[Result.andThen_ok];show ((Builtin.firstCells v.cells.size n _).run P w.drew).andThen _=_;rw[q1];simp only[Result.andThen_ok,A7 hi hv];show ((newRow e (mZ.toArray++cs.toArray++Builtin.zeroCells v.cells (grownCap w (len+n) cap e-(len+n)))).run P w.drew).andThen _=_;rw[Jd,pV];rfl
def Rs{T:List Bool}(hT:Calls.oM P T){f:FuncId}{first captured args:Ξ}(hf:T.getD f false=true)(h:zJ P f (first++args++captured) w K):
  eP P (do let d <- Deferred.ofValue (.func (.func f) first.toArray captured.toArray) args.toArray;invoke d.target d.args) w K:=by
 obtain⟨fn,h1,h2,h3⟩:=hT f hf;refine .inr (.inr ⟨f,(first++args++captured).toArray,?_,h⟩);have e1:first.toArray++args.toArray++captured.toArray=(first++args++captured).toArray:=by simp
 simp only[Deferred.ofValue,invoke,callFunc,pure_bind,Sem.run_bind,run_program,Result.andThen_ok,h1,h2,h3,xxx,wwt,e1];rfl
def br0{f:FuncId}{args:Ξ}(h:Qi P f args w K):eP P (do let d <- Deferred.ofValue (.func (.func f) #[] #[]) args.toArray;invoke d.target d.args) w K:=by
 obtain⟨v,w',h1,h2⟩:=h;refine .inl ⟨v,w',?_,h2⟩;have e:(#[]:Array Ε)++args.toArray ++ #[]=args.toArray:=by simp
 simp only[Deferred.ofValue,invoke,pure_bind,e,h1]
def de:Op->List Operand
 | .alloc _=>[]
 | .move x | .assign x | .box _ x | .load _ x | .nilCheck x | .unOp _ _ x | .convert _ _ x | .fieldAddr _ x _ | .field _ x _ | .extract x _=>[x]
 | .pick c a b=>[c,a,b]
 | .build _ ps | .buildSlice _ _ ps=>ps.toList.map (·.2)
 | .store _ a v | .binOp _ _ a v _ | .makeSlice _ a v | .indexAddr _ a v | .index _ a v | .lookup _ a v _ | .mapEntry _ a v=>[a,v]
 | .makeFunc _ first captured=>first.toList++captured.toList
 | .slice _ x l h m=>x::(l.toList++h.toList++m.toList)
 | .mapUpdate _ m k v | .entryStore _ m k v | .insert _ m k v=>[m,k,v]
 | .call c=>match c.callee with
  | .value f=>f::c.args.toList
  | _=>c.args.toList
 | _=>[]
def J0{pl:List (Nat × Nat)}{ev ρ:Operand->Ε}:∀(ps:List (Nat × Operand)),(∀x∈ps.map (·.2),ρ x=ev x)->p7 pl ρ ps=p7 pl ev ps
 | [],_=>rfl
 | (i,x)::r,h=>by
  simp only[p7];rw[J0 r (λy hy=>h y (by simp only[zzp,yya];exact .inr hy)),h x (by simp)]
def FE{ev ρ:Operand->Ε}(xs:Array Operand)(h:∀x∈xs.toList,ρ x=ev x):xs.map ρ=(xs.toList.map ev).toArray:=by
 apply Array.ext';simp only[Array.toList_map];exact List.map_congr_left h
set_option maxHeartbeats 1000000 in
def JS{T:List Bool}(hT:Calls.oM P T){o:Oper}{ρ ev:Operand->Ε}(hF:∀f,ρ (.func f)= .func (.func f) #[] #[])(hρ:∀x∈de o.op,ρ x=ev x)(h:dZ P T o.op o.type ev w K):eP P (execOp ρ o) w K:=by
 obtain⟨dst,op,ty,pos,after,guard⟩:=o;simp only at h hρ;unfold execOp;cases op with
 | move x=>exact .inl ⟨_,_,rfl,by rw[hρ x (by simp[de])];exact h⟩
 | assign x=>exact .inl ⟨_,_,rfl,by rw[hρ x (by simp[de])];exact h⟩
 | alloc e=>
  simp only[dZ]at h;split at h
  ·rename_i z hz;exact aIb hz h
  cases h
 | box e x=>
  simp only[dZ]at h;simp only[hρ x (by simp[de])];split at h
  ·exact Rf (by rw[ux h.1]) h.2
  ·obtain⟨vs,hx,h⟩:=h;exact Rf (by rw[hx];rfl) h
  cases h
 | build t ps=>
  simp only[dZ]at h;split at h
  ·rename_i fields ht;split at h
   ·rename_i z hz;split at h
    ·rename_i pl dm;split at h
     ·rename_i l hl;obtain⟨i,v,hi,hv,rfl⟩:=yC hz;rw[<- J0 ps.toList (by simpa [de] using hρ)]at hl
      exact aRy ht hi hv dm hl h
     cases h
    cases h
   cases h
  cases h
 | buildSlice t len ps=>
  simp only[dZ]at h;split at h
  ·rename_i e ht;split at h
   ·rename_i z hz;split at h
    ·rename_i n hn;split at h
     ·rename_i l hl;split at h
      ·rename_i Cm o0;obtain⟨i,v,hi,hv,rfl⟩:=yC hz;rw[<- J0 ps.toList (by simpa [de] using hρ)]at hl
       exact aRx ht hi hv hn (beq_iff.1 Cm) (Nat.le_of_ble_eq_true o0) hl h
      cases h
     cases h
    cases h
   cases h
  cases h
 | load t x=>
  simp only[dZ]at h;simp only[hρ x (by simp[de])];split at h
  ·rename_i ht;exact bnu ht h
  ·rename_i n ht;exact bn2 ht h
  cases h
 | store t x v=>
  simp only[dZ]at h;simp only[hρ x (by simp[de]),hρ v (by simp[de])];split at h
  ·rename_i ht;split at h
   ·rename_i hs;exact bz7 ht hs h
   cases h
  ·rename_i n ht;exact bz8 ht h
  cases h
 | nilCheck x=>
  obtain⟨a,hx,hk⟩:=h;refine .inl ⟨_,_,?_,hk⟩;simp only[hρ x (by simp[de]),hx];rfl
 | binOp op t x y u=>
  simp only[dZ]at h;simp only[hρ x (by simp[de]),hρ y (by simp[de])];split at h
  ·exact Rb h
  ·exact Rb h
  ·split at h
   ·rename_i hm;exact bdl hm h
   cases h
  ·split at h
   ·rename_i hm;exact bqi hm h
   cases h
  ·rename_i d ht;exact bdo ht h
  ·rename_i d ht;exact bqj ht h
  cases h
 | unOp op t x=>
  cases op with
  | not=>simp only[hρ x (by simp[de])];exact bqs h
  | neg=>simp only[hρ x (by simp[de])];exact bqh h
  | xor=>simp only[hρ x (by simp[de])];exact a_g h
  | _=>cases h
 | convert s d x=>
  simp only[dZ]at h;simp only[hρ x (by simp[de])];split at h
  ·rename_i e k hs hd;exact a_q hs hd h
  ·rename_i hs hd;exact a_r hs hd h
  ·exact h.nY
  ·exact h.nY
  exact dP.nY h
 | makeFunc fn first captured=>
  simp only[dZ]at h;split at h
  ·refine .inl ⟨_,_,rfl,?_⟩;rw[FE first (λx hx=>hρ x (by simp[de];left;simpa using hx)),FE captured (λx hx=>hρ x (by simp[de];right;simpa using hx))];exact h
  cases h
 | makeSlice t x y=>
  simp only[dZ]at h;simp only[hρ x (by simp[de]),hρ y (by simp[de])];split at h
  ·rename_i e ht;split at h
   ·rename_i z hz;split at h
    ·rename_i n hn;split at h
     ·rename_i hb;obtain⟨i,v,hi,hv,rfl⟩:=yC hz;refine bo9 ht hi hv (by rw[hn,beq_iff.1 hb];simp) h
     cases h
    cases h
   cases h
  cases h
 | slice t x lo hi mx=>
  have e1:lo.map ρ=lo.map ev:=by cases lo with|none=>rfl|some y=>simp[hρ y (by simp[de])]
  have e2:hi.map ρ=hi.map ev:=by cases hi with|none=>rfl|some y=>simp[hρ y (by simp[de])]
  have e3:mx.map ρ=mx.map ev:=by cases mx with|none=>rfl|some y=>simp[hρ y (by simp[de])]
  simp only[dZ]at h;simp only[hρ x (by simp[de]),e1,e2,e3];split at h
  ·rename_i e ht;split at h
   ·rename_i n hn;split at h
    ·cases h
    rename_i dX;refine bzg ht hn ?_ h;intro hm;cases mx with
    | none=>simp at hm
    | some m=>cases hi with
     | none=>exact absurd rfl (dX m rfl)
     | some y=>rfl
   cases h
  ·rename_i ht;split at h
   ·exact bzf ht h
   cases h
  cases h
 | fieldAddr s x f=>
  simp only[dZ]at h;simp only[hρ x (by simp[de])];split at h
  ·rename_i off hf;exact bfh hf h
  cases h
 | indexAddr t x i=>
  simp only[dZ]at h;simp only[hρ x (by simp[de]),hρ i (by simp[de])];split at h
  ·rename_i e ht;split at h
   ·rename_i n hn;exact bmb ht hn h
   cases h
  ·rename_i len e ht;split at h
   ·rename_i n hn;exact bma ht hn h
   cases h
  cases h
 | extract x i=>simp only[hρ x (by simp[de])];exact bdr h
 | field t x f=>simp only[hρ x (by simp[de])];exact dP.nY h
 | index t x i=>simp only[hρ x (by simp[de]),hρ i (by simp[de])];exact dP.nY h
 | lookup t x i ok=>simp only[hρ x (by simp[de]),hρ i (by simp[de])];exact dP.nY h
 | mapUpdate t m k x=>
  simp only[hρ m (by simp[de]),hρ k (by simp[de]),hρ x (by simp[de])];obtain⟨v,w',hr,hk⟩:=h;simp only[Sem.run_bind,Sem.run_pure]at hr;cases hm:(Instr.mapUpdate t (ev m) (ev k) (ev x)).run P w with
  | ok u w2=>rw[hm]at hr;cases hr;exact .inr (.inl ⟨w',by simp[hm],hk⟩)
  | halt e w2=>rw[hm]at hr;cases hr
 | insert t m k x=>
  simp only[hρ m (by simp[de]),hρ k (by simp[de]),hρ x (by simp[de])];obtain⟨v,w',hr,hk⟩:=h;simp only[Sem.run_bind,Sem.run_pure]at hr;cases hm:(Instr.mapUpdate t (ev m) (ev k) (ev x)).run P w with
  | ok u w2=>rw[hm]at hr;cases hr;exact .inr (.inl ⟨w',by simp[hm],hk⟩)
  | halt e w2=>rw[hm]at hr;cases hr
 | mapEntry t m k=>simp only[hρ m (by simp[de]),hρ k (by simp[de])];exact zQ.nY h
 | entryStore t m k x=>
  simp only[hρ m (by simp[de]),hρ k (by simp[de]),hρ x (by simp[de])];obtain⟨v,w',hr,hk⟩:=h;simp only[Sem.run_bind,Sem.run_pure]at hr;cases hm:(Instr.entryStore t (ev m) (ev k) (ev x)).run P w with
  | ok u w2=>rw[hm]at hr;cases hr;exact .inr (.inl ⟨w',by simp[hm],hk⟩)
  | halt e w2=>rw[hm]at hr;cases hr
 | makeMap t r=>
  cases r with
  | none=>exact .inl ⟨_,_,rfl,h⟩
  | some x=>cases h
 | call c=>
  obtain⟨callee,args,wc⟩:=c;cases callee with
  | value g=>
   have ha:args.map ρ=(args.toList.map ev).toArray:=FE args (λx hx=>hρ x (by simp[de];right;simpa using hx));cases g with
   | func f=>
    simp only[dZ]at h;split at h
    ·rename_i hf;have:=Rs hT (first:=[]) (captured:=[]) hf (by simpa using h);simp only[resolve,ha,hF f];exact this
    simp only[resolve,ha,hF f];exact br0 h
   | tmp t=>
    obtain⟨f,first,captured,hg,hf,h⟩:=h;have:=Rs hT hf h;have wJ:ρ (.tmp t)=ev (.tmp t):=hρ _ (by simp[de]);simp only[resolve,ha,wJ,hg];simpa using this
   | _=>cases h
  | invoke r m=>cases h
  | builtin b=>
   have ha:args.map ρ=(args.toList.map ev).toArray:=FE args (λx hx=>hρ x (by simpa [de] using hx));have hb:(do let d <- resolve ρ ⟨.builtin b,args,wc⟩ ty;invoke d.target d.args)=builtin b wc ty (args.map λ| .const _=>true|_=>false) (args.toList.map ev).toArray:=by
    simp only[resolve,ha];rfl
   show eP P (do let d <- resolve ρ ⟨.builtin b,args,wc⟩ ty;invoke d.target d.args) w K;rw[hb];cases b with
   | len=>
    simp only[dZ]at h;split at h
    ·rename_i x t hx ht;have Ik:wc = #[t]:=by apply Array.ext';exact ht
     rw[hx];subst Ik;split at h
     ·rename_i e hs;exact bni hs h
     ·rename_i hs;exact bnj hs h
     exact dP.nY h
    cases h
   | min=>
    simp only[dZ]at h;split at h
    ·rename_i x y hx;rw[hx];exact bo6 h
    cases h
   | max=>
    simp only[dZ]at h;split at h
    ·rename_i x y hx;rw[hx];exact boc h
    cases h
   | append=>
    simp only[dZ]at h;split at h
    ·rename_i x y t u hx ht;have Ik:wc = #[t,u]:=by apply Array.ext';exact ht
     rw[hx];subst Ik;split at h
     ·rename_i e hs;split at h
      ·rename_i z hz;obtain⟨i,v,hi,hv,rfl⟩:=yC hz;split at h
       ·rename_i n hn;split at h
        ·rename_i e' hb hu;have mj:=beq_iff.1 hb;simp at mj;subst mj;exact P2 hs hu (λk hk=>by cases hk) hi hv hn h
        ·rename_i hb hu;have mj:=beq_iff.1 hb;simp at mj;subst mj;exact P2 hs hu (λk hk=>by cases hk) hi hv hn h
        ·exact zQ.nY h
        cases h
       cases h
      cases h
     cases h
    cases h
   | copy=>exact h.nY
   | delete=>exact h.nY
   | cap=>exact dP.nY h
   | clear=>exact h.nY
   | _=>cases h
 | _=>cases h
end
open Go.RowKit
def cB(x:Ε)(A B:Prop):Prop:=∃r,x= .bool r/\(r=true->A)/\(r=false->B)
def l4(E:Env)(x:Operand)(e:gN):Env:=match x with
 | .tmp t=>(t,e)::E
 | _=>E
def oF(n:Nat)(E:Env)(d:Option Nat)(x:Option gN)(K:Env->Prop):Prop:=match x with
 | some e=>K (E.put n d e)
 | none=>False
def sq(P:Program)(T:List Bool)(n:Nat)(o:Oper)(E:Env)(w:Ζ)(K:Env->Ζ->Prop):Prop:=
 match o.op with
 | .move x=>oF n E o.dst (E.gd x) λE'=>K E' w
 | .assign x=>oF n E o.dst (E.gd x) λE'=>K E' w
 | .pick c a b=>match E.gd c with
  | some .t=>oF n E o.dst (E.gd a) λE'=>K E' w
  | some .f=>oF n E o.dst (E.gd b) λE'=>K E' w
  | some (.v x)=>cB x (oF n (l4 E c .t) o.dst (Env.gd (l4 E c .t) a) λE'=>K E' w) (oF n (l4 E c .f) o.dst (Env.gd (l4 E c .f) b) λE'=>K E' w)
  | some .u=>False
  | none=>False
 | op=>match E.hasAll (de op) with
  | true=>dZ P T op o.type E.ev w λv w'=>K (E.put n o.dst (.v v)) w'
  | false=>False
def tN(ops:List Oper)(g:Option (Nat × Bool))(E:Env)(run skip:Env->Prop):Prop:=match g with
 | none=>run E
 | some (j,want)=>match (ops[j]?).bind (·.dst) with
  | some g=>match E.get g with
   | some .t=>(match want with|true=>run E|false=>skip E)
   | some .f=>(match want with|true=>skip E|false=>run E)
   | some (.v x)=>cB x (match want with|true=>run ((g,.t)::E)|false=>skip ((g,.t)::E)) (match want with|true=>skip ((g,.f)::E)|false=>run ((g,.f)::E))
   | some .u=>skip E
   | none=>False
  | none=>False
def Di(P:Program)(T:List Bool)(n:Nat)(ops:List Oper)(K:Env->Ζ->Prop):List Oper->Env->Ζ->Prop
 | [],E,w=>K E w
 | o::r,E,w=>tN ops o.guard E (λE'=>sq P T n o E' w λGt w'=>Di P T n ops K r Gt w') (λE'=>Di P T n ops K r (E'.put n o.dst .u) w)
def iI(W:Α)(a a':Act):Prop:=∀t,t∉W->a'.tmps[t]?=a.tmps[t]?
def iI.refl(W:Α)(a:Act):iI W a a:=λ_ _=>rfl
def iI.trans{W:Α}{a b c:Act}(h:iI W a b)(k:iI W b c):iI W a c:=λt ht=>(k t ht).trans (h t ht)
def iI.mono{W W':Α}{a b:Act}(h:iI W a b)(hw:∀t∈W,t∈W'):iI W' a b:=λt ht=>h t λx=>ht (hw t x)
def iI.put(a:Act)(d:Option Nat)(v:Ε)(W:Α)(hd:∀t,d=some t->t∈W):iI W a (a.put d v):=by
 cases d with
 | none=>exact .refl _ _
 | some d=>
  intro t ht;have:d≠t:=λe=>ht (hd t (by rw[e]));simp[Act.put,Array.getElem?_setIfInBounds_ne this]
def eC.set{X:Α}{n:Nat}{E:Env}{a:Act}(h:eC X n E a){t:Nat}{e:gN}(he:t∉X->a.tmps[t]?=some e.val):eC X n ((t,e)::E) a:=by
 refine⟨h.size,h.defers,λu e' hX hu=>?_⟩;simp only[Env.get]at hu;split at hu
 ·rename_i hb;obtain rfl:=beq_iff.1 hb;cases hu;exact he hX
 exact h.get u e' hX hu
def eC.l4{X:Α}{n:Nat}{E:Env}{a:Act}(h:eC X n E a){x:Operand}{v:Ε}{e:gN}(hx:E.gd x=some (.v v))(hv:e.val=v):eC X n (l4 E x e) a:=by
 cases x with
 | tmp t=>exact h.set (λhX=>by rw[hv];exact h.get t _ hX hx)
 | const v=>exact h
 | global g=>exact h
 | func f=>exact h
def A3{X:Α}{n:Nat}{E:Env}{d:Option Nat}{x:Operand}{K:Env->Prop}(h:oF n E d (E.gd x) K){a:Act}(hA:eC X n E a)(hX:vV X x):∃E',eC X n E' (a.put d (a.eval x))/\K E':=by
 unfold oF at h;split at h
 ·rename_i e he;exact⟨_,by rw[hA.gd hX he];exact hA.put d e,h⟩
 cases h
section
variable {P:Program} {T:List Bool} {n:Nat} {X:Α}
def Xl(hT:Calls.oM P T){o:Oper}{E:Env}{w:Ζ}{K:Env->Ζ->Prop}(h:sq P T n o E w K){a:Act}(hA:eC X n E a)(hX:∀x∈de o.op,vV X x){next:Act->Ζ->Prop}{Q:Exit->Act->Ζ->Prop}
  (hn:∀E' v w',eC X n E' (a.put o.dst v)->K E' w'->next (a.put o.dst v) w'):o.wp P a w next Q:=by
 unfold sq at h;split at h
 ·rename_i x dY;obtain⟨E',h1,h2⟩:=A3 h hA (hX x (by simp[dY,de]));refine eP.upon (K:=λv w'=>∃E',eC X n E' (a.put o.dst v)/\K E' w') (.inl ⟨a.eval x,w,by simp[execOp,dY],E',h1,h2⟩) ?_;rintro v w' ⟨E',h1,h2⟩;exact hn E' v w' h1 h2
 ·rename_i x dY;obtain⟨E',h1,h2⟩:=A3 h hA (hX x (by simp[dY,de]));refine eP.upon (K:=λv w'=>∃E',eC X n E' (a.put o.dst v)/\K E' w') (.inl ⟨a.eval x,w,by simp[execOp,dY],E',h1,h2⟩) ?_;rintro v w' ⟨E',h1,h2⟩;exact hn E' v w' h1 h2
 ·rename_i c x y dY;have key:∀(r:Bool),a.eval c= .bool r->(∃E',eC X n E' (a.put o.dst (if r then a.eval x else a.eval y))/\K E' w)->o.wp P a w next Q:=λr hr h=>by
   refine eP.upon (K:=λv w'=>∃E',eC X n E' (a.put o.dst v)/\K E' w') (.inl ⟨_,w,by simp[execOp,dY,hr,asBool],h⟩) ?_;rintro v w' ⟨E',h1,h2⟩;exact hn E' v w' h1 h2
  split at h
  ·rename_i hc;exact key true (hA.gd (hX c (by simp[dY,de])) hc) (A3 h hA (hX _ (by simp[dY,de])))
  ·rename_i hc;exact key false (hA.gd (hX c (by simp[dY,de])) hc) (A3 h hA (hX _ (by simp[dY,de])))
  ·rename_i v hc;obtain⟨r,rfl,h1,h2⟩:=h;cases r with
   | true=>
    exact key true (hA.gd (hX c (by simp[dY,de])) hc) (A3 (h1 rfl) (hA.l4 hc rfl) (hX _ (by simp[dY,de])))
   | false=>exact key false (hA.gd (hX c (by simp[dY,de])) hc) (A3 (h2 rfl) (hA.l4 hc rfl) (hX _ (by simp[dY,de])))
  ·cases h
  cases h
 split at h
 ·rename_i hh;refine eP.upon (JS hT (λ_=>rfl) (λx hx=>hA.ev (hX x hx) (Env.EE hh x hx)) h) ?_;intro v w' hk;exact hn _ v w' (hA.put o.dst (.v v)) hk
 cases h
def bgl{ops:Array Oper}{g:Option (Nat × Bool)}{o:Oper}(hg:o.guard=g){E:Env}{run skip:Env->Prop}(h:tN ops.toList g E run skip){a:Act}(hA:eC X n E a)
  (hX:∀j want s,g=some (j,want)->(ops[j]?).bind (·.dst)=some s->s∉X) :
  ∃E',eC X n E' a/\((Region.wanted o (yielded ops a.tmps)=true/\run E')\/(Region.wanted o (yielded ops a.tmps)=false/\skip E')):=by
 subst hg;unfold tN at h;split at h
 ·rename_i hg;exact⟨E,hA,.inl ⟨by simp[Region.wanted,hg],h⟩⟩
 rename_i j want hg;split at h
 ·rename_i s hs;have hw:∀b,a.tmps[s]?=some (.bool b)->Region.wanted o (yielded ops a.tmps)=(b == want):=λb hb=>by
   simp only[Region.wanted,hg,yielded];rw[show ((ops[j]?).bind (·.dst))=some s by simpa using hs];simp only[Option.bind_some,hb];cases b<;>cases want<;>rfl
  have mr:s∉X:=hX j want s hg (by simpa using hs);split at h
  ·rename_i he;have:=hw true (hA.get _ _ mr he);split at h
   ·exact⟨E,hA,.inl ⟨this,h⟩⟩
   exact⟨E,hA,.inr ⟨this,h⟩⟩
  ·rename_i he;have:=hw false (hA.get _ _ mr he);split at h
   ·exact⟨E,hA,.inr ⟨this,h⟩⟩
   exact⟨E,hA,.inl ⟨this,h⟩⟩
  ·rename_i x he;obtain⟨r,rfl,h1,h2⟩:=h;have hr:=hw r (hA.get _ _ mr he);cases r with
   | true=>
    have h1:=h1 rfl;have iq:eC X n ((s,.t)::E) a:=hA.set (λ_=>hA.get s (.v (.bool true)) mr he);split at h1
    ·exact⟨_,iq,.inl ⟨hr,h1⟩⟩
    exact⟨_,iq,.inr ⟨hr,h1⟩⟩
   | false=>
    have h2:=h2 rfl;have iq:eC X n ((s,.f)::E) a:=hA.set (λ_=>hA.get s (.v (.bool false)) mr he);split at h2
    ·exact⟨_,iq,.inr ⟨hr,h2⟩⟩
    exact⟨_,iq,.inl ⟨hr,h2⟩⟩
  ·rename_i he;have hb:=hA.get _ _ mr he;refine⟨E,hA,.inr ⟨?_,h⟩⟩;simp only[Region.wanted,hg,yielded];rw[show ((ops[j]?).bind (·.dst))=some s by simpa using hs];simp only[Option.bind_some,hb];cases want<;>rfl
  cases h
 cases h
def rF(l:List Oper):Α:=l.filterMap (·.dst)
def JY(hT:Calls.oM P T){ops:Array Oper}{K:Env->Ζ->Prop}{Q:Exit->Act->Ζ->Prop}{W:Α}{a0:Act}(hn:∀E' a' w',eC [] n E' a'->iI W a0 a'->K E' w'->Q .normal a' w'):
  ∀(l:List Oper) (E:Env) (a:Act) (w:Ζ),(∀t∈rF l,t∈W)->iI W a0 a->eC [] n E a->Di P T n ops.toList K l E w->wpList P ops Q l a w
 | [],E,a,w,_,hk,hA,h=>hn E a w hA hk h
 | o::r,E,a,w,hW,hk,hA,h=>by
  unfold Di at h;have hd:∀t,o.dst=some t->t∈W:=λt ht=>hW t (by simp[rF,ht]);have EC:∀t∈rF r,t∈W:=λt ht=>hW t (by
   unfold rF at ht ⊢;rw[List.filterMap_cons];split
   ·exact ht
   exact List.mem_cons_of_mem _ ht)
  obtain⟨E',iq,⟨hw,h⟩|⟨hw,h⟩⟩:=bgl rfl h hA (λ_ _ _ _ _ h=>by cases h)
  ·unfold wpList;rw[zzc hw];refine .inl (Xl hT h iq (λx _=>.nil x) ?_);intro E2 v w' od hK;exact JY hT hn r E2 _ w' EC (hk.trans (iI.put a o.dst v W hd)) od hK
  unfold wpList;rw[zzb (by rw[hw];exact Bool.false_ne_true)];exact JY hT hn r _ _ w EC (hk.trans (iI.put a o.dst undef W hd)) (iq.put o.dst .u) h
end
inductive Ex where
 | normal
 | exit (id:Nat)
 | ret
def Ex.to:Ex->Exit
 | .normal=>.normal
 | .exit i=>.exit i
 | .ret=>.ret
def tJ:Code->Option Nat
 | .region id _ _=>some id
 | .seq a b=>match tJ a with
  | some i=>some i
  | none=>tJ b
 | .cond _ a b=>match tJ a with
  | some i=>some i
  | none=>tJ b
 | .block _ c=>tJ c
 | .loop c=>tJ c
 | .scope c=>tJ c
 | _=>none
def wr:Code->Α
 | .region _ ops _=>rF ops.toList
 | .seq a b=>wr a++wr b
 | .cond _ a b=>wr a++wr b
 | .block _ c=>wr c
 | .loop c=>wr c
 | .scope c=>wr c
 | _=>[]
abbrev Marks:=List (Nat × Α × Α)
def Marks.find:Marks->Option Nat->Option (Α × Α)
 | _,none=>none
 | [],_=>none
 | (k,x)::r,some i=>match Nat.beq k i with
  | true=>some x
  | false=>Marks.find r (some i)
def Dc(t:Nat):Α->Bool
 | []=>false
 | u::r=>match Nat.beq u t with
  | true=>true
  | false=>Dc t r
def B2(W:Α):Α->Bool
 | []=>true
 | l::r=>match Dc l W with
  | true=>false
  | false=>B2 W r
def AR(E R:Env):Α->Env
 | []=>R
 | l::r=>match E.get l with
  | some e=>(l,e)::AR E R r
  | none=>AR E R r
def mC(E:Env):Α->Option Ξ
 | []=>some []
 | s::r=>match E.get s with
  | some e=>match mC E r with
   | some vs=>some (e.val::vs)
   | none=>none
  | none=>none
def D3(R:Env):Α->Ξ->Env
 | s::r,v::vs=>(s,.v v)::D3 R r vs
 | _,_=>R
def DY:Nat->(Ξ->Prop)->Prop
 | 0,K=>K []
 | k+1,K=>∀v:Ε,DY k λl=>K (v::l)
def C8:Α->Nat
 | []=>0
 | _::r=>C8 r+1
def KQ(o:Option Ξ)(K:Ξ->Prop):Prop:=match o with
 | some l=>K l
 | none=>False
def Zr:∀(k:Nat) (K:Ξ->Prop),DY k K->∀l:Ξ,l.length=k->K l
 | 0,K,h,l,hl=>by rw[zzl hl];exact h
 | k+1,K,h,[],hl=>by simp at hl
 | k+1,K,h,v::l,hl=>Zr k _ (h v) l (by simpa using hl)
def Js:∀l:Α,C8 l=l.length
 | []=>rfl
 | _::r=>by simp[C8,Js r]
def KE{E:Env}:∀{S:Α} {vs:Ξ},mC E S=some vs->vs.length=S.length
 | [],vs,h=>by simp[mC]at h;subst h;rfl
 | s::r,vs,h=>by
  simp only[mC]at h;split at h
  ·split at h
   ·rename_i Bh hv;cases h;simp[KE hv]
   cases h
  cases h
def Vw{t:Nat}:∀{l:Α},Dc t l=true↔t∈l
 | []=>by simp[Dc]
 | u::r=>by
  simp only[Dc,yya];split
  ·rename_i h;simp[(beq_iff.1 h).symm]
  rename_i h;have cY:t≠u:=λe=>by rw[beq_iff.2 e.symm]at h;cases h
  rw[Vw];simp[cY]
def y9{W:Α}:∀{L:Α},B2 W L=true->∀l∈L,l∉W
 | [],_,l,hl=>by cases hl
 | x::r,h,l,hl=>by
  simp only[B2]at h;split at h
  ·cases h
  rename_i hm;rcases yya.1 hl with rfl|hl
  ·intro jR;rw[Vw.2 jR]at hm;cases hm
  exact y9 h l hl
def FB{n:Nat}{E R:Env}{a a':Act}(hA:eC [] n E a)(hR:eC [] n R a'){W:Α}(hk:iI W a a'):∀{L:Α},(∀l∈L,l∉W)->eC [] n (AR E R L) a'
 | [],_=>hR
 | l::r,h=>by
  simp only[AR];split
  ·rename_i e he;exact (FB hA hR hk (λx hx=>h x (List.mem_cons_of_mem _ hx))).set (λ_=>by rw[hk l (h l (by simp))];exact hA.get l e (by simp) he)
  exact FB hA hR hk (λx hx=>h x (List.mem_cons_of_mem _ hx))
def Hh{n:Nat}{E R:Env}{a:Act}(hA:eC [] n E a)(hR:eC [] n R a):∀{S:Α} {vs:Ξ},mC E S=some vs->eC [] n (D3 R S vs) a
 | [],vs,h=>by simp[mC]at h;subst h;exact hR
 | s::r,vs,h=>by
  simp only[mC]at h;split at h
  ·rename_i e he;split at h
   ·rename_i Bh hv;cases h;exact (Hh hA hR hv).set (λ_=>hA.get s e (by simp) he)
   cases h
  cases h
open Go.RowKit
def gz(P:Program):Op->Bool
 | .move _ | .pick .. | .build .. | .nilCheck _ | .unOp .. | .makeFunc .. | .fieldAddr .. | .indexAddr .. | .extract .. | .field .. | .index .. | .lookup .. | .slice .. | .load .. | .binOp ..=>true
 | .convert s d _=>match P.underlying s,P.underlying d with
  | some _,some (.int _)=>true
  | some .string,some .string=>true
  | some .string,some (.slice _)=>false
  | some (.slice _),some (.slice _)=>false
  | _,_=>true
 | .call c=>match c.callee with
  | .builtin .len=>true
  | .builtin .min=>true
  | .builtin .max=>true
  | .builtin .cap=>true
  | _=>false
 | _=>false
def nM(P:Program):Op->Bool
 | .field .. | .index .. | .lookup .. | .load ..=>true
 | .binOp _ t _ _ _=>match P.underlying t with
  | some (.struct _)=>true
  | _=>false
 | .convert s d _=>match P.underlying s,P.underlying d with
  | some _,some (.int _)=>false
  | some .string,some .string=>false
  | _,_=>true
 | .call c=>match c.callee with
  | .builtin .len=>match c.argTypes.toList with
   | [t]=>match P.underlying t with
    | some (.slice _)=>false
    | some .string=>false
    | _=>true
   | _=>true
  | .builtin .cap=>true
  | _=>false
 | _=>false
def rz(acc:Α):List Edge->Nat
 | []=>0
 | e::r=>match Region.binds .any e with
  | true=>rz acc r ||| 2 ^ e.on ||| acc.getD e.on 0
  | false=>rz acc r
def nm:List Oper->Α->Α
 | [],acc=>acc
 | o::r,acc=>nm r (acc++[rz acc o.after.toList])
def idxs(f:Oper->Bool):List Oper->Nat->Α
 | [],_=>[]
 | o::r,k=>match f o with
  | true=>k::idxs f r (k+1)
  | false=>idxs f r (k+1)
def oa(f:Nat->Bool):Α->Α
 | []=>[]
 | j::r=>match f j with
  | true=>j::oa f r
  | false=>oa f r
def xp:Α->Nat
 | []=>0
 | j::r=>2 ^ j ||| xp r
def BM(f:Nat->Bool):Α->Bool
 | []=>false
 | j::r=>match f j with
  | true=>true
  | false=>BM f r
def vO(a b:Nat):Bool:=Nat.beq (Nat.land a b) a
structure RS where
 ops:List Oper
 B:Α
 gI:Α
 sN:Α
 cm:Nat
def eT(P:Program)(ops:List Oper):RS:=
 let gI:=idxs (λo=>!gz P o.op) ops 0
 {ops,B:=nm ops [],gI,sN:=idxs (λo=>gz P o.op) ops 0,cm:=xp gI}
def RS.enabled(R:RS)(done j:Nat):Bool:=vO (Nat.land (R.B.getD j 0) R.cm) done
def RS.Df(R:RS)(done j:Nat):Bool:=BM (λc=>match Nat.testBit done c with
 | true=>Nat.testBit (R.B.getD c 0) j
 | false=>false) R.gI
def Wv(P:Program)(T:List Bool)(o:Oper)(E:Env)(w:Ζ)(R:Prop):Prop:=match o.dst with
 | some d=>match E.get d with
  | some e=>dZ P T o.op o.type E.ev w λv _=>v=e.val/\R
  | none=>False
 | none=>False
def A5(P:Program)(T:List Bool)(ops:List Oper)(E:Env)(w:Ζ)(R:Prop):Α->Prop
 | []=>R
 | j::r=>match ops[j]? with
  | some o=>tN ops o.guard E (λ_=>Wv P T o E w (A5 P T ops E w R r)) (λ_=>A5 P T ops E w R r)
  | none=>False
def Ai(P:Program)(T:List Bool)(n:Nat)(ops:List Oper)(w:Ζ)(K:Env->Prop):Α->Env->Prop
 | [],E=>K E
 | j::r,E=>match ops[j]? with
  | some o=>tN ops o.guard E (λE'=>sq P T n o E' w λGt _=>Ai P T n ops w K r Gt) (λE'=>Ai P T n ops w K r (E'.put n o.dst .u))
  | none=>False
def DZ(F:Nat->Prop):Α->Prop
 | []=>False
 | [c]=>F c
 | c::r=>F c/\DZ F r
def RS.go(R:RS)(P:Program)(T:List Bool)(n:Nat)(K:Env->Ζ->Prop):Nat->Nat->Nat->Env->Ζ->Prop
 | 0,_,_,_,_=>False
 | k+1,done,en,E,w=>
  A5 P T R.ops E w
   (Ai P T n R.ops w (λE'=>
     match vO R.cm done with
     | true=>K E' w
     | false=>DZ (λc=>match R.ops[c]? with
       | some o=>tN R.ops o.guard E' (λE2=>sq P T n o E2 w λE3 w3=>RS.go R P T n K k (done ||| 2 ^ c) (en ||| xp (oa (λj=>R.enabled done j) R.sN)) E3 w3)
         (λE2=>RS.go R P T n K k (done ||| 2 ^ c) (en ||| xp (oa (λj=>R.enabled done j) R.sN)) (E2.put n o.dst .u) w)
       | none=>False)
      (oa (λc=>!Nat.testBit done c && R.enabled done c) R.gI))
    (oa (λj=>!Nat.testBit en j && R.enabled done j) R.sN) E)
   (oa (λj=>Nat.testBit en j && !R.Df done j && (match R.ops[j]? with|some o=>nM P o.op|none=>false)) R.sN)
def xj{α:Type}:List α->Nat
 | []=>0
 | _::r=>xj r+1
def HA(P:Program)(T:List Bool)(n:Nat)(ops:List Oper)(K:Env->Ζ->Prop)(E:Env)(w:Ζ):Prop:=
 (eT P ops).go P T n K (xj (eT P ops).gI+1) 0 0 E w
def looks(ops:List Oper)(o:Oper):Α:=
 ((de o.op).filterMap λx=>match x with | .tmp t=>some t|_=>none)++(match o.guard with|some (j,_)=>((ops[j]?).bind (·.dst)).toList|none=>[])
def F1(P:Program)(n:Nat)(ops:List Oper)(draw:Bool):Bool:=match draw with
 | false=>true
 | true=>
  let R:=eT P ops
  (List.range ops.length).all λi=>match ops[i]? with
   | some oi=>(oi.dst.toList.all λd=>decide (d<n)) && (oi.after.toList.all λe=>!Region.binds .any e || decide (e.on<i)) &&
    (gz P oi.op == false || !((oi.dst.toList).any λd=>(looks ops oi).contains d)) &&
    (List.range ops.length).all λj=>match ops[j]? with
     | some oj=>match oj.dst with
      | some d=>i == j || ((!gz P oj.op || oi.dst != some d) &&
        (!(looks ops oi).contains d || (R.B.getD i 0).testBit j || (!gz P oj.op && (R.B.getD j 0).testBit i)))
      | none=>true
     | none=>true
   | none=>true
