/- Part of the proof. -/
import Derived.Test.YtmkllimamejcgaaGreatQEng4
namespace Go.Proofs.YtmkllimamejcgaaGreat
set_option linter.all false
open Go.RowKit
section
variable {P:Program} {w:World} {K:Value->World->Prop}
theorem awv(off:Nat):∀(vs:List Value) (k:Nat) (cells:List Value),off+k+vs.length<=cells.length ->
  (vs.zipIdx k).foldl (λcs (p:Value × Nat)=>cs.set (off+p.2) p.1) cells=cells.take (off+k)++vs++cells.drop (off+k+vs.length)
 | [],k,cells,h=>by simp
 | v::r,k,cells,h=>by
  simp only[List.length_cons]at h
  obtain⟨A,x,B,rfl,hA⟩:∃A x B,cells=A++x::B/\A.length=off+k:=by
   refine⟨cells.take (off+k),cells[off+k]'(by omega),cells.drop (off+k+1),?_,by simp;omega⟩
   rw[<- List.drop_eq_getElem_cons,List.take_append_drop]
  have mZ:off+k=A.length:=hA.symm
  rw[List.zipIdx_cons,List.foldl_cons,awv off r (k+1) _ (by simp at h ⊢;omega)]
  have e1:(A++x::B).set (off+k) v=A++v::B:=by rw[mZ];simp
  have e2:(A++v::B).take (off+(k+1))=A++[v]:=by rw[show off+(k+1)=A.length+1 by omega,List.take_length_add_append];simp
  have e3:(A++v::B).drop (off+(k+1)+r.length)=B.drop r.length:=by rw[show off+(k+1)+r.length=A.length+(r.length+1) by omega,List.drop_length_add_append];simp
  have e4:(A++x::B).take (off+k)=A:=by rw[mZ];simp
  have e5:(A++x::B).drop (off+k+(r.length+1))=B.drop r.length:=by rw[mZ,List.drop_length_add_append];simp
  simp only[List.length_cons]at *
  rw[e1,e2,e3,e4,e5]
  simp
theorem cIu(vs cells:Array Value)(off:Nat)(h:off+vs.size<=cells.size):
  vs.zipIdx.foldl (λcs (p:Value × Nat)=>cs.setIfInBounds (off+p.2) p.1) cells=(cells.toList.take off++vs.toList++cells.toList.drop (off+vs.size)).toArray:=by
 have h1:∀(l:List (Value × Nat)) (c:Array Value),(l.foldl (λcs (p:Value × Nat)=>cs.setIfInBounds (off+p.2) p.1) c).toList=l.foldl (λcs (p:Value × Nat)=>cs.set (off+p.2) p.1) c.toList:=by
  intro l
  induction l with
  | nil=>intro c;rfl
  | cons x r ih=>intro c;rw[List.foldl_cons,List.foldl_cons,ih];simp
 have h2:=awv off vs.toList 0 cells.toList (by simpa using h)
 apply Array.toList_inj.1
 rw[<- Array.foldl_toList,h1,Array.toList_zipIdx,h2]
 simp
theorem fill_eq(place:Nat->Option (Nat × Nat)):∀(ps:List (Nat × Value)) (l:List (Nat × Nat × Value)) (z cells:List Value),
  (ps.map λp=>(place p.1,p.2))=(l.map λq=>(some (q.1,q.2.1),q.2.2))->mq z l=some cells->Instr.fill place z.toArray ps=some cells.toArray
 | [],[],z,cells,_,h=>by simp[mq]at h;subst h;rfl
 | [],_::_,z,cells,hm,h=>by simp at hm
 | _::_,[],z,cells,hm,h=>by simp at hm
 | (i,v)::ps,(off,size,u)::l,z,cells,hm,h=>by
  simp only[List.map_cons,List.cons.injEq,Prod.mk.injEq]at hm
  obtain⟨⟨hp,rfl⟩,hm⟩:=hm
  simp only[mq]at h
  split at h
  ·rename_i hc
   obtain⟨h1,h2⟩:=hc
   rw[Instr.fill,hp]
   have h3:¬(v.cells.size≠size\/off+v.cells.size>z.length):=by omega
   have dIk:=cIu v.cells z.toArray off (by simp;omega)
   simp only[Bool.or_eq_true,decide_eq_true_eq,List.size_toArray,h3,if_false]
   rw[dIk,<- fill_eq place ps l _ cells hm h,h1]
  ·cases h
theorem UE:∀(fs:List Field) (l:List (Nat × Nat)),Dr P fs=some l->(fs.mapM λf=>do pure (f.offset,<- sizeOf f.type):Sem (List (Nat × Nat))).run P w= .ok l w
 | [],l,h=>by simp[Dr]at h;subst h;simp
 | f::r,l,h=>by
  simp only[Dr]at h
  split at h
  ·rename_i n hn
   split at h
   ·rename_i l' hl
    cases h
    have ih:=UE r l' hl
    simp only[bind_pure_comp]at ih
    simp[List.mapM_cons,run_sizeOf hn,ih]
   ·cases h
  ·cases h
theorem Mu(pl:List (Nat × Nat))(ev:Operand->Value):∀(ps:List (Nat × Operand)) (l:List (Nat × Nat × Value)),vC pl ev ps=some l ->
  ((ps.map λp=>(p.1,ev p.2)).map λp=>(pl[p.1]?,p.2))=(l.map λq=>(some (q.1,q.2.1),q.2.2))
 | [],l,h=>by simp[vC]at h;subst h;rfl
 | (i,x)::r,l,h=>by
  simp only[vC]at h
  split at h
  ·rename_i off n hi
   split at h
   ·rename_i l' hl
    cases h
    simp[hi,Mu pl ev r l' hl]
   ·cases h
  ·cases h
theorem bwt{t:TypeId}{fields:Array Field}{i:TypeInfo}{v:Value}{pl:List (Nat × Nat)}{ps:Array (Nat × Operand)}{ev:Operand->Value}{l:List (Nat × Nat × Value)}
  (ht:P.underlying t=some (.struct fields)) (hi:P.info? t=some i) (hv:i.zero=some v) (jz:Dr P fields.toList=some pl) (hl:vC pl ev ps.toList=some l)
  (h:zk v.cells.toList l λv=>K v w):kH P (do pure (.value (<- Instr.build t (ps.map λ(i,x)=>(i,ev x))))) w K:=by
 obtain⟨cells,hc,hk⟩:=h
 refine .value ?_ hk
 have h1:(fields.mapM λf=>do pure (f.offset,<- sizeOf f.type):Sem (Array (Nat × Nat))).run P w= .ok pl.toArray w:=by
  rw[Array.mapM_eq_mapM_toList,Sem.run_map,UE _ _ jz];rfl
 have h2:=fill_eq (λj=>pl[j]?) (ps.toList.map λp=>(p.1,ev p.2)) l _ cells (by simpa using Mu pl ev _ _ hl) hc
 rw[Array.toArray_toList]at h2
 simp only[Instr.build,Sem.run_bind,Eg hi hv,run_underlying ht,Result.andThen_ok,h1,Array.toList_map]
 have h3:(λx:Nat=>(pl.toArray[x]?:Option (Nat × Nat)))=λj=>pl[j]?:=by funext j;simp
 rw[h3,h2]
 rfl
theorem bwr{t e:TypeId}{i:TypeInfo}{v:Value}{len n:Nat}{ps:Array (Nat × Operand)}{ev:Operand->Value}{l:List (Nat × Nat × Value)}
  (ht:P.underlying t=some (.slice e)) (hi:P.info? e=some i) (hv:i.zero=some v) (hn:pJ P e=some n) (hz:n=v.cells.toList.length) (hle:len*n<=16777216)
  (hl:vC ((List.range len).map λi=>(i*n,n)) ev ps.toList=some l) (h:zm (fR v.cells.toList len) l e len w K) :
  kH P (do pure (.value (<- Instr.buildSlice t len (ps.map λ(i,x)=>(i,ev x))))) w K:=by
 obtain⟨cells,hc,hk⟩:=h
 refine .value ?_ hk
 have hlen:∀(ps:List (Nat × Operand)) (l:List (Nat × Nat × Value)),vC ((List.range len).map λi=>(i*n,n)) ev ps=some l ->
   ((ps.map λp=>(p.1,ev p.2)).map λp=>(some (p.1*n,n),p.2))=(l.map λq=>(some (q.1,q.2.1),q.2.2)):=λps l h=>by
  have:=Mu _ ev ps l h
  rw[<- this]
  rw[List.map_map,List.map_map]
  have rm:∀p∈ps,p.1<len:=by
   intro p hp
   have hm:(((List.range len).map λi=>(i*n,n))[p.1]?,ev p.2)∈((ps.map λp=>(p.1,ev p.2)).map λp=>(((List.range len).map λi=>(i*n,n))[p.1]?,p.2)):=by
    simp only[List.map_map,List.mem_map];exact⟨p,hp,rfl⟩
   rw[this]at hm
   obtain⟨q,_,hq⟩:=List.mem_map.1 hm
   simp only[Prod.mk.injEq]at hq
   have:=(List.getElem?_eq_some_iff.1 hq.1.symm).1
   simpa using this
  refine List.map_congr_left λp hp=>?_
  simp[rm p hp]
 have h2:=fill_eq (λi=>some (i*n,n)) (ps.toList.map λp=>(p.1,ev p.2)) l _ cells (hlen _ _ hl) hc
 have hzz:n=v.cells.size:=by simpa using hz
 subst hzz
 have hr:=Nk v.cells len
 simp only[Instr.buildSlice,Sem.run_bind,run_underlying ht,Result.andThen_ok,run_sizeOf hn,show ¬len*v.cells.size>2 ^ 24 by omega,if_false]
 by_cases h0:len*v.cells.size=0
 ·have hz0:fR v.cells.toList len=[]:=List.eq_nil_of_length_eq_zero (by rw[p5];simpa using h0)
  rw[hz0]at h2
  have xt:(Array.range 0).map (λi=>(#[]:Array Value)[i % (#[]:Array Value).size]!) = #[]:=Array.eq_empty_of_size_eq_zero (by simp)
  simp only[h0,if_true,pure_bind,xt,Array.toList_map]
  rw[show ([]:List Value).toArray = #[] from rfl]at h2
  rw[h2]
  rfl
 ·simp only[h0,if_false,pure_bind,Sem.run_bind,Eg hi hv,Result.andThen_ok,hr,Array.toList_map]
  rw[h2]
  rfl
end
open Go.RowKit
section
variable {P:Program} {w:World} {K:Value->World->Prop}
theorem MP{sz n:Nat}{y:Value}{cs:List Value}{w':World}(h:oZ w sz y n cs)(hw:∀a,w'.cell? a=w.cell? a):
  (Builtin.firstCells sz n y).run P w'= .ok cs.toArray w'/\(Builtin.lenOf y).run P w'= .ok n w':=by
 unfold oZ at h
 split at h
 ·obtain⟨rfl,h1,h2⟩:=h
  exact⟨run_firstCells_some w' sz n _ _ _ cs h1 (λj v hj=>by rw[hw];exact h2 j v hj),rfl⟩
 ·obtain⟨rfl,rfl⟩:=h
  exact⟨run_firstCells_none w' sz n _ _,rfl⟩
 ·rename_i s
  obtain⟨rfl,rfl⟩:=h
  refine⟨?_,rfl⟩
  have:(s.extract 0 s.size)=s:=by simp
  simp only[Builtin.firstCells,this,Sem.run_pure,Result.ok.injEq,and_true]
  apply Array.ext'
  simp
 ·cases h
theorem Up(w:World)(a:Addr):w.drew.cell? a=w.cell? a:=rfl
theorem Tj{t u e ty:TypeId}{d:TypeDesc}{i:TypeInfo}{v:Value}{x y:Value}(ht:P.underlying t=some (.slice e))(hu:P.underlying u=some d)(hd:∀k,d≠.int k)
  (hi:P.info? e=some i) (hv:i.zero=some v) (hn:pJ P e=some v.cells.size)
  (h:zx v.cells.size (Ax P e) v.cells.toList e x y w K):kH P (do pure (.value (<- Builtin.append_ #[t,u] ty #[x,y]))) w K:=by
 obtain⟨a,len,cap,n,cs,rfl,mr,hb,hlen,h1,h2⟩:=h
 have sf:Ax P e=i.bytes:=by simp[Ax,hi]
 rw[sf]at hb
 obtain⟨r1,r2⟩:=MP (P:=P) mr (λ_=>rfl)
 have hz:(underlying u).run P w= .ok d w:=run_underlying hu w
 have F5:(match d with | .int _=>true|_=>false)=false:=by
  cases d with
  | int k=>exact absurd rfl (hd k)
  | _=>rfl
 by_cases hc:len+n<=cap
 ·have hk:=h1 hc
  cases a with
  | none=>
   refine .value ?_ hk
   simp only[Builtin.append_,List.getElem?_toArray,List.getElem?_cons_zero,List.getElem?_cons_succ,Sem.run_bind,run_underlying ht,Result.andThen_ok,run_sizeOf hn,hz,Sem.run_pure,Bool.false_eq_true,if_false,r2,hc,if_true,Bool.not_false,r1]
  | some p=>
   obtain⟨w',hs,hk⟩:=MT (P:=P) _ _ _ _ _ hk
   refine .value ?_ hk
   simp only[Builtin.append_,List.getElem?_toArray,List.getElem?_cons_zero,List.getElem?_cons_succ,Sem.run_bind,run_underlying ht,Result.andThen_ok,run_sizeOf hn,hz,Sem.run_pure,Bool.false_eq_true,if_false,r2,hc,if_true,Bool.not_false,r1,hs]
 ·obtain⟨s3,ho,hk⟩:=h2 (by omega)
  have hk:=hk (grownCap w (len+n) cap e) (grownCap_ge _ _ _ _) (by have:=grownCap_le_maxLen w (len+n) cap e (by simp only[maxLen];omega);simpa [maxLen] using this)
  obtain⟨q1,_⟩:=MP (P:=P) mr (Up w)
  obtain⟨q2,_⟩:=MP (P:=P) (w':=w.drew) ho (Up w)
  refine .value ?_ hk
  have hm:¬(((len+n:Nat):Int)>IntKind.i64.max/\(False\/i.bytes=0)):=by
   intro hh
   have:IntKind.i64.max=9223372036854775807:=rfl
   omega
  have uP:=growslice_fits (bytes:=i.bytes) (show cap<len+n by omega) hb
  have dIh:¬(Builtin.nextslicecap (len+n) cap*i.bytes>2 ^ 48):=by simpa using uP
  have LH:Builtin.zeroCells v.cells (grownCap w (len+n) cap e-(len+n))=(fR v.cells.toList (grownCap w (len+n) cap e-(len+n))).toArray:=Nk v.cells _
  have hti:∀w,(typeInfo e).run P w= .ok i w:=λw=>by simp[typeInfo,hi]
  have vr:s3.toArray++cs.toArray++(fR v.cells.toList (grownCap w (len+n) cap e-(len+n))).toArray=(s3++cs++fR v.cells.toList (grownCap w (len+n) cap e-(len+n))).toArray:=by simp
  simp only[Builtin.append_,List.getElem?_toArray,List.getElem?_cons_zero,List.getElem?_cons_succ,Sem.run_bind,run_underlying ht,Result.andThen_ok,run_sizeOf hn,hz,Sem.run_pure,Bool.false_eq_true,if_false,r2,hc,Bool.not_false,if_true,hti,hm,dIh,
   run_choose,Question.forced,run_askRoom]
  show ((Builtin.firstCells v.cells.size len _).run P w.drew).andThen _=_
  rw[q2]
  simp only[Result.andThen_ok]
  show ((Builtin.firstCells v.cells.size n _).run P w.drew).andThen _=_
  rw[q1]
  simp only[Result.andThen_ok,Eg hi hv]
  show ((newRow e (s3.toArray++cs.toArray++Builtin.zeroCells v.cells (grownCap w (len+n) cap e-(len+n)))).run P w.drew).andThen _=_
  rw[LH,vr]
  rfl
theorem TG{T:List Bool}(hT:Calls.uu P T){f:FuncId}{first captured args:List Value}(hf:T.getD f false=true)(h:zQ P f (first++args++captured) w K):
  kH P (do let d <- Deferred.ofValue (.func (.func f) first.toArray captured.toArray) args.toArray;invoke d.target d.args) w K:=by
 obtain⟨fn,h1,h2,h3⟩:=hT f hf
 refine .inr (.inr ⟨f,(first++args++captured).toArray,?_,h⟩)
 have e1:first.toArray++args.toArray++captured.toArray=(first++args++captured).toArray:=by simp
 simp only[Deferred.ofValue,invoke,callFunc,pure_bind,Sem.run_bind,run_program,Result.andThen_ok,h1,h2,h3,Bool.false_eq_true,if_false,e1]
 rfl
theorem fFh{f:FuncId}{args:List Value}(h:qW P f args w K):kH P (do let d <- Deferred.ofValue (.func (.func f) #[] #[]) args.toArray;invoke d.target d.args) w K:=by
 obtain⟨v,w',h1,h2⟩:=h
 refine .inl ⟨v,w',?_,h2⟩
 have e:(#[]:Array Value)++args.toArray ++ #[]=args.toArray:=by simp
 simp only[Deferred.ofValue,invoke,pure_bind,e,h1]
def jw:Op->List Operand
 | .alloc _=>[]
 | .move x | .assign x | .box _ x | .load _ x | .nilCheck x | .unOp _ _ x | .convert _ _ x | .fieldAddr _ x _ | .field _ x _ | .extract x _=>[x]
 | .pick c a b=>[c,a,b]
 | .build _ ps | .buildSlice _ _ ps=>ps.toList.map (·.2)
 | .store _ a v | .binOp _ _ a v _ | .makeSlice _ a v | .indexAddr _ a v | .index _ a v | .lookup _ a v _ | .mapEntry _ a v=>[a,v]
 | .makeFunc _ first captured=>first.toList++captured.toList
 | .slice _ x l h m=>x::(l.toList++h.toList++m.toList)
 | .mapUpdate _ m k v | .entryStore _ m k v | .insert _ m k v=>[m,k,v]
 | .call c=>match c.callee with
  | .value f=>f::c.args.toList
  | _=>c.args.toList
 | _=>[]
theorem Mt{pl:List (Nat × Nat)}{ev ρ:Operand->Value}:∀(ps:List (Nat × Operand)),(∀x∈ps.map (·.2),ρ x=ev x)->vC pl ρ ps=vC pl ev ps
 | [],_=>rfl
 | (i,x)::r,h=>by
  simp only[vC]
  rw[Mt r (λy hy=>h y (by simp only[List.map_cons,List.mem_cons];exact .inr hy)),h x (by simp)]
theorem IA{ev ρ:Operand->Value}(xs:Array Operand)(h:∀x∈xs.toList,ρ x=ev x):xs.map ρ=(xs.toList.map ev).toArray:=by
 apply Array.ext'
 simp only[Array.toList_map]
 exact List.map_congr_left h
set_option maxHeartbeats 1000000 in
theorem Ml{T:List Bool}(hT:Calls.uu P T){o:Oper}{ρ ev:Operand->Value}(hF:∀f,ρ (.func f)= .func (.func f) #[] #[])(hρ:∀x∈jw o.op,ρ x=ev x)(h:j8 P T o.op o.type ev w K):kH P (execOp ρ o) w K:=by
 obtain⟨dst,op,ty,pos,after,guard⟩:=o
 simp only at h hρ
 unfold execOp
 cases op with
 | move x=>exact .inl ⟨_,_,rfl,by rw[hρ x (by simp[jw])];exact h⟩
 | assign x=>exact .inl ⟨_,_,rfl,by rw[hρ x (by simp[jw])];exact h⟩
 | alloc e=>
  simp only[j8]at h
  split at h
  ·rename_i z hz;exact a_u hz h
  ·cases h
 | box e x=>
  simp only[j8]at h
  simp only[hρ x (by simp[jw])]
  split at h
  ·exact Tz (by rw[D9 h.1]) h.2
  ·obtain⟨vs,hx,h⟩:=h
   exact Tz (by rw[hx];rfl) h
  ·cases h
 | build t ps=>
  simp only[j8]at h
  split at h
  ·rename_i fields ht
   split at h
   ·rename_i z hz
    split at h
    ·rename_i pl jz
     split at h
     ·rename_i l hl
      obtain⟨i,v,hi,hv,rfl⟩:=yy hz
      rw[<- Mt ps.toList (by simpa [jw] using hρ)]at hl
      exact bwt ht hi hv jz hl h
     ·cases h
    ·cases h
   ·cases h
  ·cases h
 | buildSlice t len ps=>
  simp only[j8]at h
  split at h
  ·rename_i e ht
   split at h
   ·rename_i z hz
    split at h
    ·rename_i n hn
     split at h
     ·rename_i l hl
      split at h
      ·rename_i KM wg
       obtain⟨i,v,hi,hv,rfl⟩:=yy hz
       rw[<- Mt ps.toList (by simpa [jw] using hρ)]at hl
       exact bwr ht hi hv hn (beq_iff.1 KM) (Nat.le_of_ble_eq_true wg) hl h
      ·cases h
     ·cases h
    ·cases h
   ·cases h
  ·cases h
 | load t x=>
  simp only[j8]at h
  simp only[hρ x (by simp[jw])]
  split at h
  ·rename_i ht;exact eWe ht h
  ·rename_i n ht;exact eWm ht h
  ·cases h
 | store t x v=>
  simp only[j8]at h
  simp only[hρ x (by simp[jw]),hρ v (by simp[jw])]
  split at h
  ·rename_i ht
   split at h
   ·rename_i hs;exact gil ht hs h
   ·cases h
  ·rename_i n ht;exact gim ht h
  ·cases h
 | nilCheck x=>
  obtain⟨a,hx,hk⟩:=h
  refine .inl ⟨_,_,?_,hk⟩
  simp only[hρ x (by simp[jw]),hx]
  rfl
 | binOp op t x y u=>
  simp only[j8]at h
  simp only[hρ x (by simp[jw]),hρ y (by simp[jw])]
  split at h
  ·exact Tw h
  ·exact Tw h
  ·split at h
   ·rename_i hm;exact b_7 hm h
   ·cases h
  ·split at h
   ·rename_i hm;exact e_v hm h
   ·cases h
  ·rename_i d ht;exact cwa ht h
  ·rename_i d ht;exact e_w ht h
  ·cases h
 | unOp op t x=>
  cases op with
  | not=>simp only[hρ x (by simp[jw])];exact e_6 h
  | neg=>simp only[hρ x (by simp[jw])];exact e_u h
  | xor=>simp only[hρ x (by simp[jw])];exact bF4 h
  | _=>cases h
 | convert s d x=>
  simp only[j8]at h
  simp only[hρ x (by simp[jw])]
  split at h
  ·rename_i e k hs hd;exact bIf hs hd h
  ·rename_i hs hd;exact bIg hs hd h
  ·exact h.tP
  ·exact h.tP
  ·exact jY.tP h
 | makeFunc fn first captured=>
  simp only[j8]at h
  split at h
  ·refine .inl ⟨_,_,rfl,?_⟩
   rw[IA first (λx hx=>hρ x (by simp[jw];left;simpa using hx)),IA captured (λx hx=>hρ x (by simp[jw];right;simpa using hx))]
   exact h
  ·cases h
 | makeSlice t x y=>
  simp only[j8]at h
  simp only[hρ x (by simp[jw]),hρ y (by simp[jw])]
  split at h
  ·rename_i e ht
   split at h
   ·rename_i z hz
    split at h
    ·rename_i n hn
     split at h
     ·rename_i hb
      obtain⟨i,v,hi,hv,rfl⟩:=yy hz
      refine e_n ht hi hv (by rw[hn,beq_iff.1 hb];simp) h
     ·cases h
    ·cases h
   ·cases h
  ·cases h
 | slice t x lo hi mx=>
  have e1:lo.map ρ=lo.map ev:=by cases lo with|none=>rfl|some y=>simp[hρ y (by simp[jw])]
  have e2:hi.map ρ=hi.map ev:=by cases hi with|none=>rfl|some y=>simp[hρ y (by simp[jw])]
  have e3:mx.map ρ=mx.map ev:=by cases mx with|none=>rfl|some y=>simp[hρ y (by simp[jw])]
  simp only[j8]at h
  simp only[hρ x (by simp[jw]),e1,e2,e3]
  split at h
  ·rename_i e ht
   split at h
   ·rename_i n hn
    split at h
    ·cases h
    ·rename_i ko
     refine f_t ht hn ?_ h
     intro hm
     cases mx with
     | none=>simp at hm
     | some m=>cases hi with
      | none=>exact absurd rfl (ko m rfl)
      | some y=>rfl
   ·cases h
  ·rename_i ht
   split at h
   ·exact f_s ht h
   ·cases h
  ·cases h
 | fieldAddr s x f=>
  simp only[j8]at h
  simp only[hρ x (by simp[jw])]
  split at h
  ·rename_i off hf;exact cIa hf h
  ·cases h
 | indexAddr t x i=>
  simp only[j8]at h
  simp only[hρ x (by simp[jw]),hρ i (by simp[jw])]
  split at h
  ·rename_i e ht
   split at h
   ·rename_i n hn;exact eFe ht hn h
   ·cases h
  ·rename_i len e ht
   split at h
   ·rename_i n hn;exact eFd ht hn h
   ·cases h
  ·cases h
 | extract x i=>simp only[hρ x (by simp[jw])];exact cwf h
 | field t x f=>simp only[hρ x (by simp[jw])];exact jY.tP h
 | index t x i=>simp only[hρ x (by simp[jw]),hρ i (by simp[jw])];exact jY.tP h
 | lookup t x i ok=>simp only[hρ x (by simp[jw]),hρ i (by simp[jw])];exact jY.tP h
 | mapUpdate t m k x=>
  simp only[hρ m (by simp[jw]),hρ k (by simp[jw]),hρ x (by simp[jw])]
  obtain⟨v,w',hr,hk⟩:=h
  simp only[Sem.run_bind,Sem.run_pure]at hr
  cases hm:(Instr.mapUpdate t (ev m) (ev k) (ev x)).run P w with
  | ok u w2=>rw[hm]at hr;cases hr;exact .inr (.inl ⟨w',by simp[hm],hk⟩)
  | halt e w2=>rw[hm]at hr;cases hr
 | insert t m k x=>
  simp only[hρ m (by simp[jw]),hρ k (by simp[jw]),hρ x (by simp[jw])]
  obtain⟨v,w',hr,hk⟩:=h
  simp only[Sem.run_bind,Sem.run_pure]at hr
  cases hm:(Instr.mapUpdate t (ev m) (ev k) (ev x)).run P w with
  | ok u w2=>rw[hm]at hr;cases hr;exact .inr (.inl ⟨w',by simp[hm],hk⟩)
  | halt e w2=>rw[hm]at hr;cases hr
 | mapEntry t m k=>simp only[hρ m (by simp[jw]),hρ k (by simp[jw])];exact zR.tP h
 | entryStore t m k x=>
  simp only[hρ m (by simp[jw]),hρ k (by simp[jw]),hρ x (by simp[jw])]
  obtain⟨v,w',hr,hk⟩:=h
  simp only[Sem.run_bind,Sem.run_pure]at hr
  cases hm:(Instr.entryStore t (ev m) (ev k) (ev x)).run P w with
  | ok u w2=>rw[hm]at hr;cases hr;exact .inr (.inl ⟨w',by simp[hm],hk⟩)
  | halt e w2=>rw[hm]at hr;cases hr
 | makeMap t r=>
  cases r with
  | none=>exact .inl ⟨_,_,rfl,h⟩
  | some x=>cases h
 | call c=>
  obtain⟨callee,args,BD⟩:=c
  cases callee with
  | value g=>
   have ha:args.map ρ=(args.toList.map ev).toArray:=IA args (λx hx=>hρ x (by simp[jw];right;simpa using hx))
   cases g with
   | func f=>
    simp only[j8]at h
    split at h
    ·rename_i hf
     have:=TG hT (first:=[]) (captured:=[]) hf (by simpa using h)
     simp only[resolve,ha,hF f]
     exact this
    ·simp only[resolve,ha,hF f]
     exact fFh h
   | tmp t=>
    obtain⟨f,first,captured,hg,hf,h⟩:=h
    have:=TG hT hf h
    have Cf:ρ (.tmp t)=ev (.tmp t):=hρ _ (by simp[jw])
    simp only[resolve,ha,Cf,hg]
    simpa using this
   | _=>cases h
  | invoke r m=>cases h
  | builtin b=>
   have ha:args.map ρ=(args.toList.map ev).toArray:=IA args (λx hx=>hρ x (by simpa [jw] using hx))
   have hb:(do let d <- resolve ρ ⟨.builtin b,args,BD⟩ ty;invoke d.target d.args)=builtin b BD ty (args.map λ| .const _=>true|_=>false) (args.toList.map ev).toArray:=by
    simp only[resolve,ha];rfl
   show kH P (do let d <- resolve ρ ⟨.builtin b,args,BD⟩ ty;invoke d.target d.args) w K
   rw[hb]
   cases b with
   | len=>
    simp only[j8]at h
    split at h
    ·rename_i x t hx ht
     have KL:BD = #[t]:=by apply Array.ext';exact ht
     rw[hx]
     subst KL
     split at h
     ·rename_i e hs;exact eI7 hs h
     ·rename_i hs;exact eI8 hs h
     ·exact jY.tP h
    ·cases h
   | min=>
    simp only[j8]at h
    split at h
    ·rename_i x y hx;rw[hx];exact e_k h
    ·cases h
   | max=>
    simp only[j8]at h
    split at h
    ·rename_i x y hx;rw[hx];exact eWv h
    ·cases h
   | append=>
    simp only[j8]at h
    split at h
    ·rename_i x y t u hx ht
     have KL:BD = #[t,u]:=by apply Array.ext';exact ht
     rw[hx]
     subst KL
     split at h
     ·rename_i e hs
      split at h
      ·rename_i z hz
       obtain⟨i,v,hi,hv,rfl⟩:=yy hz
       split at h
       ·rename_i n hn
        split at h
        ·rename_i e' hb hu
         have sf:=beq_iff.1 hb
         simp at sf;subst sf
         exact Tj hs hu (λk hk=>by cases hk) hi hv hn h
        ·rename_i hb hu
         have sf:=beq_iff.1 hb
         simp at sf;subst sf
         exact Tj hs hu (λk hk=>by cases hk) hi hv hn h
        ·exact zR.tP h
        ·cases h
       ·cases h
      ·cases h
     ·cases h
    ·cases h
   | copy=>exact h.tP
   | delete=>exact h.tP
   | cap=>exact jY.tP h
   | clear=>exact h.tP
   | _=>cases h
 | _=>cases h
end
open Go.RowKit
def iy(x:Value)(A B:Prop):Prop:=∃r,x= .bool r/\(r=true->A)/\(r=false->B)
def rW(E:Env)(x:Operand)(e:my):Env:=match x with
 | .tmp t=>(t,e)::E
 | _=>E
def ug(n:Nat)(E:Env)(d:Option Nat)(x:Option my)(K:Env->Prop):Prop:=match x with
 | some e=>K (E.put n d e)
 | none=>False
def wG(P:Program)(T:List Bool)(n:Nat)(o:Oper)(E:Env)(w:World)(K:Env->World->Prop):Prop:=
 match o.op with
 | .move x=>ug n E o.dst (E.l7 x) λE'=>K E' w
 | .assign x=>ug n E o.dst (E.l7 x) λE'=>K E' w
 | .pick c a b=>match E.l7 c with
  | some .t=>ug n E o.dst (E.l7 a) λE'=>K E' w
  | some .f=>ug n E o.dst (E.l7 b) λE'=>K E' w
  | some (.v x)=>iy x (ug n (rW E c .t) o.dst (Env.l7 (rW E c .t) a) λE'=>K E' w) (ug n (rW E c .f) o.dst (Env.l7 (rW E c .f) b) λE'=>K E' w)
  | some .u=>False
  | none=>False
 | op=>match E.HD (jw op) with
  | true=>j8 P T op o.type E.ev w λv w'=>K (E.put n o.dst (.v v)) w'
  | false=>False
def xX(ops:List Oper)(g:Option (Nat × Bool))(E:Env)(run skip:Env->Prop):Prop:=match g with
 | none=>run E
 | some (j,want)=>match (ops[j]?).bind (·.dst) with
  | some g=>match E.get g with
   | some .t=>(match want with|true=>run E|false=>skip E)
   | some .f=>(match want with|true=>skip E|false=>run E)
   | some (.v x)=>iy x (match want with|true=>run ((g,.t)::E)|false=>skip ((g,.t)::E)) (match want with|true=>skip ((g,.f)::E)|false=>run ((g,.f)::E))
   | some .u=>skip E
   | none=>False
  | none=>False
def Gk(P:Program)(T:List Bool)(n:Nat)(ops:List Oper)(K:Env->World->Prop):List Oper->Env->World->Prop
 | [],E,w=>K E w
 | o::r,E,w=>xX ops o.guard E (λE'=>wG P T n o E' w λJk w'=>Gk P T n ops K r Jk w') (λE'=>Gk P T n ops K r (E'.put n o.dst .u) w)
def nB(W:List Nat)(a a':Act):Prop:=∀t,t∉W->a'.tmps[t]?=a.tmps[t]?
theorem nB.refl(W:List Nat)(a:Act):nB W a a:=λ_ _=>rfl
theorem nB.trans{W:List Nat}{a b c:Act}(h:nB W a b)(k:nB W b c):nB W a c:=λt ht=>(k t ht).trans (h t ht)
theorem nB.mono{W W':List Nat}{a b:Act}(h:nB W a b)(hw:∀t∈W,t∈W'):nB W' a b:=λt ht=>h t λx=>ht (hw t x)
theorem nB.put(a:Act)(d:Option Nat)(v:Value)(W:List Nat)(hd:∀t,d=some t->t∈W):nB W a (a.put d v):=by
 cases d with
 | none=>exact .refl _ _
 | some d=>
  intro t ht
  have:d≠t:=λe=>ht (hd t (by rw[e]))
  simp[Act.put,Array.getElem?_setIfInBounds_ne this]
theorem kx.set{X:List Nat}{n:Nat}{E:Env}{a:Act}(h:kx X n E a){t:Nat}{e:my}(he:t∉X->a.tmps[t]?=some e.val):kx X n ((t,e)::E) a:=by
 refine⟨h.size,h.defers,λu e' hX hu=>?_⟩
 simp only[Env.get]at hu
 split at hu
 ·rename_i hb
  obtain rfl:=beq_iff.1 hb
  cases hu;exact he hX
 ·exact h.get u e' hX hu
theorem kx.rW{X:List Nat}{n:Nat}{E:Env}{a:Act}(h:kx X n E a){x:Operand}{v:Value}{e:my}(hx:E.l7 x=some (.v v))(hv:e.val=v):kx X n (rW E x e) a:=by
 cases x with
 | tmp t=>exact h.set (λhX=>by rw[hv];exact h.get t _ hX hx)
 | const v=>exact h
 | global g=>exact h
 | func f=>exact h
theorem Ec{X:List Nat}{n:Nat}{E:Env}{d:Option Nat}{x:Operand}{K:Env->Prop}(h:ug n E d (E.l7 x) K){a:Act}(hA:kx X n E a)(hX:Bu X x):∃E',kx X n E' (a.put d (a.eval x))/\K E':=by
 unfold ug at h
 split at h
 ·rename_i e he;exact⟨_,by rw[hA.l7 hX he];exact hA.put d e,h⟩
 ·cases h
section
variable {P:Program} {T:List Bool} {n:Nat} {X:List Nat}
theorem aFd(hT:Calls.uu P T){o:Oper}{E:Env}{w:World}{K:Env->World->Prop}(h:wG P T n o E w K){a:Act}(hA:kx X n E a)(hX:∀x∈jw o.op,Bu X x){next:Act->World->Prop}{Q:Exit->Act->World->Prop}
  (hn:∀E' v w',kx X n E' (a.put o.dst v)->K E' w'->next (a.put o.dst v) w'):o.wp P a w next Q:=by
 unfold wG at h
 split at h
 ·rename_i x j6
  obtain⟨E',h1,h2⟩:=Ec h hA (hX x (by simp[j6,jw]))
  refine kH.upon (K:=λv w'=>∃E',kx X n E' (a.put o.dst v)/\K E' w') (.inl ⟨a.eval x,w,by simp[execOp,j6],E',h1,h2⟩) ?_
  rintro v w' ⟨E',h1,h2⟩
  exact hn E' v w' h1 h2
 ·rename_i x j6
  obtain⟨E',h1,h2⟩:=Ec h hA (hX x (by simp[j6,jw]))
  refine kH.upon (K:=λv w'=>∃E',kx X n E' (a.put o.dst v)/\K E' w') (.inl ⟨a.eval x,w,by simp[execOp,j6],E',h1,h2⟩) ?_
  rintro v w' ⟨E',h1,h2⟩
  exact hn E' v w' h1 h2
 ·rename_i c x y j6
  have key:∀(r:Bool),a.eval c= .bool r->(∃E',kx X n E' (a.put o.dst (if r then a.eval x else a.eval y))/\K E' w)->o.wp P a w next Q:=λr hr h=>by
   refine kH.upon (K:=λv w'=>∃E',kx X n E' (a.put o.dst v)/\K E' w') (.inl ⟨_,w,by simp[execOp,j6,hr,asBool],h⟩) ?_
   rintro v w' ⟨E',h1,h2⟩
   exact hn E' v w' h1 h2
  split at h
  ·rename_i hc;exact key true (hA.l7 (hX c (by simp[j6,jw])) hc) (Ec h hA (hX _ (by simp[j6,jw])))
  ·rename_i hc;exact key false (hA.l7 (hX c (by simp[j6,jw])) hc) (Ec h hA (hX _ (by simp[j6,jw])))
  ·rename_i v hc
   obtain⟨r,rfl,h1,h2⟩:=h
   cases r with
   | true=>
    exact key true (hA.l7 (hX c (by simp[j6,jw])) hc) (Ec (h1 rfl) (hA.rW hc rfl) (hX _ (by simp[j6,jw])))
   | false=>exact key false (hA.l7 (hX c (by simp[j6,jw])) hc) (Ec (h2 rfl) (hA.rW hc rfl) (hX _ (by simp[j6,jw])))
  ·cases h
  ·cases h
 ·split at h
  ·rename_i hh
   refine kH.upon (Ml hT (λ_=>rfl) (λx hx=>hA.ev (hX x hx) (Env.HE hh x hx)) h) ?_
   intro v w' hk
   exact hn _ v w' (hA.put o.dst (.v v)) hk
  ·cases h
theorem cW8{ops:Array Oper}{g:Option (Nat × Bool)}{o:Oper}(hg:o.guard=g){E:Env}{run skip:Env->Prop}(h:xX ops.toList g E run skip){a:Act}(hA:kx X n E a)
  (hX:∀j want s,g=some (j,want)->(ops[j]?).bind (·.dst)=some s->s∉X) :
  ∃E',kx X n E' a/\((Region.wanted o (yielded ops a.tmps)=true/\run E')\/(Region.wanted o (yielded ops a.tmps)=false/\skip E')):=by
 subst hg
 unfold xX at h
 split at h
 ·rename_i hg;exact⟨E,hA,.inl ⟨by simp[Region.wanted,hg],h⟩⟩
 ·rename_i j want hg
  split at h
  ·rename_i s hs
   have hw:∀b,a.tmps[s]?=some (.bool b)->Region.wanted o (yielded ops a.tmps)=(b == want):=λb hb=>by
    simp only[Region.wanted,hg,yielded]
    rw[show ((ops[j]?).bind (·.dst))=some s by simpa using hs]
    simp only[Option.bind_some,hb]
    cases b<;>cases want<;>rfl
   have pR:s∉X:=hX j want s hg (by simpa using hs)
   split at h
   ·rename_i he
    have:=hw true (hA.get _ _ pR he)
    split at h
    ·exact⟨E,hA,.inl ⟨this,h⟩⟩
    ·exact⟨E,hA,.inr ⟨this,h⟩⟩
   ·rename_i he
    have:=hw false (hA.get _ _ pR he)
    split at h
    ·exact⟨E,hA,.inr ⟨this,h⟩⟩
    ·exact⟨E,hA,.inl ⟨this,h⟩⟩
   ·rename_i x he
    obtain⟨r,rfl,h1,h2⟩:=h
    have hr:=hw r (hA.get _ _ pR he)
    cases r with
    | true=>
     have h1:=h1 rfl
     have mZ:kx X n ((s,.t)::E) a:=hA.set (λ_=>hA.get s (.v (.bool true)) pR he)
     split at h1
     ·exact⟨_,mZ,.inl ⟨hr,h1⟩⟩
     ·exact⟨_,mZ,.inr ⟨hr,h1⟩⟩
    | false=>
     have h2:=h2 rfl
     have mZ:kx X n ((s,.f)::E) a:=hA.set (λ_=>hA.get s (.v (.bool false)) pR he)
     split at h2
     ·exact⟨_,mZ,.inr ⟨hr,h2⟩⟩
     ·exact⟨_,mZ,.inl ⟨hr,h2⟩⟩
   ·rename_i he
    have hb:=hA.get _ _ pR he
    refine⟨E,hA,.inr ⟨?_,h⟩⟩
    simp only[Region.wanted,hg,yielded]
    rw[show ((ops[j]?).bind (·.dst))=some s by simpa using hs]
    simp only[Option.bind_some,hb]
    cases want<;>rfl
   ·cases h
  ·cases h
def vW(l:List Oper):List Nat:=l.filterMap (·.dst)
theorem Mr(hT:Calls.uu P T){ops:Array Oper}{K:Env->World->Prop}{Q:Exit->Act->World->Prop}{W:List Nat}{a0:Act}(hn:∀E' a' w',kx [] n E' a'->nB W a0 a'->K E' w'->Q .normal a' w'):
  ∀(l:List Oper) (E:Env) (a:Act) (w:World),(∀t∈vW l,t∈W)->nB W a0 a->kx [] n E a->Gk P T n ops.toList K l E w->wpList P ops Q l a w
 | [],E,a,w,_,hk,hA,h=>hn E a w hA hk h
 | o::r,E,a,w,hW,hk,hA,h=>by
  unfold Gk at h
  have hd:∀t,o.dst=some t->t∈W:=λt ht=>hW t (by simp[vW,ht])
  have HB:∀t∈vW r,t∈W:=λt ht=>hW t (by
   unfold vW at ht ⊢
   rw[List.filterMap_cons]
   split
   ·exact ht
   ·exact List.mem_cons_of_mem _ ht)
  obtain⟨E',mZ,⟨hw,h⟩|⟨hw,h⟩⟩:=cW8 rfl h hA (λ_ _ _ _ _ h=>by cases h)
  ·unfold wpList
   rw[if_pos hw]
   refine .inl (aFd hT h mZ (λx _=>.nil x) ?_)
   intro E2 v w' tV hK
   exact Mr hT hn r E2 _ w' HB (hk.trans (nB.put a o.dst v W hd)) tV hK
  ·unfold wpList
   rw[if_neg (by rw[hw];exact Bool.false_ne_true)]
   exact Mr hT hn r _ _ w HB (hk.trans (nB.put a o.dst undef W hd)) (mZ.put o.dst .u) h
end
inductive Ex where
 | normal
 | exit (id:Nat)
 | ret
def Ex.to:Ex->Exit
 | .normal=>.normal
 | .exit i=>.exit i
 | .ret=>.ret
def xT:Code->Option Nat
 | .region id _ _=>some id
 | .seq a b=>match xT a with
  | some i=>some i
  | none=>xT b
 | .cond _ a b=>match xT a with
  | some i=>some i
  | none=>xT b
 | .block _ c=>xT c
 | .loop c=>xT c
 | .scope c=>xT c
 | _=>none
def wr:Code->List Nat
 | .region _ ops _=>vW ops.toList
 | .seq a b=>wr a++wr b
 | .cond _ a b=>wr a++wr b
 | .block _ c=>wr c
 | .loop c=>wr c
 | .scope c=>wr c
 | _=>[]
abbrev Marks:=List (Nat × List Nat × List Nat)
def Marks.find:Marks->Option Nat->Option (List Nat × List Nat)
 | _,none=>none
 | [],_=>none
 | (k,x)::r,some i=>match Nat.beq k i with
  | true=>some x
  | false=>Marks.find r (some i)
def Ge(t:Nat):List Nat->Bool
 | []=>false
 | u::r=>match Nat.beq u t with
  | true=>true
  | false=>Ge t r
def E6(W:List Nat):List Nat->Bool
 | []=>true
 | l::r=>match Ge l W with
  | true=>false
  | false=>E6 W r
def D3(E R:Env):List Nat->Env
 | []=>R
 | l::r=>match E.get l with
  | some e=>(l,e)::D3 E R r
  | none=>D3 E R r
def sF(E:Env):List Nat->Option (List Value)
 | []=>some []
 | s::r=>match E.get s with
  | some e=>match sF E r with
   | some vs=>some (e.val::vs)
   | none=>none
  | none=>none
def G5(R:Env):List Nat->List Value->Env
 | s::r,v::vs=>(s,.v v)::G5 R r vs
 | _,_=>R
def G0:Nat->(List Value->Prop)->Prop
 | 0,K=>K []
 | k+1,K=>∀v:Value,G0 k λl=>K (v::l)
def F9:List Nat->Nat
 | []=>0
 | _::r=>F9 r+1
def Ni(o:Option (List Value))(K:List Value->Prop):Prop:=match o with
 | some l=>K l
 | none=>False
theorem Zq:∀(k:Nat) (K:List Value->Prop),G0 k K->∀l:List Value,l.length=k->K l
 | 0,K,h,l,hl=>by rw[List.eq_nil_of_length_eq_zero hl];exact h
 | k+1,K,h,[],hl=>by simp at hl
 | k+1,K,h,v::l,hl=>Zq k _ (h v) l (by simpa using hl)
theorem LV:∀l:List Nat,F9 l=l.length
 | []=>rfl
 | _::r=>by simp[F9,LV r]
theorem M9{E:Env}:∀{S:List Nat} {vs:List Value},sF E S=some vs->vs.length=S.length
 | [],vs,h=>by simp[sF]at h;subst h;rfl
 | s::r,vs,h=>by
  simp only[sF]at h
  split at h
  ·split at h
   ·rename_i Et hv;cases h;simp[M9 hv]
   ·cases h
  ·cases h
theorem Xm{t:Nat}:∀{l:List Nat},Ge t l=true↔t∈l
 | []=>by simp[Ge]
 | u::r=>by
  simp only[Ge,List.mem_cons]
  split
  ·rename_i h;simp[(beq_iff.1 h).symm]
  ·rename_i h
   have iX:t≠u:=λe=>by rw[beq_iff.2 e.symm]at h;cases h
   rw[Xm];simp[iX]
theorem y3{W:List Nat}:∀{L:List Nat},E6 W L=true->∀l∈L,l∉W
 | [],_,l,hl=>by cases hl
 | x::r,h,l,hl=>by
  simp only[E6]at h
  split at h
  ·cases h
  ·rename_i hm
   rcases List.mem_cons.1 hl with rfl|hl
   ·intro rm;rw[Xm.2 rm]at hm;cases hm
   ·exact y3 h l hl
theorem Iw{n:Nat}{E R:Env}{a a':Act}(hA:kx [] n E a)(hR:kx [] n R a'){W:List Nat}(hk:nB W a a'):∀{L:List Nat},(∀l∈L,l∉W)->kx [] n (D3 E R L) a'
 | [],_=>hR
 | l::r,h=>by
  simp only[D3]
  split
  ·rename_i e he
   exact (Iw hA hR hk (λx hx=>h x (List.mem_cons_of_mem _ hx))).set (λ_=>by rw[hk l (h l (by simp))];exact hA.get l e (by simp) he)
  ·exact Iw hA hR hk (λx hx=>h x (List.mem_cons_of_mem _ hx))
theorem JY{n:Nat}{E R:Env}{a:Act}(hA:kx [] n E a)(hR:kx [] n R a):∀{S:List Nat} {vs:List Value},sF E S=some vs->kx [] n (G5 R S vs) a
 | [],vs,h=>by simp[sF]at h;subst h;exact hR
 | s::r,vs,h=>by
  simp only[sF]at h
  split at h
  ·rename_i e he
   split at h
   ·rename_i Et hv
    cases h
    exact (JY hA hR hv).set (λ_=>hA.get s e (by simp) he)
   ·cases h
  ·cases h
open Go.RowKit
def mi(P:Program):Op->Bool
 | .move _ | .pick .. | .build .. | .nilCheck _ | .unOp .. | .makeFunc .. | .fieldAddr .. | .indexAddr .. | .extract .. | .field .. | .index .. | .lookup .. | .slice .. | .load .. | .binOp ..=>true
 | .convert s d _=>match P.underlying s,P.underlying d with
  | some _,some (.int _)=>true
  | some .string,some .string=>true
  | some .string,some (.slice _)=>false
  | some (.slice _),some (.slice _)=>false
  | _,_=>true
 | .call c=>match c.callee with
  | .builtin .len=>true
  | .builtin .min=>true
  | .builtin .max=>true
  | .builtin .cap=>true
  | _=>false
 | _=>false
def tB(P:Program):Op->Bool
 | .field .. | .index .. | .lookup .. | .load ..=>true
 | .binOp _ t _ _ _=>match P.underlying t with
  | some (.struct _)=>true
  | _=>false
 | .convert s d _=>match P.underlying s,P.underlying d with
  | some _,some (.int _)=>false
  | some .string,some .string=>false
  | _,_=>true
 | .call c=>match c.callee with
  | .builtin .len=>match c.argTypes.toList with
   | [t]=>match P.underlying t with
    | some (.slice _)=>false
    | some .string=>false
    | _=>true
   | _=>true
  | .builtin .cap=>true
  | _=>false
 | _=>false
def vR(acc:List Nat):List Edge->Nat
 | []=>0
 | e::r=>match Region.binds .any e with
  | true=>vR acc r ||| 2 ^ e.on ||| acc.getD e.on 0
  | false=>vR acc r
def tc:List Oper->List Nat->List Nat
 | [],acc=>acc
 | o::r,acc=>tc r (acc++[vR acc o.after.toList])
def idxs(f:Oper->Bool):List Oper->Nat->List Nat
 | [],_=>[]
 | o::r,k=>match f o with
  | true=>k::idxs f r (k+1)
  | false=>idxs f r (k+1)
def tS(f:Nat->Bool):List Nat->List Nat
 | []=>[]
 | j::r=>match f j with
  | true=>j::tS f r
  | false=>tS f r
def CN:List Nat->Nat
 | []=>0
 | j::r=>2 ^ j ||| CN r
def ET(f:Nat->Bool):List Nat->Bool
 | []=>false
 | j::r=>match f j with
  | true=>true
  | false=>ET f r
def Bm(a b:Nat):Bool:=Nat.beq (Nat.land a b) a
structure RS where
 ops:List Oper
 B:List Nat
 nK:List Nat
 w8:List Nat
 cm:Nat
def kO(P:Program)(ops:List Oper):RS:=
 let nK:=idxs (λo=>!mi P o.op) ops 0
 {ops,B:=tc ops [],nK,w8:=idxs (λo=>mi P o.op) ops 0,cm:=CN nK}
def RS.enabled(R:RS)(done j:Nat):Bool:=Bm (Nat.land (R.B.getD j 0) R.cm) done
def RS.Gh(R:RS)(done j:Nat):Bool:=ET (λc=>match Nat.testBit done c with
 | true=>Nat.testBit (R.B.getD c 0) j
 | false=>false) R.nK
def reP(P:Program)(T:List Bool)(o:Oper)(E:Env)(w:World)(R:Prop):Prop:=match o.dst with
 | some d=>match E.get d with
  | some e=>j8 P T o.op o.type E.ev w λv _=>v=e.val/\R
  | none=>False
 | none=>False
def Ee(P:Program)(T:List Bool)(ops:List Oper)(E:Env)(w:World)(R:Prop):List Nat->Prop
 | []=>R
 | j::r=>match ops[j]? with
  | some o=>xX ops o.guard E (λ_=>reP P T o E w (Ee P T ops E w R r)) (λ_=>Ee P T ops E w R r)
  | none=>False
def Dt(P:Program)(T:List Bool)(n:Nat)(ops:List Oper)(w:World)(K:Env->Prop):List Nat->Env->Prop
 | [],E=>K E
 | j::r,E=>match ops[j]? with
  | some o=>xX ops o.guard E (λE'=>wG P T n o E' w λJk _=>Dt P T n ops w K r Jk) (λE'=>Dt P T n ops w K r (E'.put n o.dst .u))
  | none=>False
def G1(F:Nat->Prop):List Nat->Prop
 | []=>False
 | [c]=>F c
 | c::r=>F c/\G1 F r
def RS.go(R:RS)(P:Program)(T:List Bool)(n:Nat)(K:Env->World->Prop):Nat->Nat->Nat->Env->World->Prop
 | 0,_,_,_,_=>False
 | k+1,done,en,E,w=>
  Ee P T R.ops E w
   (Dt P T n R.ops w (λE'=>
     match Bm R.cm done with
     | true=>K E' w
     | false=>G1 (λc=>match R.ops[c]? with
       | some o=>xX R.ops o.guard E' (λE2=>wG P T n o E2 w λE3 w3=>RS.go R P T n K k (done ||| 2 ^ c) (en ||| CN (tS (λj=>R.enabled done j) R.w8)) E3 w3)
         (λE2=>RS.go R P T n K k (done ||| 2 ^ c) (en ||| CN (tS (λj=>R.enabled done j) R.w8)) (E2.put n o.dst .u) w)
       | none=>False)
      (tS (λc=>!Nat.testBit done c && R.enabled done c) R.nK))
    (tS (λj=>!Nat.testBit en j && R.enabled done j) R.w8) E)
   (tS (λj=>Nat.testBit en j && !R.Gh done j && (match R.ops[j]? with|some o=>tB P o.op|none=>false)) R.w8)
def CK{α:Type}:List α->Nat
 | []=>0
 | _::r=>CK r+1
def Kc(P:Program)(T:List Bool)(n:Nat)(ops:List Oper)(K:Env->World->Prop)(E:Env)(w:World):Prop:=
 (kO P ops).go P T n K (CK (kO P ops).nK+1) 0 0 E w
def looks(ops:List Oper)(o:Oper):List Nat:=
 ((jw o.op).filterMap λx=>match x with | .tmp t=>some t|_=>none)++(match o.guard with|some (j,_)=>((ops[j]?).bind (·.dst)).toList|none=>[])
def IX(P:Program)(n:Nat)(ops:List Oper)(draw:Bool):Bool:=match draw with
 | false=>true
 | true=>
  let R:=kO P ops
  (List.range ops.length).all λi=>match ops[i]? with
   | some oi=>(oi.dst.toList.all λd=>decide (d<n)) && (oi.after.toList.all λe=>!Region.binds .any e || decide (e.on<i)) &&
    (mi P oi.op == false || !((oi.dst.toList).any λd=>(looks ops oi).contains d)) &&
    (List.range ops.length).all λj=>match ops[j]? with
     | some oj=>match oj.dst with
      | some d=>i == j || ((!mi P oj.op || oi.dst != some d) &&
        (!(looks ops oi).contains d || (R.B.getD i 0).testBit j || (!mi P oj.op && (R.B.getD j 0).testBit i)))
      | none=>true
     | none=>true
   | none=>true
