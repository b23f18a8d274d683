/- Part of the proof (my own). -/
import Derived.Test.YtfenmffiidchcaaGreatQEng4
namespace Go.Proofs.YtfenmffiidchcaaGreat
set_option linter.unusedVariables false
open Go.RowKit
section
variable {P:Program} {w:World} {K:Value->World->Prop}
theorem Sn(off:Nat):∀(vs:List Value) (k:Nat) (cells:List Value),off+k+vs.length<=cells.length ->
  (vs.zipIdx k).foldl (λcs (p:Value × Nat)=>cs.set (off+p.2) p.1) cells=cells.take (off+k)++vs++cells.drop (off+k+vs.length)
 | [],k,cells,h=>by simp
 | v::r,k,cells,h=>by
  simp only[List.length_cons]at h
  obtain⟨A,x,B,rfl,hA⟩:∃A x B,cells=A++x::B/\A.length=off+k:=by
   refine⟨cells.take (off+k),cells[off+k]'(by omega),cells.drop (off+k+1),?_,by simp;omega⟩
   rw[<- List.drop_eq_getElem_cons,List.take_append_drop]
  have iV:off+k=A.length:=hA.symm
  rw[List.zipIdx_cons,List.foldl_cons,Sn off r (k+1) _ (by simp at h ⊢;omega)]
  have e1:(A++x::B).set (off+k) v=A++v::B:=by rw[iV];simp
  have e2:(A++v::B).take (off+(k+1))=A++[v]:=by rw[show off+(k+1)=A.length+1 by omega,List.take_length_add_append];simp
  have e3:(A++v::B).drop (off+(k+1)+r.length)=B.drop r.length:=by rw[show off+(k+1)+r.length=A.length+(r.length+1) by omega,List.drop_length_add_append];simp
  have e4:(A++x::B).take (off+k)=A:=by rw[iV];simp
  have e5:(A++x::B).drop (off+k+(r.length+1))=B.drop r.length:=by rw[iV,List.drop_length_add_append];simp
  simp only[List.length_cons]at *
  rw[e1,e2,e3,e4,e5]
  simp
theorem VC(vs cells:Array Value)(off:Nat)(h:off+vs.size<=cells.size):
  vs.zipIdx.foldl (λcs (p:Value × Nat)=>cs.setIfInBounds (off+p.2) p.1) cells=(cells.toList.take off++vs.toList++cells.toList.drop (off+vs.size)).toArray:=by
 have h1:∀(l:List (Value × Nat)) (c:Array Value),(l.foldl (λcs (p:Value × Nat)=>cs.setIfInBounds (off+p.2) p.1) c).toList=l.foldl (λcs (p:Value × Nat)=>cs.set (off+p.2) p.1) c.toList:=by
  intro l
  induction l with
  | nil=>intro c;rfl
  | cons x r ih=>intro c;rw[List.foldl_cons,List.foldl_cons,ih];simp
 have h2:=Sn off vs.toList 0 cells.toList (by simpa using h)
 apply Array.toList_inj.1
 rw[<- Array.foldl_toList,h1,Array.toList_zipIdx,h2]
 simp
theorem fill_eq(place:Nat->Option (Nat × Nat)):∀(ps:List (Nat × Value)) (l:List (Nat × Nat × Value)) (z cells:List Value),
  (ps.map λp=>(place p.1,p.2))=(l.map λq=>(some (q.1,q.2.1),q.2.2))->iw z l=some cells->Instr.fill place z.toArray ps=some cells.toArray
 | [],[],z,cells,_,h=>by simp[iw]at h;subst h;rfl
 | [],_::_,z,cells,hm,h=>by simp at hm
 | _::_,[],z,cells,hm,h=>by simp at hm
 | (i,v)::ps,(off,size,u)::l,z,cells,hm,h=>by
  simp only[List.map_cons,List.cons.injEq,Prod.mk.injEq]at hm
  obtain⟨⟨hp,rfl⟩,hm⟩:=hm
  simp only[iw]at h
  split at h
  ·rename_i hc
   obtain⟨h1,h2⟩:=hc
   rw[Instr.fill,hp]
   have h3:¬(v.cells.size≠size\/off+v.cells.size>z.length):=by omega
   have WB:=VC v.cells z.toArray off (by simp;omega)
   simp only[Bool.or_eq_true,decide_eq_true_eq,List.size_toArray,h3,if_false]
   rw[WB,<- fill_eq place ps l _ cells hm h,h1]
  ·cases h
theorem Nh:∀(fs:List Field) (l:List (Nat × Nat)),vF P fs=some l->(fs.mapM λf=>do pure (f.offset,<- sizeOf f.type):Sem (List (Nat × Nat))).run P w= .ok l w
 | [],l,h=>by simp[vF]at h;subst h;simp
 | f::r,l,h=>by
  simp only[vF]at h
  split at h
  ·rename_i n hn
   split at h
   ·rename_i l' hl
    cases h
    have ih:=Nh r l' hl
    simp only[bind_pure_comp]at ih
    simp[List.mapM_cons,run_sizeOf hn,ih]
   ·cases h
  ·cases h
theorem Gv(pl:List (Nat × Nat))(ev:Operand->Value):∀(ps:List (Nat × Operand)) (l:List (Nat × Nat × Value)),oG pl ev ps=some l ->
  ((ps.map λp=>(p.1,ev p.2)).map λp=>(pl[p.1]?,p.2))=(l.map λq=>(some (q.1,q.2.1),q.2.2))
 | [],l,h=>by simp[oG]at h;subst h;rfl
 | (i,x)::r,l,h=>by
  simp only[oG]at h
  split at h
  ·rename_i off n hi
   split at h
   ·rename_i l' hl
    cases h
    simp[hi,Gv pl ev r l' hl]
   ·cases h
  ·cases h
theorem Uk{t:TypeId}{fields:Array Field}{i:TypeInfo}{v:Value}{pl:List (Nat × Nat)}{ps:Array (Nat × Operand)}{ev:Operand->Value}{l:List (Nat × Nat × Value)}
  (ht:P.underlying t=some (.struct fields)) (hi:P.info? t=some i) (hv:i.zero=some v) (fo:vF P fields.toList=some pl) (hl:oG pl ev ps.toList=some l)
  (h:zo v.cells.toList l λv=>K v w):fI P (do pure (.value (<- Instr.build t (ps.map λ(i,x)=>(i,ev x))))) w K:=by
 obtain⟨cells,hc,hk⟩:=h
 refine .value ?_ hk
 have h1:(fields.mapM λf=>do pure (f.offset,<- sizeOf f.type):Sem (Array (Nat × Nat))).run P w= .ok pl.toArray w:=by
  rw[Array.mapM_eq_mapM_toList,Sem.run_map,Nh _ _ fo];rfl
 have h2:=fill_eq (λj=>pl[j]?) (ps.toList.map λp=>(p.1,ev p.2)) l _ cells (by simpa using Gv pl ev _ _ hl) hc
 rw[Array.toArray_toList]at h2
 simp only[Instr.build,Sem.run_bind,wE hi hv,run_underlying ht,Result.andThen_ok,h1,Array.toList_map]
 have h3:(λx:Nat=>(pl.toArray[x]?:Option (Nat × Nat)))=λj=>pl[j]?:=by funext j;simp
 rw[h3,h2]
 rfl
theorem Uj{t e:TypeId}{i:TypeInfo}{v:Value}{len n:Nat}{ps:Array (Nat × Operand)}{ev:Operand->Value}{l:List (Nat × Nat × Value)}
  (ht:P.underlying t=some (.slice e)) (hi:P.info? e=some i) (hv:i.zero=some v) (hn:ka P e=some n) (hz:n=v.cells.toList.length) (hle:len*n<=16777216)
  (hl:oG ((List.range len).map λi=>(i*n,n)) ev ps.toList=some l) (h:zn (db v.cells.toList len) l e len w K) :
  fI P (do pure (.value (<- Instr.buildSlice t len (ps.map λ(i,x)=>(i,ev x))))) w K:=by
 obtain⟨cells,hc,hk⟩:=h
 refine .value ?_ hk
 have hlen:∀(ps:List (Nat × Operand)) (l:List (Nat × Nat × Value)),oG ((List.range len).map λi=>(i*n,n)) ev ps=some l ->
   ((ps.map λp=>(p.1,ev p.2)).map λp=>(some (p.1*n,n),p.2))=(l.map λq=>(some (q.1,q.2.1),q.2.2)):=λps l h=>by
  have:=Gv _ ev ps l h
  rw[<- this]
  rw[List.map_map,List.map_map]
  have kF:∀p∈ps,p.1<len:=by
   intro p hp
   have hm:(((List.range len).map λi=>(i*n,n))[p.1]?,ev p.2)∈((ps.map λp=>(p.1,ev p.2)).map λp=>(((List.range len).map λi=>(i*n,n))[p.1]?,p.2)):=by
    simp only[List.map_map,List.mem_map];exact⟨p,hp,rfl⟩
   rw[this]at hm
   obtain⟨q,_,hq⟩:=List.mem_map.1 hm
   simp only[Prod.mk.injEq]at hq
   have:=(List.getElem?_eq_some_iff.1 hq.1.symm).1
   simpa using this
  refine List.map_congr_left λp hp=>?_
  simp[kF p hp]
 have h2:=fill_eq (λi=>some (i*n,n)) (ps.toList.map λp=>(p.1,ev p.2)) l _ cells (hlen _ _ hl) hc
 have XO:n=v.cells.size:=by simpa using hz
 subst XO
 have hr:=Hq v.cells len
 simp only[Instr.buildSlice,Sem.run_bind,run_underlying ht,Result.andThen_ok,run_sizeOf hn,show ¬len*v.cells.size>2 ^ 24 by omega,if_false]
 by_cases h0:len*v.cells.size=0
 ·have XM:db v.cells.toList len=[]:=List.eq_nil_of_length_eq_zero (by rw[ku];simpa using h0)
  rw[XM]at h2
  have Xf:(Array.range 0).map (λi=>(#[]:Array Value)[i % (#[]:Array Value).size]!) = #[]:=Array.eq_empty_of_size_eq_zero (by simp)
  simp only[h0,if_true,pure_bind,Xf,Array.toList_map]
  rw[show ([]:List Value).toArray = #[] from rfl]at h2
  rw[h2]
  rfl
 ·simp only[h0,if_false,pure_bind,Sem.run_bind,wE hi hv,Result.andThen_ok,hr,Array.toList_map]
  rw[h2]
  rfl
end
open Go.RowKit
section
variable {P:Program} {w:World} {K:Value->World->Prop}
theorem G1{sz n:Nat}{y:Value}{cs:List Value}{w':World}(h:jy w sz y n cs)(hw:∀a,w'.cell? a=w.cell? a):
  (Builtin.firstCells sz n y).run P w'= .ok cs.toArray w'/\(Builtin.lenOf y).run P w'= .ok n w':=by
 unfold jy at h
 split at h
 ·obtain⟨rfl,h1,h2⟩:=h
  exact⟨run_firstCells_some w' sz n _ _ _ cs h1 (λj v hj=>by rw[hw];exact h2 j v hj),rfl⟩
 ·obtain⟨rfl,rfl⟩:=h
  exact⟨run_firstCells_none w' sz n _ _,rfl⟩
 ·rename_i s
  obtain⟨rfl,rfl⟩:=h
  refine⟨?_,rfl⟩
  have:(s.extract 0 s.size)=s:=by simp
  simp only[Builtin.firstCells,this,Sem.run_pure,Result.ok.injEq,and_true]
  apply Array.ext'
  simp
 ·cases h
theorem MT(w:World)(a:Addr):w.drew.cell? a=w.cell? a:=rfl
theorem LV{t u e ty:TypeId}{d:TypeDesc}{i:TypeInfo}{v:Value}{x y:Value}(ht:P.underlying t=some (.slice e))(hu:P.underlying u=some d)(hd:∀k,d≠.int k)
  (hi:P.info? e=some i) (hv:i.zero=some v) (hn:ka P e=some v.cells.size)
  (h:zt v.cells.size (sr P e) v.cells.toList e x y w K):fI P (do pure (.value (<- Builtin.append_ #[t,u] ty #[x,y]))) w K:=by
 obtain⟨a,len,cap,n,cs,rfl,g7,hb,hlen,h1,h2⟩:=h
 have mS:sr P e=i.bytes:=by simp[sr,hi]
 rw[mS]at hb
 obtain⟨r1,r2⟩:=G1 (P:=P) g7 (λ_=>rfl)
 have hz:(underlying u).run P w= .ok d w:=run_underlying hu w
 have hzf:(match d with | .int _=>true|_=>false)=false:=by
  cases d with
  | int k=>exact absurd rfl (hd k)
  | _=>rfl
 by_cases hc:len+n<=cap
 ·have hk:=h1 hc
  cases a with
  | none=>
   refine .value ?_ hk
   simp only[Builtin.append_,List.getElem?_toArray,List.getElem?_cons_zero,List.getElem?_cons_succ,Sem.run_bind,run_underlying ht,Result.andThen_ok,run_sizeOf hn,hz,Sem.run_pure,Bool.false_eq_true,if_false,r2,hc,if_true,Bool.not_false,r1]
  | some p=>
   obtain⟨w',hs,hk⟩:=G3 (P:=P) _ _ _ _ _ hk
   refine .value ?_ hk
   simp only[Builtin.append_,List.getElem?_toArray,List.getElem?_cons_zero,List.getElem?_cons_succ,Sem.run_bind,run_underlying ht,Result.andThen_ok,run_sizeOf hn,hz,Sem.run_pure,Bool.false_eq_true,if_false,r2,hc,if_true,Bool.not_false,r1,hs]
 ·obtain⟨oE,ho,hk⟩:=h2 (by omega)
  have hk:=hk (grownCap w (len+n) cap e) (grownCap_ge _ _ _ _) (by have:=grownCap_le_maxLen w (len+n) cap e (by simp only[maxLen];omega);simpa [maxLen] using this)
  obtain⟨q1,_⟩:=G1 (P:=P) g7 (MT w)
  obtain⟨q2,_⟩:=G1 (P:=P) (w':=w.drew) ho (MT w)
  refine .value ?_ hk
  have hm:¬(((len+n:Nat):Int)>IntKind.i64.max/\(False\/i.bytes=0)):=by
   intro hh
   have:IntKind.i64.max=9223372036854775807:=rfl
   omega
  have nE:=growslice_fits (bytes:=i.bytes) (show cap<len+n by omega) hb
  have Wx:¬(Builtin.nextslicecap (len+n) cap*i.bytes>2 ^ 48):=by simpa using nE
  have FP:Builtin.zeroCells v.cells (grownCap w (len+n) cap e-(len+n))=(db v.cells.toList (grownCap w (len+n) cap e-(len+n))).toArray:=Hq v.cells _
  have FJ:∀w,(typeInfo e).run P w= .ok i w:=λw=>by simp[typeInfo,hi]
  have k8:oE.toArray++cs.toArray++(db v.cells.toList (grownCap w (len+n) cap e-(len+n))).toArray=(oE++cs++db v.cells.toList (grownCap w (len+n) cap e-(len+n))).toArray:=by simp
  simp only[Builtin.append_,List.getElem?_toArray,List.getElem?_cons_zero,List.getElem?_cons_succ,Sem.run_bind,run_underlying ht,Result.andThen_ok,run_sizeOf hn,hz,Sem.run_pure,Bool.false_eq_true,if_false,r2,hc,Bool.not_false,if_true,FJ,hm,Wx,
   run_choose,Question.forced,run_askRoom]
  show ((Builtin.firstCells v.cells.size len _).run P w.drew).andThen _=_
  rw[q2]
  simp only[Result.andThen_ok]
  show ((Builtin.firstCells v.cells.size n _).run P w.drew).andThen _=_
  rw[q1]
  simp only[Result.andThen_ok,wE hi hv]
  show ((newRow e (oE.toArray++cs.toArray++Builtin.zeroCells v.cells (grownCap w (len+n) cap e-(len+n)))).run P w.drew).andThen _=_
  rw[FP,k8]
  rfl
theorem Ml{T:List Bool}(hT:Calls.nr P T){f:FuncId}{first captured args:List Value}(hf:T.getD f false=true)(h:zU P f (first++args++captured) w K):
  fI P (do let d <- Deferred.ofValue (.func (.func f) first.toArray captured.toArray) args.toArray;invoke d.target d.args) w K:=by
 obtain⟨fn,h1,h2,h3⟩:=hT f hf
 refine .inr (.inr ⟨f,(first++args++captured).toArray,?_,h⟩)
 have e1:first.toArray++args.toArray++captured.toArray=(first++args++captured).toArray:=by simp
 simp only[Deferred.ofValue,invoke,callFunc,pure_bind,Sem.run_bind,run_program,Result.andThen_ok,h1,h2,h3,Bool.false_eq_true,if_false,e1]
 rfl
theorem aFm{f:FuncId}{args:List Value}(h:qz P f args w K):fI P (do let d <- Deferred.ofValue (.func (.func f) #[] #[]) args.toArray;invoke d.target d.args) w K:=by
 obtain⟨v,w',h1,h2⟩:=h
 refine .inl ⟨v,w',?_,h2⟩
 have e:(#[]:Array Value)++args.toArray ++ #[]=args.toArray:=by simp
 simp only[Deferred.ofValue,invoke,pure_bind,e,h1]
def ez:Op->List Operand
 | .alloc _=>[]
 | .move x | .assign x | .box _ x | .load _ x | .nilCheck x | .unOp _ _ x | .convert _ _ x | .fieldAddr _ x _ | .field _ x _ | .extract x _=>[x]
 | .pick c a b=>[c,a,b]
 | .build _ ps | .buildSlice _ _ ps=>ps.toList.map (·.2)
 | .store _ a v | .binOp _ _ a v _ | .makeSlice _ a v | .indexAddr _ a v | .index _ a v | .lookup _ a v _ | .mapEntry _ a v=>[a,v]
 | .makeFunc _ first captured=>first.toList++captured.toList
 | .slice _ x l h m=>x::(l.toList++h.toList++m.toList)
 | .mapUpdate _ m k v | .entryStore _ m k v | .insert _ m k v=>[m,k,v]
 | .call c=>match c.callee with
  | .value f=>f::c.args.toList
  | _=>c.args.toList
 | _=>[]
theorem Gu{pl:List (Nat × Nat)}{ev ρ:Operand->Value}:∀(ps:List (Nat × Operand)),(∀x∈ps.map (·.2),ρ x=ev x)->oG pl ρ ps=oG pl ev ps
 | [],_=>rfl
 | (i,x)::r,h=>by
  simp only[oG]
  rw[Gu r (λy hy=>h y (by simp only[List.map_cons,List.mem_cons];exact .inr hy)),h x (by simp)]
theorem Cs{ev ρ:Operand->Value}(xs:Array Operand)(h:∀x∈xs.toList,ρ x=ev x):xs.map ρ=(xs.toList.map ev).toArray:=by
 apply Array.ext'
 simp only[Array.toList_map]
 exact List.map_congr_left h
set_option maxHeartbeats 1000000 in
theorem Gr{T:List Bool}(hT:Calls.nr P T){o:Oper}{ρ ev:Operand->Value}(hF:∀f,ρ (.func f)= .func (.func f) #[] #[])(hρ:∀x∈ez o.op,ρ x=ev x)(h:fj P T o.op o.type ev w K):fI P (execOp ρ o) w K:=by
 obtain⟨dst,op,ty,pos,after,guard⟩:=o
 simp only at h hρ
 unfold execOp
 cases op with
 | move x=>exact .inl ⟨_,_,rfl,by rw[hρ x (by simp[ez])];exact h⟩
 | assign x=>exact .inl ⟨_,_,rfl,by rw[hρ x (by simp[ez])];exact h⟩
 | alloc e=>
  simp only[fj]at h
  split at h
  ·rename_i z hz;exact TI hz h
  ·cases h
 | box e x=>
  simp only[fj]at h
  simp only[hρ x (by simp[ez])]
  split at h
  ·exact Mf (by rw[si h.1]) h.2
  ·obtain⟨vs,hx,h⟩:=h
   exact Mf (by rw[hx];rfl) h
  ·cases h
 | build t ps=>
  simp only[fj]at h
  split at h
  ·rename_i fields ht
   split at h
   ·rename_i z hz
    split at h
    ·rename_i pl fo
     split at h
     ·rename_i l hl
      obtain⟨i,v,hi,hv,rfl⟩:=yG hz
      rw[<- Gu ps.toList (by simpa [ez] using hρ)]at hl
      exact Uk ht hi hv fo hl h
     ·cases h
    ·cases h
   ·cases h
  ·cases h
 | buildSlice t len ps=>
  simp only[fj]at h
  split at h
  ·rename_i e ht
   split at h
   ·rename_i z hz
    split at h
    ·rename_i n hn
     split at h
     ·rename_i l hl
      split at h
      ·rename_i rP kW
       obtain⟨i,v,hi,hv,rfl⟩:=yG hz
       rw[<- Gu ps.toList (by simpa [ez] using hρ)]at hl
       exact Uj ht hi hv hn (beq_iff.1 rP) (Nat.le_of_ble_eq_true kW) hl h
      ·cases h
     ·cases h
    ·cases h
   ·cases h
  ·cases h
 | load t x=>
  simp only[fj]at h
  simp only[hρ x (by simp[ez])]
  split at h
  ·rename_i ht;exact ail ht h
  ·rename_i n ht;exact air ht h
  ·cases h
 | store t x v=>
  simp only[fj]at h
  simp only[hρ x (by simp[ez]),hρ v (by simp[ez])]
  split at h
  ·rename_i ht
   split at h
   ·rename_i hs;exact a75 ht hs h
   ·cases h
  ·rename_i n ht;exact a76 ht h
  ·cases h
 | nilCheck x=>
  obtain⟨a,hx,hk⟩:=h
  refine .inl ⟨_,_,?_,hk⟩
  simp only[hρ x (by simp[ez]),hx]
  rfl
 | binOp op t x y u=>
  simp only[fj]at h
  simp only[hρ x (by simp[ez]),hρ y (by simp[ez])]
  split at h
  ·exact Ma h
  ·exact Ma h
  ·split at h
   ·rename_i hm;exact Vd hm h
   ·cases h
  ·split at h
   ·rename_i hm;exact awm hm h
   ·cases h
  ·rename_i d ht;exact Vg ht h
  ·rename_i d ht;exact awn ht h
  ·cases h
 | unOp op t x=>
  cases op with
  | not=>simp only[hρ x (by simp[ez])];exact awx h
  | neg=>simp only[hρ x (by simp[ez])];exact awl h
  | xor=>simp only[hρ x (by simp[ez])];exact UH h
  | _=>cases h
 | convert s d x=>
  simp only[fj]at h
  simp only[hρ x (by simp[ez])]
  split at h
  ·rename_i e k hs hd;exact UJ hs hd h
  ·rename_i hs hd;exact UK hs hd h
  ·exact h.mM
  ·exact h.mM
  ·exact ga.mM h
 | makeFunc fn first captured=>
  simp only[fj]at h
  split at h
  ·refine .inl ⟨_,_,rfl,?_⟩
   rw[Cs first (λx hx=>hρ x (by simp[ez];left;simpa using hx)),Cs captured (λx hx=>hρ x (by simp[ez];right;simpa using hx))]
   exact h
  ·cases h
 | makeSlice t x y=>
  simp only[fj]at h
  simp only[hρ x (by simp[ez]),hρ y (by simp[ez])]
  split at h
  ·rename_i e ht
   split at h
   ·rename_i z hz
    split at h
    ·rename_i n hn
     split at h
     ·rename_i hb
      obtain⟨i,v,hi,hv,rfl⟩:=yG hz
      refine awf ht hi hv (by rw[hn,beq_iff.1 hb];simp) h
     ·cases h
    ·cases h
   ·cases h
  ·cases h
 | slice t x lo hi mx=>
  have e1:lo.map ρ=lo.map ev:=by cases lo with|none=>rfl|some y=>simp[hρ y (by simp[ez])]
  have e2:hi.map ρ=hi.map ev:=by cases hi with|none=>rfl|some y=>simp[hρ y (by simp[ez])]
  have e3:mx.map ρ=mx.map ev:=by cases mx with|none=>rfl|some y=>simp[hρ y (by simp[ez])]
  simp only[fj]at h
  simp only[hρ x (by simp[ez]),e1,e2,e3]
  split at h
  ·rename_i e ht
   split at h
   ·rename_i n hn
    split at h
    ·cases h
    ·rename_i eN
     refine a7u ht hn ?_ h
     intro hm
     cases mx with
     | none=>simp at hm
     | some m=>cases hi with
      | none=>exact absurd rfl (eN m rfl)
      | some y=>rfl
   ·cases h
  ·rename_i ht
   split at h
   ·exact a7t ht h
   ·cases h
  ·cases h
 | fieldAddr s x f=>
  simp only[fj]at h
  simp only[hρ x (by simp[ez])]
  split at h
  ·rename_i off hf;exact Vu hf h
  ·cases h
 | indexAddr t x i=>
  simp only[fj]at h
  simp only[hρ x (by simp[ez]),hρ i (by simp[ez])]
  split at h
  ·rename_i e ht
   split at h
   ·rename_i n hn;exact XS ht hn h
   ·cases h
  ·rename_i len e ht
   split at h
   ·rename_i n hn;exact XR ht hn h
   ·cases h
  ·cases h
 | extract x i=>simp only[hρ x (by simp[ez])];exact Vj h
 | field t x f=>simp only[hρ x (by simp[ez])];exact ga.mM h
 | index t x i=>simp only[hρ x (by simp[ez]),hρ i (by simp[ez])];exact ga.mM h
 | lookup t x i ok=>simp only[hρ x (by simp[ez]),hρ i (by simp[ez])];exact ga.mM h
 | mapUpdate t m k x=>
  simp only[hρ m (by simp[ez]),hρ k (by simp[ez]),hρ x (by simp[ez])]
  obtain⟨v,w',hr,hk⟩:=h
  simp only[Sem.run_bind,Sem.run_pure]at hr
  cases hm:(Instr.mapUpdate t (ev m) (ev k) (ev x)).run P w with
  | ok u w2=>rw[hm]at hr;cases hr;exact .inr (.inl ⟨w',by simp[hm],hk⟩)
  | halt e w2=>rw[hm]at hr;cases hr
 | insert t m k x=>
  simp only[hρ m (by simp[ez]),hρ k (by simp[ez]),hρ x (by simp[ez])]
  obtain⟨v,w',hr,hk⟩:=h
  simp only[Sem.run_bind,Sem.run_pure]at hr
  cases hm:(Instr.mapUpdate t (ev m) (ev k) (ev x)).run P w with
  | ok u w2=>rw[hm]at hr;cases hr;exact .inr (.inl ⟨w',by simp[hm],hk⟩)
  | halt e w2=>rw[hm]at hr;cases hr
 | mapEntry t m k=>simp only[hρ m (by simp[ez]),hρ k (by simp[ez])];exact zZ.mM h
 | entryStore t m k x=>
  simp only[hρ m (by simp[ez]),hρ k (by simp[ez]),hρ x (by simp[ez])]
  obtain⟨v,w',hr,hk⟩:=h
  simp only[Sem.run_bind,Sem.run_pure]at hr
  cases hm:(Instr.entryStore t (ev m) (ev k) (ev x)).run P w with
  | ok u w2=>rw[hm]at hr;cases hr;exact .inr (.inl ⟨w',by simp[hm],hk⟩)
  | halt e w2=>rw[hm]at hr;cases hr
 | makeMap t r=>
  cases r with
  | none=>exact .inl ⟨_,_,rfl,h⟩
  | some x=>cases h
 | call c=>
  obtain⟨callee,args,tR⟩:=c
  cases callee with
  | value g=>
   have ha:args.map ρ=(args.toList.map ev).toArray:=Cs args (λx hx=>hρ x (by simp[ez];right;simpa using hx))
   cases g with
   | func f=>
    simp only[fj]at h
    split at h
    ·rename_i hf
     have:=Ml hT (first:=[]) (captured:=[]) hf (by simpa using h)
     simp only[resolve,ha,hF f]
     exact this
    ·simp only[resolve,ha,hF f]
     exact aFm h
   | tmp t=>
    obtain⟨f,first,captured,hg,hf,h⟩:=h
    have:=Ml hT hf h
    have EY:ρ (.tmp t)=ev (.tmp t):=hρ _ (by simp[ez])
    simp only[resolve,ha,EY,hg]
    simpa using this
   | _=>cases h
  | invoke r m=>cases h
  | builtin b=>
   have ha:args.map ρ=(args.toList.map ev).toArray:=Cs args (λx hx=>hρ x (by simpa [ez] using hx))
   have hb:(do let d <- resolve ρ ⟨.builtin b,args,tR⟩ ty;invoke d.target d.args)=builtin b tR ty (args.map λ| .const _=>true|_=>false) (args.toList.map ev).toArray:=by
    simp only[resolve,ha];rfl
   show fI P (do let d <- resolve ρ ⟨.builtin b,args,tR⟩ ty;invoke d.target d.args) w K
   rw[hb]
   cases b with
   | len=>
    simp only[fj]at h
    split at h
    ·rename_i x t hx ht
     have EO:tR = #[t]:=by apply Array.ext';exact ht
     rw[hx]
     subst EO
     split at h
     ·rename_i e hs;exact aie hs h
     ·rename_i hs;exact aif hs h
     ·exact ga.mM h
    ·cases h
   | min=>
    simp only[fj]at h
    split at h
    ·rename_i x y hx;rw[hx];exact awd h
    ·cases h
   | max=>
    simp only[fj]at h
    split at h
    ·rename_i x y hx;rw[hx];exact ai4 h
    ·cases h
   | append=>
    simp only[fj]at h
    split at h
    ·rename_i x y t u hx ht
     have EO:tR = #[t,u]:=by apply Array.ext';exact ht
     rw[hx]
     subst EO
     split at h
     ·rename_i e hs
      split at h
      ·rename_i z hz
       obtain⟨i,v,hi,hv,rfl⟩:=yG hz
       split at h
       ·rename_i n hn
        split at h
        ·rename_i e' hb hu
         have mS:=beq_iff.1 hb
         simp at mS;subst mS
         exact LV hs hu (λk hk=>by cases hk) hi hv hn h
        ·rename_i hb hu
         have mS:=beq_iff.1 hb
         simp at mS;subst mS
         exact LV hs hu (λk hk=>by cases hk) hi hv hn h
        ·exact zZ.mM h
        ·cases h
       ·cases h
      ·cases h
     ·cases h
    ·cases h
   | copy=>exact h.mM
   | delete=>exact h.mM
   | cap=>exact ga.mM h
   | clear=>exact h.mM
   | _=>cases h
 | _=>cases h
end
open Go.RowKit
def dO(x:Value)(A B:Prop):Prop:=∃r,x= .bool r/\(r=true->A)/\(r=false->B)
def lq(E:Env)(x:Operand)(e:hJ):Env:=match x with
 | .tmp t=>(t,e)::E
 | _=>E
def m9(n:Nat)(E:Env)(d:Option Nat)(x:Option hJ)(K:Env->Prop):Prop:=match x with
 | some e=>K (E.put n d e)
 | none=>False
def pD(P:Program)(T:List Bool)(n:Nat)(o:Oper)(E:Env)(w:World)(K:Env->World->Prop):Prop:=
 match o.op with
 | .move x=>m9 n E o.dst (E.gP x) λE'=>K E' w
 | .assign x=>m9 n E o.dst (E.gP x) λE'=>K E' w
 | .pick c a b=>match E.gP c with
  | some .t=>m9 n E o.dst (E.gP a) λE'=>K E' w
  | some .f=>m9 n E o.dst (E.gP b) λE'=>K E' w
  | some (.v x)=>dO x (m9 n (lq E c .t) o.dst (Env.gP (lq E c .t) a) λE'=>K E' w) (m9 n (lq E c .f) o.dst (Env.gP (lq E c .f) b) λE'=>K E' w)
  | some .u=>False
  | none=>False
 | op=>match E.BK (ez op) with
  | true=>fj P T op o.type E.ev w λv w'=>K (E.put n o.dst (.v v)) w'
  | false=>False
def rN(ops:List Oper)(g:Option (Nat × Bool))(E:Env)(run skip:Env->Prop):Prop:=match g with
 | none=>run E
 | some (j,want)=>match (ops[j]?).bind (·.dst) with
  | some g=>match E.get g with
   | some .t=>(match want with|true=>run E|false=>skip E)
   | some .f=>(match want with|true=>skip E|false=>run E)
   | some (.v x)=>dO x (match want with|true=>run ((g,.t)::E)|false=>skip ((g,.t)::E)) (match want with|true=>skip ((g,.f)::E)|false=>run ((g,.f)::E))
   | some .u=>skip E
   | none=>False
  | none=>False
def AG(P:Program)(T:List Bool)(n:Nat)(ops:List Oper)(K:Env->World->Prop):List Oper->Env->World->Prop
 | [],E,w=>K E w
 | o::r,E,w=>rN ops o.guard E (λE'=>pD P T n o E' w λC8 w'=>AG P T n ops K r C8 w') (λE'=>AG P T n ops K r (E'.put n o.dst .u) w)
def iR(W:List Nat)(a a':Act):Prop:=∀t,t∉W->a'.tmps[t]?=a.tmps[t]?
theorem iR.refl(W:List Nat)(a:Act):iR W a a:=λ_ _=>rfl
theorem iR.trans{W:List Nat}{a b c:Act}(h:iR W a b)(k:iR W b c):iR W a c:=λt ht=>(k t ht).trans (h t ht)
theorem iR.mono{W W':List Nat}{a b:Act}(h:iR W a b)(hw:∀t∈W,t∈W'):iR W' a b:=λt ht=>h t λx=>ht (hw t x)
theorem iR.put(a:Act)(d:Option Nat)(v:Value)(W:List Nat)(hd:∀t,d=some t->t∈W):iR W a (a.put d v):=by
 cases d with
 | none=>exact .refl _ _
 | some d=>
  intro t ht
  have:d≠t:=λe=>ht (hd t (by rw[e]))
  simp[Act.put,Array.getElem?_setIfInBounds_ne this]
theorem fz.set{X:List Nat}{n:Nat}{E:Env}{a:Act}(h:fz X n E a){t:Nat}{e:hJ}(he:t∉X->a.tmps[t]?=some e.val):fz X n ((t,e)::E) a:=by
 refine⟨h.size,h.defers,λu e' hX hu=>?_⟩
 simp only[Env.get]at hu
 split at hu
 ·rename_i hb
  obtain rfl:=beq_iff.1 hb
  cases hu;exact he hX
 ·exact h.get u e' hX hu
theorem fz.lq{X:List Nat}{n:Nat}{E:Env}{a:Act}(h:fz X n E a){x:Operand}{v:Value}{e:hJ}(hx:E.gP x=some (.v v))(hv:e.val=v):fz X n (lq E x e) a:=by
 cases x with
 | tmp t=>exact h.set (λhX=>by rw[hv];exact h.get t _ hX hx)
 | const v=>exact h
 | global g=>exact h
 | func f=>exact h
theorem wz{X:List Nat}{n:Nat}{E:Env}{d:Option Nat}{x:Operand}{K:Env->Prop}(h:m9 n E d (E.gP x) K){a:Act}(hA:fz X n E a)(hX:tL X x):∃E',fz X n E' (a.put d (a.eval x))/\K E':=by
 unfold m9 at h
 split at h
 ·rename_i e he;exact⟨_,by rw[hA.gP hX he];exact hA.put d e,h⟩
 ·cases h
section
variable {P:Program} {T:List Bool} {n:Nat} {X:List Nat}
theorem SC(hT:Calls.nr P T){o:Oper}{E:Env}{w:World}{K:Env->World->Prop}(h:pD P T n o E w K){a:Act}(hA:fz X n E a)(hX:∀x∈ez o.op,tL X x){next:Act->World->Prop}{Q:Exit->Act->World->Prop}
  (hn:∀E' v w',fz X n E' (a.put o.dst v)->K E' w'->next (a.put o.dst v) w'):o.wp P a w next Q:=by
 unfold pD at h
 split at h
 ·rename_i x ff
  obtain⟨E',h1,h2⟩:=wz h hA (hX x (by simp[ff,ez]))
  refine fI.upon (K:=λv w'=>∃E',fz X n E' (a.put o.dst v)/\K E' w') (.inl ⟨a.eval x,w,by simp[execOp,ff],E',h1,h2⟩) ?_
  rintro v w' ⟨E',h1,h2⟩
  exact hn E' v w' h1 h2
 ·rename_i x ff
  obtain⟨E',h1,h2⟩:=wz h hA (hX x (by simp[ff,ez]))
  refine fI.upon (K:=λv w'=>∃E',fz X n E' (a.put o.dst v)/\K E' w') (.inl ⟨a.eval x,w,by simp[execOp,ff],E',h1,h2⟩) ?_
  rintro v w' ⟨E',h1,h2⟩
  exact hn E' v w' h1 h2
 ·rename_i c x y ff
  have key:∀(r:Bool),a.eval c= .bool r->(∃E',fz X n E' (a.put o.dst (if r then a.eval x else a.eval y))/\K E' w)->o.wp P a w next Q:=λr hr h=>by
   refine fI.upon (K:=λv w'=>∃E',fz X n E' (a.put o.dst v)/\K E' w') (.inl ⟨_,w,by simp[execOp,ff,hr,asBool],h⟩) ?_
   rintro v w' ⟨E',h1,h2⟩
   exact hn E' v w' h1 h2
  split at h
  ·rename_i hc;exact key true (hA.gP (hX c (by simp[ff,ez])) hc) (wz h hA (hX _ (by simp[ff,ez])))
  ·rename_i hc;exact key false (hA.gP (hX c (by simp[ff,ez])) hc) (wz h hA (hX _ (by simp[ff,ez])))
  ·rename_i v hc
   obtain⟨r,rfl,h1,h2⟩:=h
   cases r with
   | true=>
    exact key true (hA.gP (hX c (by simp[ff,ez])) hc) (wz (h1 rfl) (hA.lq hc rfl) (hX _ (by simp[ff,ez])))
   | false=>exact key false (hA.gP (hX c (by simp[ff,ez])) hc) (wz (h2 rfl) (hA.lq hc rfl) (hX _ (by simp[ff,ez])))
  ·cases h
  ·cases h
 ·split at h
  ·rename_i hh
   refine fI.upon (Gr hT (λ_=>rfl) (λx hx=>hA.ev (hX x hx) (Env.BL hh x hx)) h) ?_
   intro v w' hk
   exact hn _ v w' (hA.put o.dst (.v v)) hk
  ·cases h
theorem VI{ops:Array Oper}{g:Option (Nat × Bool)}{o:Oper}(hg:o.guard=g){E:Env}{run skip:Env->Prop}(h:rN ops.toList g E run skip){a:Act}(hA:fz X n E a)
  (hX:∀j want s,g=some (j,want)->(ops[j]?).bind (·.dst)=some s->s∉X) :
  ∃E',fz X n E' a/\((Region.wanted o (yielded ops a.tmps)=true/\run E')\/(Region.wanted o (yielded ops a.tmps)=false/\skip E')):=by
 subst hg
 unfold rN at h
 split at h
 ·rename_i hg;exact⟨E,hA,.inl ⟨by simp[Region.wanted,hg],h⟩⟩
 ·rename_i j want hg
  split at h
  ·rename_i s hs
   have hw:∀b,a.tmps[s]?=some (.bool b)->Region.wanted o (yielded ops a.tmps)=(b == want):=λb hb=>by
    simp only[Region.wanted,hg,yielded]
    rw[show ((ops[j]?).bind (·.dst))=some s by simpa using hs]
    simp only[Option.bind_some,hb]
    cases b<;>cases want<;>rfl
   have jX:s∉X:=hX j want s hg (by simpa using hs)
   split at h
   ·rename_i he
    have:=hw true (hA.get _ _ jX he)
    split at h
    ·exact⟨E,hA,.inl ⟨this,h⟩⟩
    ·exact⟨E,hA,.inr ⟨this,h⟩⟩
   ·rename_i he
    have:=hw false (hA.get _ _ jX he)
    split at h
    ·exact⟨E,hA,.inr ⟨this,h⟩⟩
    ·exact⟨E,hA,.inl ⟨this,h⟩⟩
   ·rename_i x he
    obtain⟨r,rfl,h1,h2⟩:=h
    have hr:=hw r (hA.get _ _ jX he)
    cases r with
    | true=>
     have h1:=h1 rfl
     have iV:fz X n ((s,.t)::E) a:=hA.set (λ_=>hA.get s (.v (.bool true)) jX he)
     split at h1
     ·exact⟨_,iV,.inl ⟨hr,h1⟩⟩
     ·exact⟨_,iV,.inr ⟨hr,h1⟩⟩
    | false=>
     have h2:=h2 rfl
     have iV:fz X n ((s,.f)::E) a:=hA.set (λ_=>hA.get s (.v (.bool false)) jX he)
     split at h2
     ·exact⟨_,iV,.inr ⟨hr,h2⟩⟩
     ·exact⟨_,iV,.inl ⟨hr,h2⟩⟩
   ·rename_i he
    have hb:=hA.get _ _ jX he
    refine⟨E,hA,.inr ⟨?_,h⟩⟩
    simp only[Region.wanted,hg,yielded]
    rw[show ((ops[j]?).bind (·.dst))=some s by simpa using hs]
    simp only[Option.bind_some,hb]
    cases want<;>rfl
   ·cases h
  ·cases h
def oV(l:List Oper):List Nat:=l.filterMap (·.dst)
theorem Gt(hT:Calls.nr P T){ops:Array Oper}{K:Env->World->Prop}{Q:Exit->Act->World->Prop}{W:List Nat}{a0:Act}(hn:∀E' a' w',fz [] n E' a'->iR W a0 a'->K E' w'->Q .normal a' w'):
  ∀(l:List Oper) (E:Env) (a:Act) (w:World),(∀t∈oV l,t∈W)->iR W a0 a->fz [] n E a->AG P T n ops.toList K l E w->wpList P ops Q l a w
 | [],E,a,w,_,hk,hA,h=>hn E a w hA hk h
 | o::r,E,a,w,hW,hk,hA,h=>by
  unfold AG at h
  have hd:∀t,o.dst=some t->t∈W:=λt ht=>hW t (by simp[oV,ht])
  have BJ:∀t∈oV r,t∈W:=λt ht=>hW t (by
   unfold oV at ht ⊢
   rw[List.filterMap_cons]
   split
   ·exact ht
   ·exact List.mem_cons_of_mem _ ht)
  obtain⟨E',iV,⟨hw,h⟩|⟨hw,h⟩⟩:=VI rfl h hA (λ_ _ _ _ _ h=>by cases h)
  ·unfold wpList
   rw[if_pos hw]
   refine .inl (SC hT h iV (λx _=>.nil x) ?_)
   intro E2 v w' lF hK
   exact Gt hT hn r E2 _ w' BJ (hk.trans (iR.put a o.dst v W hd)) lF hK
  ·unfold wpList
   rw[if_neg (by rw[hw];exact Bool.false_ne_true)]
   exact Gt hT hn r _ _ w BJ (hk.trans (iR.put a o.dst undef W hd)) (iV.put o.dst .u) h
end
inductive Ex where
 | normal
 | exit (id:Nat)
 | ret
def Ex.to:Ex->Exit
 | .normal=>.normal
 | .exit i=>.exit i
 | .ret=>.ret
def rL:Code->Option Nat
 | .region id _ _=>some id
 | .seq a b=>match rL a with
  | some i=>some i
  | none=>rL b
 | .cond _ a b=>match rL a with
  | some i=>some i
  | none=>rL b
 | .block _ c=>rL c
 | .loop c=>rL c
 | .scope c=>rL c
 | _=>none
def wr:Code->List Nat
 | .region _ ops _=>oV ops.toList
 | .seq a b=>wr a++wr b
 | .cond _ a b=>wr a++wr b
 | .block _ c=>wr c
 | .loop c=>wr c
 | .scope c=>wr c
 | _=>[]
abbrev Marks:=List (Nat × List Nat × List Nat)
def Marks.find:Marks->Option Nat->Option (List Nat × List Nat)
 | _,none=>none
 | [],_=>none
 | (k,x)::r,some i=>match Nat.beq k i with
  | true=>some x
  | false=>Marks.find r (some i)
def Ay(t:Nat):List Nat->Bool
 | []=>false
 | u::r=>match Nat.beq u t with
  | true=>true
  | false=>Ay t r
def xe(W:List Nat):List Nat->Bool
 | []=>true
 | l::r=>match Ay l W with
  | true=>false
  | false=>xe W r
def wg(E R:Env):List Nat->Env
 | []=>R
 | l::r=>match E.get l with
  | some e=>(l,e)::wg E R r
  | none=>wg E R r
def lP(E:Env):List Nat->Option (List Value)
 | []=>some []
 | s::r=>match E.get s with
  | some e=>match lP E r with
   | some vs=>some (e.val::vs)
   | none=>none
  | none=>none
def Bh(R:Env):List Nat->List Value->Env
 | s::r,v::vs=>(s,.v v)::Bh R r vs
 | _,_=>R
def Bb:Nat->(List Value->Prop)->Prop
 | 0,K=>K []
 | k+1,K=>∀v:Value,Bb k λl=>K (v::l)
def Aw:List Nat->Nat
 | []=>0
 | _::r=>Aw r+1
def Ho(o:Option (List Value))(K:List Value->Prop):Prop:=match o with
 | some l=>K l
 | none=>False
theorem Zt:∀(k:Nat) (K:List Value->Prop),Bb k K->∀l:List Value,l.length=k->K l
 | 0,K,h,l,hl=>by rw[List.eq_nil_of_length_eq_zero hl];exact h
 | k+1,K,h,[],hl=>by simp at hl
 | k+1,K,h,v::l,hl=>Zt k _ (h v) l (by simpa using hl)
theorem F0:∀l:List Nat,Aw l=l.length
 | []=>rfl
 | _::r=>by simp[Aw,F0 r]
theorem Hi{E:Env}:∀{S:List Nat} {vs:List Value},lP E S=some vs->vs.length=S.length
 | [],vs,h=>by simp[lP]at h;subst h;rfl
 | s::r,vs,h=>by
  simp only[lP]at h
  split at h
  ·split at h
   ·rename_i wL hv;cases h;simp[Hi hv]
   ·cases h
  ·cases h
theorem Q_{t:Nat}:∀{l:List Nat},Ay t l=true↔t∈l
 | []=>by simp[Ay]
 | u::r=>by
  simp only[Ay,List.mem_cons]
  split
  ·rename_i h;simp[(beq_iff.1 h).symm]
  ·rename_i h
   have dV:t≠u:=λe=>by rw[beq_iff.2 e.symm]at h;cases h
   rw[Q_];simp[dV]
theorem Zb{W:List Nat}:∀{L:List Nat},xe W L=true->∀l∈L,l∉W
 | [],_,l,hl=>by cases hl
 | x::r,h,l,hl=>by
  simp only[xe]at h
  split at h
  ·cases h
  ·rename_i hm
   rcases List.mem_cons.1 hl with rfl|hl
   ·intro kF;rw[Q_.2 kF]at hm;cases hm
   ·exact Zb h l hl
theorem Co{n:Nat}{E R:Env}{a a':Act}(hA:fz [] n E a)(hR:fz [] n R a'){W:List Nat}(hk:iR W a a'):∀{L:List Nat},(∀l∈L,l∉W)->fz [] n (wg E R L) a'
 | [],_=>hR
 | l::r,h=>by
  simp only[wg]
  split
  ·rename_i e he
   exact (Co hA hR hk (λx hx=>h x (List.mem_cons_of_mem _ hx))).set (λ_=>by rw[hk l (h l (by simp))];exact hA.get l e (by simp) he)
  ·exact Co hA hR hk (λx hx=>h x (List.mem_cons_of_mem _ hx))
theorem DL{n:Nat}{E R:Env}{a:Act}(hA:fz [] n E a)(hR:fz [] n R a):∀{S:List Nat} {vs:List Value},lP E S=some vs->fz [] n (Bh R S vs) a
 | [],vs,h=>by simp[lP]at h;subst h;exact hR
 | s::r,vs,h=>by
  simp only[lP]at h
  split at h
  ·rename_i e he
   split at h
   ·rename_i wL hv
    cases h
    exact (DL hA hR hv).set (λ_=>hA.get s e (by simp) he)
   ·cases h
  ·cases h
open Go.RowKit
def gR(P:Program):Op->Bool
 | .move _ | .pick .. | .build .. | .nilCheck _ | .unOp .. | .makeFunc .. | .fieldAddr .. | .indexAddr .. | .extract .. | .field .. | .index .. | .lookup .. | .slice .. | .load .. | .binOp ..=>true
 | .convert s d _=>match P.underlying s,P.underlying d with
  | some _,some (.int _)=>true
  | some .string,some .string=>true
  | some .string,some (.slice _)=>false
  | some (.slice _),some (.slice _)=>false
  | _,_=>true
 | .call c=>match c.callee with
  | .builtin .len=>true
  | .builtin .min=>true
  | .builtin .max=>true
  | .builtin .cap=>true
  | _=>false
 | _=>false
def mD(P:Program):Op->Bool
 | .field .. | .index .. | .lookup .. | .load ..=>true
 | .binOp _ t _ _ _=>match P.underlying t with
  | some (.struct _)=>true
  | _=>false
 | .convert s d _=>match P.underlying s,P.underlying d with
  | some _,some (.int _)=>false
  | some .string,some .string=>false
  | _,_=>true
 | .call c=>match c.callee with
  | .builtin .len=>match c.argTypes.toList with
   | [t]=>match P.underlying t with
    | some (.slice _)=>false
    | some .string=>false
    | _=>true
   | _=>true
  | .builtin .cap=>true
  | _=>false
 | _=>false
def oQ(acc:List Nat):List Edge->Nat
 | []=>0
 | e::r=>match Region.binds .any e with
  | true=>oQ acc r ||| 2 ^ e.on ||| acc.getD e.on 0
  | false=>oQ acc r
def mh:List Oper->List Nat->List Nat
 | [],acc=>acc
 | o::r,acc=>mh r (acc++[oQ acc o.after.toList])
def idxs(f:Oper->Bool):List Oper->Nat->List Nat
 | [],_=>[]
 | o::r,k=>match f o with
  | true=>k::idxs f r (k+1)
  | false=>idxs f r (k+1)
def mP(f:Nat->Bool):List Nat->List Nat
 | []=>[]
 | j::r=>match f j with
  | true=>j::mP f r
  | false=>mP f r
def uT:List Nat->Nat
 | []=>0
 | j::r=>2 ^ j ||| uT r
def w6(f:Nat->Bool):List Nat->Bool
 | []=>false
 | j::r=>match f j with
  | true=>true
  | false=>w6 f r
def tD(a b:Nat):Bool:=Nat.beq (Nat.land a b) a
structure RS where
 ops:List Oper
 B:List Nat
 gH:List Nat
 pU:List Nat
 cm:Nat
def fK(P:Program)(ops:List Oper):RS:=
 let gH:=idxs (λo=>!gR P o.op) ops 0
 {ops,B:=mh ops [],gH,pU:=idxs (λo=>gR P o.op) ops 0,cm:=uT gH}
def RS.enabled(R:RS)(done j:Nat):Bool:=tD (Nat.land (R.B.getD j 0) R.cm) done
def RS.AD(R:RS)(done j:Nat):Bool:=w6 (λc=>match Nat.testBit done c with
 | true=>Nat.testBit (R.B.getD c 0) j
 | false=>false) R.gH
def RU(P:Program)(T:List Bool)(o:Oper)(E:Env)(w:World)(R:Prop):Prop:=match o.dst with
 | some d=>match E.get d with
  | some e=>fj P T o.op o.type E.ev w λv _=>v=e.val/\R
  | none=>False
 | none=>False
def wB(P:Program)(T:List Bool)(ops:List Oper)(E:Env)(w:World)(R:Prop):List Nat->Prop
 | []=>R
 | j::r=>match ops[j]? with
  | some o=>rN ops o.guard E (λ_=>RU P T o E w (wB P T ops E w R r)) (λ_=>wB P T ops E w R r)
  | none=>False
def vH(P:Program)(T:List Bool)(n:Nat)(ops:List Oper)(w:World)(K:Env->Prop):List Nat->Env->Prop
 | [],E=>K E
 | j::r,E=>match ops[j]? with
  | some o=>rN ops o.guard E (λE'=>pD P T n o E' w λC8 _=>vH P T n ops w K r C8) (λE'=>vH P T n ops w K r (E'.put n o.dst .u))
  | none=>False
def Bc(F:Nat->Prop):List Nat->Prop
 | []=>False
 | [c]=>F c
 | c::r=>F c/\Bc F r
def RS.go(R:RS)(P:Program)(T:List Bool)(n:Nat)(K:Env->World->Prop):Nat->Nat->Nat->Env->World->Prop
 | 0,_,_,_,_=>False
 | k+1,done,en,E,w=>
  wB P T R.ops E w
   (vH P T n R.ops w (λE'=>
     match tD R.cm done with
     | true=>K E' w
     | false=>Bc (λc=>match R.ops[c]? with
       | some o=>rN R.ops o.guard E' (λE2=>pD P T n o E2 w λE3 w3=>RS.go R P T n K k (done ||| 2 ^ c) (en ||| uT (mP (λj=>R.enabled done j) R.pU)) E3 w3)
         (λE2=>RS.go R P T n K k (done ||| 2 ^ c) (en ||| uT (mP (λj=>R.enabled done j) R.pU)) (E2.put n o.dst .u) w)
       | none=>False)
      (mP (λc=>!Nat.testBit done c && R.enabled done c) R.gH))
    (mP (λj=>!Nat.testBit en j && R.enabled done j) R.pU) E)
   (mP (λj=>Nat.testBit en j && !R.AD done j && (match R.ops[j]? with|some o=>mD P o.op|none=>false)) R.pU)
def uR{α:Type}:List α->Nat
 | []=>0
 | _::r=>uR r+1
def D6(P:Program)(T:List Bool)(n:Nat)(ops:List Oper)(K:Env->World->Prop)(E:Env)(w:World):Prop:=
 (fK P ops).go P T n K (uR (fK P ops).gH+1) 0 0 E w
def looks(ops:List Oper)(o:Oper):List Nat:=
 ((ez o.op).filterMap λx=>match x with | .tmp t=>some t|_=>none)++(match o.guard with|some (j,_)=>((ops[j]?).bind (·.dst)).toList|none=>[])
def CH(P:Program)(n:Nat)(ops:List Oper)(draw:Bool):Bool:=match draw with
 | false=>true
 | true=>
  let R:=fK P ops
  (List.range ops.length).all λi=>match ops[i]? with
   | some oi=>(oi.dst.toList.all λd=>decide (d<n)) && (oi.after.toList.all λe=>!Region.binds .any e || decide (e.on<i)) &&
    (gR P oi.op == false || !((oi.dst.toList).any λd=>(looks ops oi).contains d)) &&
    (List.range ops.length).all λj=>match ops[j]? with
     | some oj=>match oj.dst with
      | some d=>i == j || ((!gR P oj.op || oi.dst != some d) &&
        (!(looks ops oi).contains d || (R.B.getD i 0).testBit j || (!gR P oj.op && (R.B.getD j 0).testBit i)))
      | none=>true
     | none=>true
   | none=>true
end Go.Proofs.YtfenmffiidchcaaGreat
