/- Part of the proof (my own). -/
import Derived.Test.YtfenmffiidchcaaGreatQEng4
namespace Go.Proofs.YtfenmffiidchcaaGreat
set_option linter.unusedVariables false
open Go.RowKit
section
variable {P:Program} {w:World} {K:Value→World→Prop}
theorem set_all(off:Nat):∀(vs:List Value) (k:Nat) (cells:List Value),off+k+vs.length≤cells.length →
  (vs.zipIdx k).foldl (λcs (p:Value × Nat)=>cs.set (off+p.2) p.1) cells=cells.take (off+k)++vs++cells.drop (off+k+vs.length)
 | [],k,cells,h=>by simp
 | v::r,k,cells,h=>by
  simp only[List.length_cons]at h
  obtain⟨A,x,B,rfl,hA⟩:∃A x B,cells=A++x::B∧A.length=off+k:=by
   refine⟨cells.take (off+k),cells[off+k]'(by omega),cells.drop (off+k+1),?_,by simp;omega⟩
   rw[← List.drop_eq_getElem_cons,List.take_append_drop]
  have hA':off+k=A.length:=hA.symm
  rw[List.zipIdx_cons,List.foldl_cons,set_all off r (k+1) _ (by simp at h ⊢;omega)]
  have e1:(A++x::B).set (off+k) v=A++v::B:=by rw[hA'];simp
  have e2:(A++v::B).take (off+(k+1))=A++[v]:=by rw[show off+(k+1)=A.length+1 by omega,List.take_length_add_append];simp
  have e3:(A++v::B).drop (off+(k+1)+r.length)=B.drop r.length:=by rw[show off+(k+1)+r.length=A.length+(r.length+1) by omega,List.drop_length_add_append];simp
  have e4:(A++x::B).take (off+k)=A:=by rw[hA'];simp
  have e5:(A++x::B).drop (off+k+(r.length+1))=B.drop r.length:=by rw[hA',List.drop_length_add_append];simp
  simp only[List.length_cons]at *
  rw[e1,e2,e3,e4,e5]
  simp
theorem fold_cells(vs cells:Array Value)(off:Nat)(h:off+vs.size≤cells.size):
  vs.zipIdx.foldl (λcs (p:Value × Nat)=>cs.setIfInBounds (off+p.2) p.1) cells=(cells.toList.take off++vs.toList++cells.toList.drop (off+vs.size)).toArray:=by
 have h1:∀(l:List (Value × Nat)) (c:Array Value),(l.foldl (λcs (p:Value × Nat)=>cs.setIfInBounds (off+p.2) p.1) c).toList=l.foldl (λcs (p:Value × Nat)=>cs.set (off+p.2) p.1) c.toList:=by
  intro l
  induction l with
  | nil=>intro c;rfl
  | cons x r ih=>intro c;rw[List.foldl_cons,List.foldl_cons,ih];simp
 have h2:=set_all off vs.toList 0 cells.toList (by simpa using h)
 apply Array.toList_inj.1
 rw[← Array.foldl_toList,h1,Array.toList_zipIdx,h2]
 simp
theorem fill_eq(place:Nat→Option (Nat × Nat)):∀(ps:List (Nat × Value)) (l:List (Nat × Nat × Value)) (z cells:List Value),
  (ps.map λp=>(place p.1,p.2))=(l.map λq=>(some (q.1,q.2.1),q.2.2))→fillL z l=some cells→Instr.fill place z.toArray ps=some cells.toArray
 | [],[],z,cells,_,h=>by simp[fillL]at h;subst h;rfl
 | [],_::_,z,cells,hm,h=>by simp at hm
 | _::_,[],z,cells,hm,h=>by simp at hm
 | (i,v)::ps,(off,size,u)::l,z,cells,hm,h=>by
  simp only[List.map_cons,List.cons.injEq,Prod.mk.injEq]at hm
  obtain⟨⟨hp,rfl⟩,hm⟩:=hm
  simp only[fillL]at h
  split at h
  ·rename_i hc
   obtain⟨h1,h2⟩:=hc
   rw[Instr.fill,hp]
   have h3:¬(v.cells.size≠size∨off+v.cells.size>z.length):=by omega
   have hfold:=fold_cells v.cells z.toArray off (by simp;omega)
   simp only[Bool.or_eq_true,decide_eq_true_eq,List.size_toArray,h3,if_false]
   rw[hfold,← fill_eq place ps l _ cells hm h,h1]
  ·cases h
theorem fieldPl_run:∀(fs:List Field) (l:List (Nat × Nat)),fieldPl P fs=some l→(fs.mapM λf=>do pure (f.offset,← sizeOf f.type):Sem (List (Nat × Nat))).run P w= .ok l w
 | [],l,h=>by simp[fieldPl]at h;subst h;simp
 | f::r,l,h=>by
  simp only[fieldPl]at h
  split at h
  ·rename_i n hn
   split at h
   ·rename_i l' hl
    cases h
    have ih:=fieldPl_run r l' hl
    simp only[bind_pure_comp]at ih
    simp[List.mapM_cons,run_sizeOf hn,ih]
   ·cases h
  ·cases h
theorem partsAt_map(pl:List (Nat × Nat))(ev:Operand→Value):∀(ps:List (Nat × Operand)) (l:List (Nat × Nat × Value)),partsAt pl ev ps=some l →
  ((ps.map λp=>(p.1,ev p.2)).map λp=>(pl[p.1]?,p.2))=(l.map λq=>(some (q.1,q.2.1),q.2.2))
 | [],l,h=>by simp[partsAt]at h;subst h;rfl
 | (i,x)::r,l,h=>by
  simp only[partsAt]at h
  split at h
  ·rename_i off n hi
   split at h
   ·rename_i l' hl
    cases h
    simp[hi,partsAt_map pl ev r l' hl]
   ·cases h
  ·cases h
theorem build_does{t:TypeId}{fields:Array Field}{i:TypeInfo}{v:Value}{pl:List (Nat × Nat)}{ps:Array (Nat × Operand)}{ev:Operand→Value}{l:List (Nat × Nat × Value)}
  (ht:P.underlying t=some (.struct fields)) (hi:P.info? t=some i) (hv:i.zero=some v) (hpl:fieldPl P fields.toList=some pl) (hl:partsAt pl ev ps.toList=some l)
  (h:zr v.cells.toList l λv=>K v w):Does P (do pure (.value (← Instr.build t (ps.map λ(i,x)=>(i,ev x))))) w K:=by
 obtain⟨cells,hc,hk⟩:=h
 refine .value ?_ hk
 have h1:(fields.mapM λf=>do pure (f.offset,← sizeOf f.type):Sem (Array (Nat × Nat))).run P w= .ok pl.toArray w:=by
  rw[Array.mapM_eq_mapM_toList,Sem.run_map,fieldPl_run _ _ hpl];rfl
 have h2:=fill_eq (λj=>pl[j]?) (ps.toList.map λp=>(p.1,ev p.2)) l _ cells (by simpa using partsAt_map pl ev _ _ hl) hc
 rw[Array.toArray_toList]at h2
 simp only[Instr.build,Sem.run_bind,run_zeroValue hi hv,run_underlying ht,Result.andThen_ok,h1,Array.toList_map]
 have h3:(λx:Nat=>(pl.toArray[x]?:Option (Nat × Nat)))=λj=>pl[j]?:=by funext j;simp
 rw[h3,h2]
 rfl
theorem buildS_does{t e:TypeId}{i:TypeInfo}{v:Value}{len n:Nat}{ps:Array (Nat × Operand)}{ev:Operand→Value}{l:List (Nat × Nat × Value)}
  (ht:P.underlying t=some (.slice e)) (hi:P.info? e=some i) (hv:i.zero=some v) (hn:tSize P e=some n) (hz:n=v.cells.toList.length) (hle:len*n≤16777216)
  (hl:partsAt ((List.range len).map λi=>(i*n,n)) ev ps.toList=some l) (h:zo (zrow v.cells.toList len) l e len w K) :
  Does P (do pure (.value (← Instr.buildSlice t len (ps.map λ(i,x)=>(i,ev x))))) w K:=by
 obtain⟨cells,hc,hk⟩:=h
 refine .value ?_ hk
 have hlen:∀(ps:List (Nat × Operand)) (l:List (Nat × Nat × Value)),partsAt ((List.range len).map λi=>(i*n,n)) ev ps=some l →
   ((ps.map λp=>(p.1,ev p.2)).map λp=>(some (p.1*n,n),p.2))=(l.map λq=>(some (q.1,q.2.1),q.2.2)):=λps l h=>by
  have:=partsAt_map _ ev ps l h
  rw[← this]
  rw[List.map_map,List.map_map]
  have hin:∀p∈ps,p.1<len:=by
   intro p hp
   have hm:(((List.range len).map λi=>(i*n,n))[p.1]?,ev p.2)∈((ps.map λp=>(p.1,ev p.2)).map λp=>(((List.range len).map λi=>(i*n,n))[p.1]?,p.2)):=by
    simp only[List.map_map,List.mem_map];exact⟨p,hp,rfl⟩
   rw[this]at hm
   obtain⟨q,_,hq⟩:=List.mem_map.1 hm
   simp only[Prod.mk.injEq]at hq
   have:=(List.getElem?_eq_some_iff.1 hq.1.symm).1
   simpa using this
  refine List.map_congr_left λp hp=>?_
  simp[hin p hp]
 have h2:=fill_eq (λi=>some (i*n,n)) (ps.toList.map λp=>(p.1,ev p.2)) l _ cells (hlen _ _ hl) hc
 have hzz:n=v.cells.size:=by simpa using hz
 subst hzz
 have hr:=zrow_range v.cells len
 simp only[Instr.buildSlice,Sem.run_bind,run_underlying ht,Result.andThen_ok,run_sizeOf hn,show ¬len*v.cells.size>2 ^ 24 by omega,if_false]
 by_cases h0:len*v.cells.size=0
 ·have hz0:zrow v.cells.toList len=[]:=List.eq_nil_of_length_eq_zero (by rw[zrow_length];simpa using h0)
  rw[hz0]at h2
  have hr0:(Array.range 0).map (λi=>(#[]:Array Value)[i % (#[]:Array Value).size]!) = #[]:=Array.eq_empty_of_size_eq_zero (by simp)
  simp only[h0,if_true,pure_bind,hr0,Array.toList_map]
  rw[show ([]:List Value).toArray = #[] from rfl]at h2
  rw[h2]
  rfl
 ·simp only[h0,if_false,pure_bind,Sem.run_bind,run_zeroValue hi hv,Result.andThen_ok,hr,Array.toList_map]
  rw[h2]
  rfl
end
end Go.Proofs.YtfenmffiidchcaaGreat
namespace Go.Proofs.YtfenmffiidchcaaGreat
set_option linter.unusedVariables false
open Go.RowKit
section
variable {P:Program} {w:World} {K:Value→World→Prop}
theorem srcCells_run{sz n:Nat}{y:Value}{cs:List Value}{w':World}(h:srcCells w sz y n cs)(hw:∀a,w'.cell? a=w.cell? a):
  (Builtin.firstCells sz n y).run P w'= .ok cs.toArray w'∧(Builtin.lenOf y).run P w'= .ok n w':=by
 unfold srcCells at h
 split at h
 ·obtain⟨rfl,h1,h2⟩:=h
  exact⟨run_firstCells_some w' sz n _ _ _ cs h1 (λj v hj=>by rw[hw];exact h2 j v hj),rfl⟩
 ·obtain⟨rfl,rfl⟩:=h
  exact⟨run_firstCells_none w' sz n _ _,rfl⟩
 ·rename_i s
  obtain⟨rfl,rfl⟩:=h
  refine⟨?_,rfl⟩
  have:(s.extract 0 s.size)=s:=by simp
  simp only[Builtin.firstCells,this,Sem.run_pure,Result.ok.injEq,and_true]
  apply Array.ext'
  simp
 ·cases h
theorem drew_cell(w:World)(a:Addr):w.drew.cell? a=w.cell? a:=rfl
theorem app_does{t u e ty:TypeId}{d:TypeDesc}{i:TypeInfo}{v:Value}{x y:Value}(ht:P.underlying t=some (.slice e))(hu:P.underlying u=some d)(hd:∀k,d≠.int k)
  (hi:P.info? e=some i) (hv:i.zero=some v) (hn:tSize P e=some v.cells.size)
  (h:zw v.cells.size (tBytes P e) v.cells.toList e x y w K):Does P (do pure (.value (← Builtin.append_ #[t,u] ty #[x,y]))) w K:=by
 obtain⟨a,len,cap,n,cs,rfl,hsrc,hb,hlen,h1,h2⟩:=h
 have hb':tBytes P e=i.bytes:=by simp[tBytes,hi]
 rw[hb']at hb
 obtain⟨r1,r2⟩:=srcCells_run (P:=P) hsrc (λ_=>rfl)
 have hz:(underlying u).run P w= .ok d w:=run_underlying hu w
 have hzf:(match d with | .int _=>true|_=>false)=false:=by
  cases d with
  | int k=>exact absurd rfl (hd k)
  | _=>rfl
 by_cases hc:len+n≤cap
 ·have hk:=h1 hc
  cases a with
  | none=>
   refine .value ?_ hk
   simp only[Builtin.append_,List.getElem?_toArray,List.getElem?_cons_zero,List.getElem?_cons_succ,Sem.run_bind,run_underlying ht,Result.andThen_ok,run_sizeOf hn,hz,Sem.run_pure,Bool.false_eq_true,if_false,r2,hc,if_true,Bool.not_false,r1]
  | some p=>
   obtain⟨w',hs,hk⟩:=stN_run (P:=P) _ _ _ _ _ hk
   refine .value ?_ hk
   simp only[Builtin.append_,List.getElem?_toArray,List.getElem?_cons_zero,List.getElem?_cons_succ,Sem.run_bind,run_underlying ht,Result.andThen_ok,run_sizeOf hn,hz,Sem.run_pure,Bool.false_eq_true,if_false,r2,hc,if_true,Bool.not_false,r1,hs]
 ·obtain⟨old,ho,hk⟩:=h2 (by omega)
  have hk:=hk (grownCap w (len+n) cap e) (grownCap_ge _ _ _ _) (by have:=grownCap_le_maxLen w (len+n) cap e (by simp only[maxLen];omega);simpa [maxLen] using this)
  obtain⟨q1,_⟩:=srcCells_run (P:=P) hsrc (drew_cell w)
  obtain⟨q2,_⟩:=srcCells_run (P:=P) (w':=w.drew) ho (drew_cell w)
  refine .value ?_ hk
  have hm:¬(((len+n:Nat):Int)>IntKind.i64.max∧(False∨i.bytes=0)):=by
   intro hh
   have:IntKind.i64.max=9223372036854775807:=rfl
   omega
  have hfit:=growslice_fits (bytes:=i.bytes) (show cap<len+n by omega) hb
  have hfit':¬(Builtin.nextslicecap (len+n) cap*i.bytes>2 ^ 48):=by simpa using hfit
  have hzc:Builtin.zeroCells v.cells (grownCap w (len+n) cap e-(len+n))=(zrow v.cells.toList (grownCap w (len+n) cap e-(len+n))).toArray:=zrow_range v.cells _
  have hti:∀w,(typeInfo e).run P w= .ok i w:=λw=>by simp[typeInfo,hi]
  have hrow:old.toArray++cs.toArray++(zrow v.cells.toList (grownCap w (len+n) cap e-(len+n))).toArray=(old++cs++zrow v.cells.toList (grownCap w (len+n) cap e-(len+n))).toArray:=by simp
  simp only[Builtin.append_,List.getElem?_toArray,List.getElem?_cons_zero,List.getElem?_cons_succ,Sem.run_bind,run_underlying ht,Result.andThen_ok,run_sizeOf hn,hz,Sem.run_pure,Bool.false_eq_true,if_false,r2,hc,Bool.not_false,if_true,hti,hm,hfit',
   run_choose,Question.forced,run_askRoom]
  show ((Builtin.firstCells v.cells.size len _).run P w.drew).andThen _=_
  rw[q2]
  simp only[Result.andThen_ok]
  show ((Builtin.firstCells v.cells.size n _).run P w.drew).andThen _=_
  rw[q1]
  simp only[Result.andThen_ok,run_zeroValue hi hv]
  show ((newRow e (old.toArray++cs.toArray++Builtin.zeroCells v.cells (grownCap w (len+n) cap e-(len+n)))).run P w.drew).andThen _=_
  rw[hzc,hrow]
  rfl
theorem call_does{T:List Bool}(hT:Calls.Tab P T){f:FuncId}{first captured args:List Value}(hf:T.getD f false=true)(h:z6 P f (first++args++captured) w K):
  Does P (do let d ← Deferred.ofValue (.func (.func f) first.toArray captured.toArray) args.toArray;invoke d.target d.args) w K:=by
 obtain⟨fn,h1,h2,h3⟩:=hT f hf
 refine .inr (.inr ⟨f,(first++args++captured).toArray,?_,h⟩)
 have e1:first.toArray++args.toArray++captured.toArray=(first++args++captured).toArray:=by simp
 simp only[Deferred.ofValue,invoke,callFunc,pure_bind,Sem.run_bind,run_program,Result.andThen_ok,h1,h2,h3,Bool.false_eq_true,if_false,e1]
 rfl
theorem out_does{f:FuncId}{args:List Value}(h:qs P f args w K):Does P (do let d ← Deferred.ofValue (.func (.func f) #[] #[]) args.toArray;invoke d.target d.args) w K:=by
 obtain⟨v,w',h1,h2⟩:=h
 refine .inl ⟨v,w',?_,h2⟩
 have e:(#[]:Array Value)++args.toArray ++ #[]=args.toArray:=by simp
 simp only[Deferred.ofValue,invoke,pure_bind,e,h1]
def opnds:Op→List Operand
 | .alloc _=>[]
 | .move x | .assign x | .box _ x | .load _ x | .nilCheck x | .unOp _ _ x | .convert _ _ x | .fieldAddr _ x _ | .field _ x _ | .extract x _=>[x]
 | .pick c a b=>[c,a,b]
 | .build _ ps | .buildSlice _ _ ps=>ps.toList.map (·.2)
 | .store _ a v | .binOp _ _ a v _ | .makeSlice _ a v | .indexAddr _ a v | .index _ a v | .lookup _ a v _ | .mapEntry _ a v=>[a,v]
 | .makeFunc _ first captured=>first.toList++captured.toList
 | .slice _ x l h m=>x::(l.toList++h.toList++m.toList)
 | .mapUpdate _ m k v | .entryStore _ m k v | .insert _ m k v=>[m,k,v]
 | .call c=>match c.callee with
  | .value f=>f::c.args.toList
  | _=>c.args.toList
 | _=>[]
theorem partsAt_congr{pl:List (Nat × Nat)}{ev ρ:Operand→Value}:∀(ps:List (Nat × Operand)),(∀x∈ps.map (·.2),ρ x=ev x)→partsAt pl ρ ps=partsAt pl ev ps
 | [],_=>rfl
 | (i,x)::r,h=>by
  simp only[partsAt]
  rw[partsAt_congr r (λy hy=>h y (by simp only[List.map_cons,List.mem_cons];exact .inr hy)),h x (by simp)]
theorem map_congr'{ev ρ:Operand→Value}(xs:Array Operand)(h:∀x∈xs.toList,ρ x=ev x):xs.map ρ=(xs.toList.map ev).toArray:=by
 apply Array.ext'
 simp only[Array.toList_map]
 exact List.map_congr_left h
set_option maxHeartbeats 1000000 in
theorem opH_does{T:List Bool}(hT:Calls.Tab P T){o:Oper}{ρ ev:Operand→Value}(hF:∀f,ρ (.func f)= .func (.func f) #[] #[])(hρ:∀x∈opnds o.op,ρ x=ev x)(h:opH P T o.op o.type ev w K):Does P (execOp ρ o) w K:=by
 obtain⟨dst,op,ty,pos,after,guard⟩:=o
 simp only at h hρ
 unfold execOp
 cases op with
 | move x=>exact .inl ⟨_,_,rfl,by rw[hρ x (by simp[opnds])];exact h⟩
 | assign x=>exact .inl ⟨_,_,rfl,by rw[hρ x (by simp[opnds])];exact h⟩
 | alloc e=>
  simp only[opH]at h
  split at h
  ·rename_i z hz;exact alloc_does hz h
  ·cases h
 | box e x=>
  simp only[opH]at h
  simp only[hρ x (by simp[opnds])]
  split at h
  ·exact box_does (by rw[one_cells h.1]) h.2
  ·obtain⟨vs,hx,h⟩:=h
   exact box_does (by rw[hx];rfl) h
  ·cases h
 | build t ps=>
  simp only[opH]at h
  split at h
  ·rename_i fields ht
   split at h
   ·rename_i z hz
    split at h
    ·rename_i pl hpl
     split at h
     ·rename_i l hl
      obtain⟨i,v,hi,hv,rfl⟩:=yE hz
      rw[← partsAt_congr ps.toList (by simpa [opnds] using hρ)]at hl
      exact build_does ht hi hv hpl hl h
     ·cases h
    ·cases h
   ·cases h
  ·cases h
 | buildSlice t len ps=>
  simp only[opH]at h
  split at h
  ·rename_i e ht
   split at h
   ·rename_i z hz
    split at h
    ·rename_i n hn
     split at h
     ·rename_i l hl
      split at h
      ·rename_i hb1 hb2
       obtain⟨i,v,hi,hv,rfl⟩:=yE hz
       rw[← partsAt_congr ps.toList (by simpa [opnds] using hρ)]at hl
       exact buildS_does ht hi hv hn (beq_iff.1 hb1) (Nat.le_of_ble_eq_true hb2) hl h
      ·cases h
     ·cases h
    ·cases h
   ·cases h
  ·cases h
 | load t x=>
  simp only[opH]at h
  simp only[hρ x (by simp[opnds])]
  split at h
  ·rename_i ht;exact load1_does ht h
  ·rename_i n ht;exact loadN_does ht h
  ·cases h
 | store t x v=>
  simp only[opH]at h
  simp only[hρ x (by simp[opnds]),hρ v (by simp[opnds])]
  split at h
  ·rename_i ht
   split at h
   ·rename_i hs;exact store1_does ht hs h
   ·cases h
  ·rename_i n ht;exact storeN_does ht h
  ·cases h
 | nilCheck x=>
  obtain⟨a,hx,hk⟩:=h
  refine .inl ⟨_,_,?_,hk⟩
  simp only[hρ x (by simp[opnds]),hx]
  rfl
 | binOp op t x y u=>
  simp only[opH]at h
  simp only[hρ x (by simp[opnds]),hρ y (by simp[opnds])]
  split at h
  ·exact bin_does h
  ·exact bin_does h
  ·split at h
   ·rename_i hm;exact eqG_does hm h
   ·cases h
  ·split at h
   ·rename_i hm;exact neqG_does hm h
   ·cases h
  ·rename_i d ht;exact eq_does ht h
  ·rename_i d ht;exact neq_does ht h
  ·cases h
 | unOp op t x=>
  cases op with
  | not=>simp only[hρ x (by simp[opnds])];exact not_does h
  | neg=>simp only[hρ x (by simp[opnds])];exact neg_does h
  | xor=>simp only[hρ x (by simp[opnds])];exact cpl_does h
  | _=>cases h
 | convert s d x=>
  simp only[opH]at h
  simp only[hρ x (by simp[opnds])]
  split at h
  ·rename_i e k hs hd;exact cvI_does hs hd h
  ·rename_i hs hd;exact cvS_does hs hd h
  ·exact h.does
  ·exact h.does
  ·exact HRq.does h
 | makeFunc fn first captured=>
  simp only[opH]at h
  split at h
  ·refine .inl ⟨_,_,rfl,?_⟩
   rw[map_congr' first (λx hx=>hρ x (by simp[opnds];left;simpa using hx)),map_congr' captured (λx hx=>hρ x (by simp[opnds];right;simpa using hx))]
   exact h
  ·cases h
 | makeSlice t x y=>
  simp only[opH]at h
  simp only[hρ x (by simp[opnds]),hρ y (by simp[opnds])]
  split at h
  ·rename_i e ht
   split at h
   ·rename_i z hz
    split at h
    ·rename_i n hn
     split at h
     ·rename_i hb
      obtain⟨i,v,hi,hv,rfl⟩:=yE hz
      refine mk_does ht hi hv (by rw[hn,beq_iff.1 hb];simp) h
     ·cases h
    ·cases h
   ·cases h
  ·cases h
 | slice t x lo hi mx=>
  have e1:lo.map ρ=lo.map ev:=by cases lo with|none=>rfl|some y=>simp[hρ y (by simp[opnds])]
  have e2:hi.map ρ=hi.map ev:=by cases hi with|none=>rfl|some y=>simp[hρ y (by simp[opnds])]
  have e3:mx.map ρ=mx.map ev:=by cases mx with|none=>rfl|some y=>simp[hρ y (by simp[opnds])]
  simp only[opH]at h
  simp only[hρ x (by simp[opnds]),e1,e2,e3]
  split at h
  ·rename_i e ht
   split at h
   ·rename_i n hn
    split at h
    ·cases h
    ·rename_i hno
     refine sl_does ht hn ?_ h
     intro hm
     cases mx with
     | none=>simp at hm
     | some m=>cases hi with
      | none=>exact absurd rfl (hno m rfl)
      | some y=>rfl
   ·cases h
  ·rename_i ht
   split at h
   ·exact slS_does ht h
   ·cases h
  ·cases h
 | fieldAddr s x f=>
  simp only[opH]at h
  simp only[hρ x (by simp[opnds])]
  split at h
  ·rename_i off hf;exact fieldAddr_does hf h
  ·cases h
 | indexAddr t x i=>
  simp only[opH]at h
  simp only[hρ x (by simp[opnds]),hρ i (by simp[opnds])]
  split at h
  ·rename_i e ht
   split at h
   ·rename_i n hn;exact idx_does ht hn h
   ·cases h
  ·rename_i len e ht
   split at h
   ·rename_i n hn;exact idxA_does ht hn h
   ·cases h
  ·cases h
 | extract x i=>simp only[hρ x (by simp[opnds])];exact ext_does h
 | field t x f=>simp only[hρ x (by simp[opnds])];exact HRq.does h
 | index t x i=>simp only[hρ x (by simp[opnds]),hρ i (by simp[opnds])];exact HRq.does h
 | lookup t x i ok=>simp only[hρ x (by simp[opnds]),hρ i (by simp[opnds])];exact HRq.does h
 | mapUpdate t m k x=>
  simp only[hρ m (by simp[opnds]),hρ k (by simp[opnds]),hρ x (by simp[opnds])]
  obtain⟨v,w',hr,hk⟩:=h
  simp only[Sem.run_bind,Sem.run_pure]at hr
  cases hm:(Instr.mapUpdate t (ev m) (ev k) (ev x)).run P w with
  | ok u w2=>rw[hm]at hr;cases hr;exact .inr (.inl ⟨w',by simp[hm],hk⟩)
  | halt e w2=>rw[hm]at hr;cases hr
 | insert t m k x=>
  simp only[hρ m (by simp[opnds]),hρ k (by simp[opnds]),hρ x (by simp[opnds])]
  obtain⟨v,w',hr,hk⟩:=h
  simp only[Sem.run_bind,Sem.run_pure]at hr
  cases hm:(Instr.mapUpdate t (ev m) (ev k) (ev x)).run P w with
  | ok u w2=>rw[hm]at hr;cases hr;exact .inr (.inl ⟨w',by simp[hm],hk⟩)
  | halt e w2=>rw[hm]at hr;cases hr
 | mapEntry t m k=>simp only[hρ m (by simp[opnds]),hρ k (by simp[opnds])];exact zY.does h
 | entryStore t m k x=>
  simp only[hρ m (by simp[opnds]),hρ k (by simp[opnds]),hρ x (by simp[opnds])]
  obtain⟨v,w',hr,hk⟩:=h
  simp only[Sem.run_bind,Sem.run_pure]at hr
  cases hm:(Instr.entryStore t (ev m) (ev k) (ev x)).run P w with
  | ok u w2=>rw[hm]at hr;cases hr;exact .inr (.inl ⟨w',by simp[hm],hk⟩)
  | halt e w2=>rw[hm]at hr;cases hr
 | makeMap t r=>
  cases r with
  | none=>exact .inl ⟨_,_,rfl,h⟩
  | some x=>cases h
 | call c=>
  obtain⟨callee,args,ats⟩:=c
  cases callee with
  | value g=>
   have ha:args.map ρ=(args.toList.map ev).toArray:=map_congr' args (λx hx=>hρ x (by simp[opnds];right;simpa using hx))
   cases g with
   | func f=>
    simp only[opH]at h
    split at h
    ·rename_i hf
     have:=call_does hT (first:=[]) (captured:=[]) hf (by simpa using h)
     simp only[resolve,ha,hF f]
     exact this
    ·simp only[resolve,ha,hF f]
     exact out_does h
   | tmp t=>
    obtain⟨f,first,captured,hg,hf,h⟩:=h
    have:=call_does hT hf h
    have hg':ρ (.tmp t)=ev (.tmp t):=hρ _ (by simp[opnds])
    simp only[resolve,ha,hg',hg]
    simpa using this
   | _=>cases h
  | invoke r m=>cases h
  | builtin b=>
   have ha:args.map ρ=(args.toList.map ev).toArray:=map_congr' args (λx hx=>hρ x (by simpa [opnds] using hx))
   have hb:(do let d ← resolve ρ ⟨.builtin b,args,ats⟩ ty;invoke d.target d.args)=builtin b ats ty (args.map λ| .const _=>true|_=>false) (args.toList.map ev).toArray:=by
    simp only[resolve,ha];rfl
   show Does P (do let d ← resolve ρ ⟨.builtin b,args,ats⟩ ty;invoke d.target d.args) w K
   rw[hb]
   cases b with
   | len=>
    simp only[opH]at h
    split at h
    ·rename_i x t hx ht
     have hats:ats = #[t]:=by apply Array.ext';exact ht
     rw[hx]
     subst hats
     split at h
     ·rename_i e hs;exact lenS_does hs h
     ·rename_i hs;exact lenT_does hs h
     ·exact HRq.does h
    ·cases h
   | min=>
    simp only[opH]at h
    split at h
    ·rename_i x y hx;rw[hx];exact min_does h
    ·cases h
   | max=>
    simp only[opH]at h
    split at h
    ·rename_i x y hx;rw[hx];exact max_does h
    ·cases h
   | append=>
    simp only[opH]at h
    split at h
    ·rename_i x y t u hx ht
     have hats:ats = #[t,u]:=by apply Array.ext';exact ht
     rw[hx]
     subst hats
     split at h
     ·rename_i e hs
      split at h
      ·rename_i z hz
       obtain⟨i,v,hi,hv,rfl⟩:=yE hz
       split at h
       ·rename_i n hn
        split at h
        ·rename_i e' hb hu
         have hb':=beq_iff.1 hb
         simp at hb';subst hb'
         exact app_does hs hu (λk hk=>by cases hk) hi hv hn h
        ·rename_i hb hu
         have hb':=beq_iff.1 hb
         simp at hb';subst hb'
         exact app_does hs hu (λk hk=>by cases hk) hi hv hn h
        ·exact zY.does h
        ·cases h
       ·cases h
      ·cases h
     ·cases h
    ·cases h
   | copy=>exact h.does
   | delete=>exact h.does
   | cap=>exact HRq.does h
   | clear=>exact h.does
   | _=>cases h
 | _=>cases h
end
end Go.Proofs.YtfenmffiidchcaaGreat
namespace Go.Proofs.YtfenmffiidchcaaGreat
set_option linter.unusedVariables false
open Go.RowKit
def HIf(x:Value)(A B:Prop):Prop:=∃r,x= .bool r∧(r=true→A)∧(r=false→B)
def setTmp(E:Env)(x:Operand)(e:Ent):Env:=match x with
 | .tmp t=>(t,e)::E
 | _=>E
def putO(n:Nat)(E:Env)(d:Option Nat)(x:Option Ent)(K:Env→Prop):Prop:=match x with
 | some e=>K (E.put n d e)
 | none=>False
def stepP(P:Program)(T:List Bool)(n:Nat)(o:Oper)(E:Env)(w:World)(K:Env→World→Prop):Prop:=
 match o.op with
 | .move x=>putO n E o.dst (E.ent x) λE'=>K E' w
 | .assign x=>putO n E o.dst (E.ent x) λE'=>K E' w
 | .pick c a b=>match E.ent c with
  | some .t=>putO n E o.dst (E.ent a) λE'=>K E' w
  | some .f=>putO n E o.dst (E.ent b) λE'=>K E' w
  | some (.v x)=>HIf x (putO n (setTmp E c .t) o.dst (Env.ent (setTmp E c .t) a) λE'=>K E' w) (putO n (setTmp E c .f) o.dst (Env.ent (setTmp E c .f) b) λE'=>K E' w)
  | some .u=>False
  | none=>False
 | op=>match E.hasAll (opnds op) with
  | true=>opH P T op o.type E.ev w λv w'=>K (E.put n o.dst (.v v)) w'
  | false=>False
def guardP(ops:List Oper)(g:Option (Nat × Bool))(E:Env)(run skip:Env→Prop):Prop:=match g with
 | none=>run E
 | some (j,want)=>match (ops[j]?).bind (·.dst) with
  | some g=>match E.get g with
   | some .t=>(match want with|true=>run E|false=>skip E)
   | some .f=>(match want with|true=>skip E|false=>run E)
   | some (.v x)=>HIf x (match want with|true=>run ((g,.t)::E)|false=>skip ((g,.t)::E)) (match want with|true=>skip ((g,.f)::E)|false=>run ((g,.f)::E))
   | some .u=>skip E
   | none=>False
  | none=>False
def opsP(P:Program)(T:List Bool)(n:Nat)(ops:List Oper)(K:Env→World→Prop):List Oper→Env→World→Prop
 | [],E,w=>K E w
 | o::r,E,w=>guardP ops o.guard E (λE'=>stepP P T n o E' w λE'' w'=>opsP P T n ops K r E'' w') (λE'=>opsP P T n ops K r (E'.put n o.dst .u) w)
def Keep(W:List Nat)(a a':Act):Prop:=∀t,t∉W→a'.tmps[t]?=a.tmps[t]?
theorem Keep.refl(W:List Nat)(a:Act):Keep W a a:=λ_ _=>rfl
theorem Keep.trans{W:List Nat}{a b c:Act}(h:Keep W a b)(k:Keep W b c):Keep W a c:=λt ht=>(k t ht).trans (h t ht)
theorem Keep.mono{W W':List Nat}{a b:Act}(h:Keep W a b)(hw:∀t∈W,t∈W'):Keep W' a b:=λt ht=>h t λx=>ht (hw t x)
theorem Keep.put(a:Act)(d:Option Nat)(v:Value)(W:List Nat)(hd:∀t,d=some t→t∈W):Keep W a (a.put d v):=by
 cases d with
 | none=>exact .refl _ _
 | some d=>
  intro t ht
  have:d≠t:=λe=>ht (hd t (by rw[e]))
  simp[Act.put,Array.getElem?_setIfInBounds_ne this]
theorem Agree.set{X:List Nat}{n:Nat}{E:Env}{a:Act}(h:Agree X n E a){t:Nat}{e:Ent}(he:t∉X→a.tmps[t]?=some e.val):Agree X n ((t,e)::E) a:=by
 refine⟨h.size,h.defers,λu e' hX hu=>?_⟩
 simp only[Env.get]at hu
 split at hu
 ·rename_i hb
  obtain rfl:=beq_iff.1 hb
  cases hu;exact he hX
 ·exact h.get u e' hX hu
theorem Agree.setTmp{X:List Nat}{n:Nat}{E:Env}{a:Act}(h:Agree X n E a){x:Operand}{v:Value}{e:Ent}(hx:E.ent x=some (.v v))(hv:e.val=v):Agree X n (setTmp E x e) a:=by
 cases x with
 | tmp t=>exact h.set (λhX=>by rw[hv];exact h.get t _ hX hx)
 | const v=>exact h
 | global g=>exact h
 | func f=>exact h
theorem putO_sound{X:List Nat}{n:Nat}{E:Env}{d:Option Nat}{x:Operand}{K:Env→Prop}(h:putO n E d (E.ent x) K){a:Act}(hA:Agree X n E a)(hX:Off X x):∃E',Agree X n E' (a.put d (a.eval x))∧K E':=by
 unfold putO at h
 split at h
 ·rename_i e he;exact⟨_,by rw[hA.ent hX he];exact hA.put d e,h⟩
 ·cases h
section
variable {P:Program} {T:List Bool} {n:Nat} {X:List Nat}
theorem stepP_sound(hT:Calls.Tab P T){o:Oper}{E:Env}{w:World}{K:Env→World→Prop}(h:stepP P T n o E w K){a:Act}(hA:Agree X n E a)(hX:∀x∈opnds o.op,Off X x){next:Act→World→Prop}{Q:Exit→Act→World→Prop}
  (hn:∀E' v w',Agree X n E' (a.put o.dst v)→K E' w'→next (a.put o.dst v) w'):o.wp P a w next Q:=by
 unfold stepP at h
 split at h
 ·rename_i x hop
  obtain⟨E',h1,h2⟩:=putO_sound h hA (hX x (by simp[hop,opnds]))
  refine Does.upon (K:=λv w'=>∃E',Agree X n E' (a.put o.dst v)∧K E' w') (.inl ⟨a.eval x,w,by simp[execOp,hop],E',h1,h2⟩) ?_
  rintro v w' ⟨E',h1,h2⟩
  exact hn E' v w' h1 h2
 ·rename_i x hop
  obtain⟨E',h1,h2⟩:=putO_sound h hA (hX x (by simp[hop,opnds]))
  refine Does.upon (K:=λv w'=>∃E',Agree X n E' (a.put o.dst v)∧K E' w') (.inl ⟨a.eval x,w,by simp[execOp,hop],E',h1,h2⟩) ?_
  rintro v w' ⟨E',h1,h2⟩
  exact hn E' v w' h1 h2
 ·rename_i c x y hop
  have key:∀(r:Bool),a.eval c= .bool r→(∃E',Agree X n E' (a.put o.dst (if r then a.eval x else a.eval y))∧K E' w)→o.wp P a w next Q:=λr hr h=>by
   refine Does.upon (K:=λv w'=>∃E',Agree X n E' (a.put o.dst v)∧K E' w') (.inl ⟨_,w,by simp[execOp,hop,hr,asBool],h⟩) ?_
   rintro v w' ⟨E',h1,h2⟩
   exact hn E' v w' h1 h2
  split at h
  ·rename_i hc;exact key true (hA.ent (hX c (by simp[hop,opnds])) hc) (putO_sound h hA (hX _ (by simp[hop,opnds])))
  ·rename_i hc;exact key false (hA.ent (hX c (by simp[hop,opnds])) hc) (putO_sound h hA (hX _ (by simp[hop,opnds])))
  ·rename_i v hc
   obtain⟨r,rfl,h1,h2⟩:=h
   cases r with
   | true=>
    exact key true (hA.ent (hX c (by simp[hop,opnds])) hc) (putO_sound (h1 rfl) (hA.setTmp hc rfl) (hX _ (by simp[hop,opnds])))
   | false=>exact key false (hA.ent (hX c (by simp[hop,opnds])) hc) (putO_sound (h2 rfl) (hA.setTmp hc rfl) (hX _ (by simp[hop,opnds])))
  ·cases h
  ·cases h
 ·split at h
  ·rename_i hh
   refine Does.upon (opH_does hT (λ_=>rfl) (λx hx=>hA.ev (hX x hx) (Env.hasAll_mem hh x hx)) h) ?_
   intro v w' hk
   exact hn _ v w' (hA.put o.dst (.v v)) hk
  ·cases h
theorem guardP_sound{ops:Array Oper}{g:Option (Nat × Bool)}{o:Oper}(hg:o.guard=g){E:Env}{run skip:Env→Prop}(h:guardP ops.toList g E run skip){a:Act}(hA:Agree X n E a)
  (hX:∀j want s,g=some (j,want)→(ops[j]?).bind (·.dst)=some s→s∉X) :
  ∃E',Agree X n E' a∧((Region.wanted o (yielded ops a.tmps)=true∧run E')∨(Region.wanted o (yielded ops a.tmps)=false∧skip E')):=by
 subst hg
 unfold guardP at h
 split at h
 ·rename_i hg;exact⟨E,hA,.inl ⟨by simp[Region.wanted,hg],h⟩⟩
 ·rename_i j want hg
  split at h
  ·rename_i s hs
   have hw:∀b,a.tmps[s]?=some (.bool b)→Region.wanted o (yielded ops a.tmps)=(b == want):=λb hb=>by
    simp only[Region.wanted,hg,yielded]
    rw[show ((ops[j]?).bind (·.dst))=some s by simpa using hs]
    simp only[Option.bind_some,hb]
    cases b<;>cases want<;>rfl
   have hs':s∉X:=hX j want s hg (by simpa using hs)
   split at h
   ·rename_i he
    have:=hw true (hA.get _ _ hs' he)
    split at h
    ·exact⟨E,hA,.inl ⟨this,h⟩⟩
    ·exact⟨E,hA,.inr ⟨this,h⟩⟩
   ·rename_i he
    have:=hw false (hA.get _ _ hs' he)
    split at h
    ·exact⟨E,hA,.inr ⟨this,h⟩⟩
    ·exact⟨E,hA,.inl ⟨this,h⟩⟩
   ·rename_i x he
    obtain⟨r,rfl,h1,h2⟩:=h
    have hr:=hw r (hA.get _ _ hs' he)
    cases r with
    | true=>
     have h1:=h1 rfl
     have hA':Agree X n ((s,.t)::E) a:=hA.set (λ_=>hA.get s (.v (.bool true)) hs' he)
     split at h1
     ·exact⟨_,hA',.inl ⟨hr,h1⟩⟩
     ·exact⟨_,hA',.inr ⟨hr,h1⟩⟩
    | false=>
     have h2:=h2 rfl
     have hA':Agree X n ((s,.f)::E) a:=hA.set (λ_=>hA.get s (.v (.bool false)) hs' he)
     split at h2
     ·exact⟨_,hA',.inr ⟨hr,h2⟩⟩
     ·exact⟨_,hA',.inl ⟨hr,h2⟩⟩
   ·rename_i he
    have hb:=hA.get _ _ hs' he
    refine⟨E,hA,.inr ⟨?_,h⟩⟩
    simp only[Region.wanted,hg,yielded]
    rw[show ((ops[j]?).bind (·.dst))=some s by simpa using hs]
    simp only[Option.bind_some,hb]
    cases want<;>rfl
   ·cases h
  ·cases h
def dsts(l:List Oper):List Nat:=l.filterMap (·.dst)
theorem opsP_sound(hT:Calls.Tab P T){ops:Array Oper}{K:Env→World→Prop}{Q:Exit→Act→World→Prop}{W:List Nat}{a0:Act}(hn:∀E' a' w',Agree [] n E' a'→Keep W a0 a'→K E' w'→Q .normal a' w'):
  ∀(l:List Oper) (E:Env) (a:Act) (w:World),(∀t∈dsts l,t∈W)→Keep W a0 a→Agree [] n E a→opsP P T n ops.toList K l E w→wpList P ops Q l a w
 | [],E,a,w,_,hk,hA,h=>hn E a w hA hk h
 | o::r,E,a,w,hW,hk,hA,h=>by
  unfold opsP at h
  have hd:∀t,o.dst=some t→t∈W:=λt ht=>hW t (by simp[dsts,ht])
  have hW':∀t∈dsts r,t∈W:=λt ht=>hW t (by
   unfold dsts at ht ⊢
   rw[List.filterMap_cons]
   split
   ·exact ht
   ·exact List.mem_cons_of_mem _ ht)
  obtain⟨E',hA',⟨hw,h⟩|⟨hw,h⟩⟩:=guardP_sound rfl h hA (λ_ _ _ _ _ h=>by cases h)
  ·unfold wpList
   rw[if_pos hw]
   refine .inl (stepP_sound hT h hA' (λx _=>.nil x) ?_)
   intro E2 v w' hA2 hK
   exact opsP_sound hT hn r E2 _ w' hW' (hk.trans (Keep.put a o.dst v W hd)) hA2 hK
  ·unfold wpList
   rw[if_neg (by rw[hw];exact Bool.false_ne_true)]
   exact opsP_sound hT hn r _ _ w hW' (hk.trans (Keep.put a o.dst undef W hd)) (hA'.put o.dst .u) h
end
inductive Ex where
 | normal
 | exit (id:Nat)
 | ret
def Ex.to:Ex→Exit
 | .normal=>.normal
 | .exit i=>.exit i
 | .ret=>.ret
def firstReg:Code→Option Nat
 | .region id _ _=>some id
 | .seq a b=>match firstReg a with
  | some i=>some i
  | none=>firstReg b
 | .cond _ a b=>match firstReg a with
  | some i=>some i
  | none=>firstReg b
 | .block _ c=>firstReg c
 | .loop c=>firstReg c
 | .scope c=>firstReg c
 | _=>none
def wr:Code→List Nat
 | .region _ ops _=>dsts ops.toList
 | .seq a b=>wr a++wr b
 | .cond _ a b=>wr a++wr b
 | .block _ c=>wr c
 | .loop c=>wr c
 | .scope c=>wr c
 | _=>[]
abbrev Marks:=List (Nat × List Nat × List Nat)
def Marks.find:Marks→Option Nat→Option (List Nat × List Nat)
 | _,none=>none
 | [],_=>none
 | (k,x)::r,some i=>match Nat.beq k i with
  | true=>some x
  | false=>Marks.find r (some i)
def memB(t:Nat):List Nat→Bool
 | []=>false
 | u::r=>match Nat.beq u t with
  | true=>true
  | false=>memB t r
def disjB(W:List Nat):List Nat→Bool
 | []=>true
 | l::r=>match memB l W with
  | true=>false
  | false=>disjB W r
def livE(E R:Env):List Nat→Env
 | []=>R
 | l::r=>match E.get l with
  | some e=>(l,e)::livE E R r
  | none=>livE E R r
def valsE(E:Env):List Nat→Option (List Value)
 | []=>some []
 | s::r=>match E.get s with
  | some e=>match valsE E r with
   | some vs=>some (e.val::vs)
   | none=>none
  | none=>none
def bindS(R:Env):List Nat→List Value→Env
 | s::r,v::vs=>(s,.v v)::bindS R r vs
 | _,_=>R
def allV:Nat→(List Value→Prop)→Prop
 | 0,K=>K []
 | k+1,K=>∀v:Value,allV k λl=>K (v::l)
def len':List Nat→Nat
 | []=>0
 | _::r=>len' r+1
def withV(o:Option (List Value))(K:List Value→Prop):Prop:=match o with
 | some l=>K l
 | none=>False
theorem Zm:∀(k:Nat) (K:List Value→Prop),allV k K→∀l:List Value,l.length=k→K l
 | 0,K,h,l,hl=>by rw[List.eq_nil_of_length_eq_zero hl];exact h
 | k+1,K,h,[],hl=>by simp at hl
 | k+1,K,h,v::l,hl=>Zm k _ (h v) l (by simpa using hl)
theorem len'_eq:∀l:List Nat,len' l=l.length
 | []=>rfl
 | _::r=>by simp[len',len'_eq r]
theorem valsE_length{E:Env}:∀{S:List Nat} {vs:List Value},valsE E S=some vs→vs.length=S.length
 | [],vs,h=>by simp[valsE]at h;subst h;rfl
 | s::r,vs,h=>by
  simp only[valsE]at h
  split at h
  ·split at h
   ·rename_i vs' hv;cases h;simp[valsE_length hv]
   ·cases h
  ·cases h
theorem memB_iff{t:Nat}:∀{l:List Nat},memB t l=true↔t∈l
 | []=>by simp[memB]
 | u::r=>by
  simp only[memB,List.mem_cons]
  split
  ·rename_i h;simp[(beq_iff.1 h).symm]
  ·rename_i h
   have hne:t≠u:=λe=>by rw[beq_iff.2 e.symm]at h;cases h
   rw[memB_iff];simp[hne]
theorem y7{W:List Nat}:∀{L:List Nat},disjB W L=true→∀l∈L,l∉W
 | [],_,l,hl=>by cases hl
 | x::r,h,l,hl=>by
  simp only[disjB]at h
  split at h
  ·cases h
  ·rename_i hm
   rcases List.mem_cons.1 hl with rfl|hl
   ·intro hin;rw[memB_iff.2 hin]at hm;cases hm
   ·exact y7 h l hl
theorem livE_agree{n:Nat}{E R:Env}{a a':Act}(hA:Agree [] n E a)(hR:Agree [] n R a'){W:List Nat}(hk:Keep W a a'):∀{L:List Nat},(∀l∈L,l∉W)→Agree [] n (livE E R L) a'
 | [],_=>hR
 | l::r,h=>by
  simp only[livE]
  split
  ·rename_i e he
   exact (livE_agree hA hR hk (λx hx=>h x (List.mem_cons_of_mem _ hx))).set (λ_=>by rw[hk l (h l (by simp))];exact hA.get l e (by simp) he)
  ·exact livE_agree hA hR hk (λx hx=>h x (List.mem_cons_of_mem _ hx))
theorem bindS_agree{n:Nat}{E R:Env}{a:Act}(hA:Agree [] n E a)(hR:Agree [] n R a):∀{S:List Nat} {vs:List Value},valsE E S=some vs→Agree [] n (bindS R S vs) a
 | [],vs,h=>by simp[valsE]at h;subst h;exact hR
 | s::r,vs,h=>by
  simp only[valsE]at h
  split at h
  ·rename_i e he
   split at h
   ·rename_i vs' hv
    cases h
    exact (bindS_agree hA hR hv).set (λ_=>hA.get s e (by simp) he)
   ·cases h
  ·cases h
end Go.Proofs.YtfenmffiidchcaaGreat
namespace Go.Proofs.YtfenmffiidchcaaGreat
set_option linter.unusedVariables false
open Go.RowKit
def isFlt(P:Program):Op→Bool
 | .move _ | .pick .. | .build .. | .nilCheck _ | .unOp .. | .makeFunc .. | .fieldAddr .. | .indexAddr .. | .extract .. | .field .. | .index .. | .lookup .. | .slice .. | .load .. | .binOp ..=>true
 | .convert s d _=>match P.underlying s,P.underlying d with
  | some _,some (.int _)=>true
  | some .string,some .string=>true
  | some .string,some (.slice _)=>false
  | some (.slice _),some (.slice _)=>false
  | _,_=>true
 | .call c=>match c.callee with
  | .builtin .len=>true
  | .builtin .min=>true
  | .builtin .max=>true
  | .builtin .cap=>true
  | _=>false
 | _=>false
def isRd(P:Program):Op→Bool
 | .field .. | .index .. | .lookup .. | .load ..=>true
 | .binOp _ t _ _ _=>match P.underlying t with
  | some (.struct _)=>true
  | _=>false
 | .convert s d _=>match P.underlying s,P.underlying d with
  | some _,some (.int _)=>false
  | some .string,some .string=>false
  | _,_=>true
 | .call c=>match c.callee with
  | .builtin .len=>match c.argTypes.toList with
   | [t]=>match P.underlying t with
    | some (.slice _)=>false
    | some .string=>false
    | _=>true
   | _=>true
  | .builtin .cap=>true
  | _=>false
 | _=>false
def befOf(acc:List Nat):List Edge→Nat
 | []=>0
 | e::r=>match Region.binds .any e with
  | true=>befOf acc r ||| 2 ^ e.on ||| acc.getD e.on 0
  | false=>befOf acc r
def befs:List Oper→List Nat→List Nat
 | [],acc=>acc
 | o::r,acc=>befs r (acc++[befOf acc o.after.toList])
def idxs(f:Oper→Bool):List Oper→Nat→List Nat
 | [],_=>[]
 | o::r,k=>match f o with
  | true=>k::idxs f r (k+1)
  | false=>idxs f r (k+1)
def fltr(f:Nat→Bool):List Nat→List Nat
 | []=>[]
 | j::r=>match f j with
  | true=>j::fltr f r
  | false=>fltr f r
def maskOf:List Nat→Nat
 | []=>0
 | j::r=>2 ^ j ||| maskOf r
def anyN(f:Nat→Bool):List Nat→Bool
 | []=>false
 | j::r=>match f j with
  | true=>true
  | false=>anyN f r
def subB(a b:Nat):Bool:=Nat.beq (Nat.land a b) a
structure RS where
 ops:List Oper
 B:List Nat
 chs:List Nat
 flts:List Nat
 cm:Nat
def mkRS(P:Program)(ops:List Oper):RS:=
 let chs:=idxs (λo=>!isFlt P o.op) ops 0
 {ops,B:=befs ops [],chs,flts:=idxs (λo=>isFlt P o.op) ops 0,cm:=maskOf chs}
def RS.enabled(R:RS)(done j:Nat):Bool:=subB (Nat.land (R.B.getD j 0) R.cm) done
def RS.needed(R:RS)(done j:Nat):Bool:=anyN (λc=>match Nat.testBit done c with
 | true=>Nat.testBit (R.B.getD c 0) j
 | false=>false) R.chs
def reP(P:Program)(T:List Bool)(o:Oper)(E:Env)(w:World)(R:Prop):Prop:=match o.dst with
 | some d=>match E.get d with
  | some e=>opH P T o.op o.type E.ev w λv _=>v=e.val∧R
  | none=>False
 | none=>False
def reAll(P:Program)(T:List Bool)(ops:List Oper)(E:Env)(w:World)(R:Prop):List Nat→Prop
 | []=>R
 | j::r=>match ops[j]? with
  | some o=>guardP ops o.guard E (λ_=>reP P T o E w (reAll P T ops E w R r)) (λ_=>reAll P T ops E w R r)
  | none=>False
def fltAll(P:Program)(T:List Bool)(n:Nat)(ops:List Oper)(w:World)(K:Env→Prop):List Nat→Env→Prop
 | [],E=>K E
 | j::r,E=>match ops[j]? with
  | some o=>guardP ops o.guard E (λE'=>stepP P T n o E' w λE'' _=>fltAll P T n ops w K r E'') (λE'=>fltAll P T n ops w K r (E'.put n o.dst .u))
  | none=>False
def andAll(F:Nat→Prop):List Nat→Prop
 | []=>False
 | [c]=>F c
 | c::r=>F c∧andAll F r
def RS.go(R:RS)(P:Program)(T:List Bool)(n:Nat)(K:Env→World→Prop):Nat→Nat→Nat→Env→World→Prop
 | 0,_,_,_,_=>False
 | k+1,done,en,E,w=>
  reAll P T R.ops E w
   (fltAll P T n R.ops w (λE'=>
     match subB R.cm done with
     | true=>K E' w
     | false=>andAll (λc=>match R.ops[c]? with
       | some o=>guardP R.ops o.guard E' (λE2=>stepP P T n o E2 w λE3 w3=>RS.go R P T n K k (done ||| 2 ^ c) (en ||| maskOf (fltr (λj=>R.enabled done j) R.flts)) E3 w3)
         (λE2=>RS.go R P T n K k (done ||| 2 ^ c) (en ||| maskOf (fltr (λj=>R.enabled done j) R.flts)) (E2.put n o.dst .u) w)
       | none=>False)
      (fltr (λc=>!Nat.testBit done c && R.enabled done c) R.chs))
    (fltr (λj=>!Nat.testBit en j && R.enabled done j) R.flts) E)
   (fltr (λj=>Nat.testBit en j && !R.needed done j && (match R.ops[j]? with|some o=>isRd P o.op|none=>false)) R.flts)
def lenL{α:Type}:List α→Nat
 | []=>0
 | _::r=>lenL r+1
def drawP(P:Program)(T:List Bool)(n:Nat)(ops:List Oper)(K:Env→World→Prop)(E:Env)(w:World):Prop:=
 (mkRS P ops).go P T n K (lenL (mkRS P ops).chs+1) 0 0 E w
def looks(ops:List Oper)(o:Oper):List Nat:=
 ((opnds o.op).filterMap λx=>match x with | .tmp t=>some t|_=>none)++(match o.guard with|some (j,_)=>((ops[j]?).bind (·.dst)).toList|none=>[])
def regOk(P:Program)(n:Nat)(ops:List Oper)(draw:Bool):Bool:=match draw with
 | false=>true
 | true=>
  let R:=mkRS P ops
  (List.range ops.length).all λi=>match ops[i]? with
   | some oi=>(oi.dst.toList.all λd=>decide (d<n)) && (oi.after.toList.all λe=>!Region.binds .any e || decide (e.on<i)) &&
    (isFlt P oi.op == false || !((oi.dst.toList).any λd=>(looks ops oi).contains d)) &&
    (List.range ops.length).all λj=>match ops[j]? with
     | some oj=>match oj.dst with
      | some d=>i == j || ((!isFlt P oj.op || oi.dst != some d) &&
        (!(looks ops oi).contains d || (R.B.getD i 0).testBit j || (!isFlt P oj.op && (R.B.getD j 0).testBit i)))
      | none=>true
     | none=>true
   | none=>true
end Go.Proofs.YtfenmffiidchcaaGreat
