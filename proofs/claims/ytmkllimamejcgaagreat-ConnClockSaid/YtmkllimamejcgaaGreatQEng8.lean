/- Part of the proof. -/
import Derived.Test.YtmkllimamejcgaaGreatQEng4
namespace Go.Proofs.YtmkllimamejcgaaGreat
set_option linter.all false
open Go.RowKit
section
variable {P:Program} {w:World} {K:Value->World->Prop}
theorem WU(off:Nat):∀(vs:List Value) (k:Nat) (cells:List Value),off+k+vs.length<=cells.length ->
  (vs.zipIdx k).foldl (λcs (p:Value × Nat)=>cs.set (off+p.2) p.1) cells=cells.take (off+k)++vs++cells.drop (off+k+vs.length)
 | [],k,cells,h=>by simp
 | v::r,k,cells,h=>by
  simp only[List.length_cons]at h
  obtain⟨A,x,B,rfl,hA⟩:∃A x B,cells=A++x::B/\A.length=off+k:=by
   refine⟨cells.take (off+k),cells[off+k]'(by omega),cells.drop (off+k+1),?_,by simp;omega⟩
   rw[<- List.drop_eq_getElem_cons,List.take_append_drop]
  have iW:off+k=A.length:=hA.symm
  rw[List.zipIdx_cons,List.foldl_cons,WU off r (k+1) _ (by simp at h ⊢;omega)]
  have e1:(A++x::B).set (off+k) v=A++v::B:=by rw[iW];simp
  have e2:(A++v::B).take (off+(k+1))=A++[v]:=by rw[show off+(k+1)=A.length+1 by omega,List.take_length_add_append];simp
  have e3:(A++v::B).drop (off+(k+1)+r.length)=B.drop r.length:=by rw[show off+(k+1)+r.length=A.length+(r.length+1) by omega,List.drop_length_add_append];simp
  have e4:(A++x::B).take (off+k)=A:=by rw[iW];simp
  have e5:(A++x::B).drop (off+k+(r.length+1))=B.drop r.length:=by rw[iW,List.drop_length_add_append];simp
  simp only[List.length_cons]at *
  rw[e1,e2,e3,e4,e5]
  simp
theorem bFl(vs cells:Array Value)(off:Nat)(h:off+vs.size<=cells.size):
  vs.zipIdx.foldl (λcs (p:Value × Nat)=>cs.setIfInBounds (off+p.2) p.1) cells=(cells.toList.take off++vs.toList++cells.toList.drop (off+vs.size)).toArray:=by
 have h1:∀(l:List (Value × Nat)) (c:Array Value),(l.foldl (λcs (p:Value × Nat)=>cs.setIfInBounds (off+p.2) p.1) c).toList=l.foldl (λcs (p:Value × Nat)=>cs.set (off+p.2) p.1) c.toList:=by
  intro l
  induction l with
  | nil=>intro c;rfl
  | cons x r ih=>intro c;rw[List.foldl_cons,List.foldl_cons,ih];simp
 have h2:=WU off vs.toList 0 cells.toList (by simpa using h)
 apply Array.toList_inj.1
 rw[<- Array.foldl_toList,h1,Array.toList_zipIdx,h2]
 simp
theorem fill_eq(place:Nat->Option (Nat × Nat)):∀(ps:List (Nat × Value)) (l:List (Nat × Nat × Value)) (z cells:List Value),
  (ps.map λp=>(place p.1,p.2))=(l.map λq=>(some (q.1,q.2.1),q.2.2))->ir z l=some cells->Instr.fill place z.toArray ps=some cells.toArray
 | [],[],z,cells,_,h=>by simp[ir]at h;subst h;rfl
 | [],_::_,z,cells,hm,h=>by simp at hm
 | _::_,[],z,cells,hm,h=>by simp at hm
 | (i,v)::ps,(off,size,u)::l,z,cells,hm,h=>by
  simp only[List.map_cons,List.cons.injEq,Prod.mk.injEq]at hm
  obtain⟨⟨hp,rfl⟩,hm⟩:=hm
  simp only[ir]at h
  split at h
  ·rename_i hc
   obtain⟨h1,h2⟩:=hc
   rw[Instr.fill,hp]
   have h3:¬(v.cells.size≠size\/off+v.cells.size>z.length):=by omega
   have bRv:=bFl v.cells z.toArray off (by simp;omega)
   simp only[Bool.or_eq_true,decide_eq_true_eq,List.size_toArray,h3,if_false]
   rw[bRv,<- fill_eq place ps l _ cells hm h,h1]
  ·cases h
theorem Sr:∀(fs:List Field) (l:List (Nat × Nat)),Aw P fs=some l->(fs.mapM λf=>do pure (f.offset,<- sizeOf f.type):Sem (List (Nat × Nat))).run P w= .ok l w
 | [],l,h=>by simp[Aw]at h;subst h;simp
 | f::r,l,h=>by
  simp only[Aw]at h
  split at h
  ·rename_i n hn
   split at h
   ·rename_i l' hl
    cases h
    have ih:=Sr r l' hl
    simp only[bind_pure_comp]at ih
    simp[List.mapM_cons,run_sizeOf hn,ih]
   ·cases h
  ·cases h
theorem J2(pl:List (Nat × Nat))(ev:Operand->Value):∀(ps:List (Nat × Operand)) (l:List (Nat × Nat × Value)),rE pl ev ps=some l ->
  ((ps.map λp=>(p.1,ev p.2)).map λp=>(pl[p.1]?,p.2))=(l.map λq=>(some (q.1,q.2.1),q.2.2))
 | [],l,h=>by simp[rE]at h;subst h;rfl
 | (i,x)::r,l,h=>by
  simp only[rE]at h
  split at h
  ·rename_i off n hi
   split at h
   ·rename_i l' hl
    cases h
    simp[hi,J2 pl ev r l' hl]
   ·cases h
  ·cases h
theorem aIg{t:TypeId}{fields:Array Field}{i:TypeInfo}{v:Value}{pl:List (Nat × Nat)}{ps:Array (Nat × Operand)}{ev:Operand->Value}{l:List (Nat × Nat × Value)}
  (ht:P.underlying t=some (.struct fields)) (hi:P.info? t=some i) (hv:i.zero=some v) (dZ:Aw P fields.toList=some pl) (hl:rE pl ev ps.toList=some l)
  (h:zm v.cells.toList l λv=>K v w):fG P (do pure (.value (<- Instr.build t (ps.map λ(i,x)=>(i,ev x))))) w K:=by
 obtain⟨cells,hc,hk⟩:=h
 refine .value ?_ hk
 have h1:(fields.mapM λf=>do pure (f.offset,<- sizeOf f.type):Sem (Array (Nat × Nat))).run P w= .ok pl.toArray w:=by
  rw[Array.mapM_eq_mapM_toList,Sem.run_map,Sr _ _ dZ];rfl
 have h2:=fill_eq (λj=>pl[j]?) (ps.toList.map λp=>(p.1,ev p.2)) l _ cells (by simpa using J2 pl ev _ _ hl) hc
 rw[Array.toArray_toList]at h2
 simp only[Instr.build,Sem.run_bind,Bq hi hv,run_underlying ht,Result.andThen_ok,h1,Array.toList_map]
 have h3:(λx:Nat=>(pl.toArray[x]?:Option (Nat × Nat)))=λj=>pl[j]?:=by funext j;simp
 rw[h3,h2]
 rfl
theorem aIf{t e:TypeId}{i:TypeInfo}{v:Value}{len n:Nat}{ps:Array (Nat × Operand)}{ev:Operand->Value}{l:List (Nat × Nat × Value)}
  (ht:P.underlying t=some (.slice e)) (hi:P.info? e=some i) (hv:i.zero=some v) (hn:lr P e=some n) (hz:n=v.cells.toList.length) (hle:len*n<=16777216)
  (hl:rE ((List.range len).map λi=>(i*n,n)) ev ps.toList=some l) (h:zn (cK v.cells.toList len) l e len w K) :
  fG P (do pure (.value (<- Instr.buildSlice t len (ps.map λ(i,x)=>(i,ev x))))) w K:=by
 obtain⟨cells,hc,hk⟩:=h
 refine .value ?_ hk
 have hlen:∀(ps:List (Nat × Operand)) (l:List (Nat × Nat × Value)),rE ((List.range len).map λi=>(i*n,n)) ev ps=some l ->
   ((ps.map λp=>(p.1,ev p.2)).map λp=>(some (p.1*n,n),p.2))=(l.map λq=>(some (q.1,q.2.1),q.2.2)):=λps l h=>by
  have:=J2 _ ev ps l h
  rw[<- this]
  rw[List.map_map,List.map_map]
  have jW:∀p∈ps,p.1<len:=by
   intro p hp
   have hm:(((List.range len).map λi=>(i*n,n))[p.1]?,ev p.2)∈((ps.map λp=>(p.1,ev p.2)).map λp=>(((List.range len).map λi=>(i*n,n))[p.1]?,p.2)):=by
    simp only[List.map_map,List.mem_map];exact⟨p,hp,rfl⟩
   rw[this]at hm
   obtain⟨q,_,hq⟩:=List.mem_map.1 hm
   simp only[Prod.mk.injEq]at hq
   have:=(List.getElem?_eq_some_iff.1 hq.1.symm).1
   simpa using this
  refine List.map_congr_left λp hp=>?_
  simp[jW p hp]
 have h2:=fill_eq (λi=>some (i*n,n)) (ps.toList.map λp=>(p.1,ev p.2)) l _ cells (hlen _ _ hl) hc
 have hzz:n=v.cells.size:=by simpa using hz
 subst hzz
 have hr:=KT v.cells len
 simp only[Instr.buildSlice,Sem.run_bind,run_underlying ht,Result.andThen_ok,run_sizeOf hn,show ¬len*v.cells.size>2 ^ 24 by omega,if_false]
 by_cases h0:len*v.cells.size=0
 ·have hz0:cK v.cells.toList len=[]:=List.eq_nil_of_length_eq_zero (by rw[lQ];simpa using h0)
  rw[hz0]at h2
  have tB:(Array.range 0).map (λi=>(#[]:Array Value)[i % (#[]:Array Value).size]!) = #[]:=Array.eq_empty_of_size_eq_zero (by simp)
  simp only[h0,if_true,pure_bind,tB,Array.toList_map]
  rw[show ([]:List Value).toArray = #[] from rfl]at h2
  rw[h2]
  rfl
 ·simp only[h0,if_false,pure_bind,Sem.run_bind,Bq hi hv,Result.andThen_ok,hr,Array.toList_map]
  rw[h2]
  rfl
end
open Go.RowKit
section
variable {P:Program} {w:World} {K:Value->World->Prop}
theorem Kn{sz n:Nat}{y:Value}{cs:List Value}{w':World}(h:kE w sz y n cs)(hw:∀a,w'.cell? a=w.cell? a):
  (Builtin.firstCells sz n y).run P w'= .ok cs.toArray w'/\(Builtin.lenOf y).run P w'= .ok n w':=by
 unfold kE at h
 split at h
 ·obtain⟨rfl,h1,h2⟩:=h
  exact⟨run_firstCells_some w' sz n _ _ _ cs h1 (λj v hj=>by rw[hw];exact h2 j v hj),rfl⟩
 ·obtain⟨rfl,rfl⟩:=h
  exact⟨run_firstCells_none w' sz n _ _,rfl⟩
 ·rename_i s
  obtain⟨rfl,rfl⟩:=h
  refine⟨?_,rfl⟩
  have:(s.extract 0 s.size)=s:=by simp
  simp only[Builtin.firstCells,this,Sem.run_pure,Result.ok.injEq,and_true]
  apply Array.ext'
  simp
 ·cases h
theorem R7(w:World)(a:Addr):w.drew.cell? a=w.cell? a:=rfl
theorem PY{t u e ty:TypeId}{d:TypeDesc}{i:TypeInfo}{v:Value}{x y:Value}(ht:P.underlying t=some (.slice e))(hu:P.underlying u=some d)(hd:∀k,d≠.int k)
  (hi:P.info? e=some i) (hv:i.zero=some v) (hn:lr P e=some v.cells.size)
  (h:zx v.cells.size (uP P e) v.cells.toList e x y w K):fG P (do pure (.value (<- Builtin.append_ #[t,u] ty #[x,y]))) w K:=by
 obtain⟨a,len,cap,n,cs,rfl,iw,hb,hlen,h1,h2⟩:=h
 have mP:uP P e=i.bytes:=by simp[uP,hi]
 rw[mP]at hb
 obtain⟨r1,r2⟩:=Kn (P:=P) iw (λ_=>rfl)
 have hz:(underlying u).run P w= .ok d w:=run_underlying hu w
 have Dd:(match d with | .int _=>true|_=>false)=false:=by
  cases d with
  | int k=>exact absurd rfl (hd k)
  | _=>rfl
 by_cases hc:len+n<=cap
 ·have hk:=h1 hc
  cases a with
  | none=>
   refine .value ?_ hk
   simp only[Builtin.append_,List.getElem?_toArray,List.getElem?_cons_zero,List.getElem?_cons_succ,Sem.run_bind,run_underlying ht,Result.andThen_ok,run_sizeOf hn,hz,Sem.run_pure,Bool.false_eq_true,if_false,r2,hc,if_true,Bool.not_false,r1]
  | some p=>
   obtain⟨w',hs,hk⟩:=Kq (P:=P) _ _ _ _ _ hk
   refine .value ?_ hk
   simp only[Builtin.append_,List.getElem?_toArray,List.getElem?_cons_zero,List.getElem?_cons_succ,Sem.run_bind,run_underlying ht,Result.andThen_ok,run_sizeOf hn,hz,Sem.run_pure,Bool.false_eq_true,if_false,r2,hc,if_true,Bool.not_false,r1,hs]
 ·obtain⟨nN,ho,hk⟩:=h2 (by omega)
  have hk:=hk (grownCap w (len+n) cap e) (grownCap_ge _ _ _ _) (by have:=grownCap_le_maxLen w (len+n) cap e (by simp only[maxLen];omega);simpa [maxLen] using this)
  obtain⟨q1,_⟩:=Kn (P:=P) iw (R7 w)
  obtain⟨q2,_⟩:=Kn (P:=P) (w':=w.drew) ho (R7 w)
  refine .value ?_ hk
  have hm:¬(((len+n:Nat):Int)>IntKind.i64.max/\(False\/i.bytes=0)):=by
   intro hh
   have:IntKind.i64.max=9223372036854775807:=rfl
   omega
  have pM:=growslice_fits (bytes:=i.bytes) (show cap<len+n by omega) hb
  have bRs:¬(Builtin.nextslicecap (len+n) cap*i.bytes>2 ^ 48):=by simpa using pM
  have Jh:Builtin.zeroCells v.cells (grownCap w (len+n) cap e-(len+n))=(cK v.cells.toList (grownCap w (len+n) cap e-(len+n))).toArray:=KT v.cells _
  have hti:∀w,(typeInfo e).run P w= .ok i w:=λw=>by simp[typeInfo,hi]
  have rl:nN.toArray++cs.toArray++(cK v.cells.toList (grownCap w (len+n) cap e-(len+n))).toArray=(nN++cs++cK v.cells.toList (grownCap w (len+n) cap e-(len+n))).toArray:=by simp
  simp only[Builtin.append_,List.getElem?_toArray,List.getElem?_cons_zero,List.getElem?_cons_succ,Sem.run_bind,run_underlying ht,Result.andThen_ok,run_sizeOf hn,hz,Sem.run_pure,Bool.false_eq_true,if_false,r2,hc,Bool.not_false,if_true,hti,hm,bRs,
   run_choose,Question.forced,run_askRoom]
  show ((Builtin.firstCells v.cells.size len _).run P w.drew).andThen _=_
  rw[q2]
  simp only[Result.andThen_ok]
  show ((Builtin.firstCells v.cells.size n _).run P w.drew).andThen _=_
  rw[q1]
  simp only[Result.andThen_ok,Bq hi hv]
  show ((newRow e (nN.toArray++cs.toArray++Builtin.zeroCells v.cells (grownCap w (len+n) cap e-(len+n)))).run P w.drew).andThen _=_
  rw[Jh,rl]
  rfl
theorem Ri{T:List Bool}(hT:Calls.pk P T){f:FuncId}{first captured args:List Value}(hf:T.getD f false=true)(h:zQ P f (first++args++captured) w K):
  fG P (do let d <- Deferred.ofValue (.func (.func f) first.toArray captured.toArray) args.toArray;invoke d.target d.args) w K:=by
 obtain⟨fn,h1,h2,h3⟩:=hT f hf
 refine .inr (.inr ⟨f,(first++args++captured).toArray,?_,h⟩)
 have e1:first.toArray++args.toArray++captured.toArray=(first++args++captured).toArray:=by simp
 simp only[Deferred.ofValue,invoke,callFunc,pure_bind,Sem.run_bind,run_program,Result.andThen_ok,h1,h2,h3,Bool.false_eq_true,if_false,e1]
 rfl
theorem b_o{f:FuncId}{args:List Value}(h:q5 P f args w K):fG P (do let d <- Deferred.ofValue (.func (.func f) #[] #[]) args.toArray;invoke d.target d.args) w K:=by
 obtain⟨v,w',h1,h2⟩:=h
 refine .inl ⟨v,w',?_,h2⟩
 have e:(#[]:Array Value)++args.toArray ++ #[]=args.toArray:=by simp
 simp only[Deferred.ofValue,invoke,pure_bind,e,h1]
def dX:Op->List Operand
 | .alloc _=>[]
 | .move x | .assign x | .box _ x | .load _ x | .nilCheck x | .unOp _ _ x | .convert _ _ x | .fieldAddr _ x _ | .field _ x _ | .extract x _=>[x]
 | .pick c a b=>[c,a,b]
 | .build _ ps | .buildSlice _ _ ps=>ps.toList.map (·.2)
 | .store _ a v | .binOp _ _ a v _ | .makeSlice _ a v | .indexAddr _ a v | .index _ a v | .lookup _ a v _ | .mapEntry _ a v=>[a,v]
 | .makeFunc _ first captured=>first.toList++captured.toList
 | .slice _ x l h m=>x::(l.toList++h.toList++m.toList)
 | .mapUpdate _ m k v | .entryStore _ m k v | .insert _ m k v=>[m,k,v]
 | .call c=>match c.callee with
  | .value f=>f::c.args.toList
  | _=>c.args.toList
 | _=>[]
theorem J1{pl:List (Nat × Nat)}{ev ρ:Operand->Value}:∀(ps:List (Nat × Operand)),(∀x∈ps.map (·.2),ρ x=ev x)->rE pl ρ ps=rE pl ev ps
 | [],_=>rfl
 | (i,x)::r,h=>by
  simp only[rE]
  rw[J1 r (λy hy=>h y (by simp only[List.map_cons,List.mem_cons];exact .inr hy)),h x (by simp)]
theorem FO{ev ρ:Operand->Value}(xs:Array Operand)(h:∀x∈xs.toList,ρ x=ev x):xs.map ρ=(xs.toList.map ev).toArray:=by
 apply Array.ext'
 simp only[Array.toList_map]
 exact List.map_congr_left h
set_option maxHeartbeats 1000000 in
theorem JS{T:List Bool}(hT:Calls.pk P T){o:Oper}{ρ ev:Operand->Value}(hF:∀f,ρ (.func f)= .func (.func f) #[] #[])(hρ:∀x∈dX o.op,ρ x=ev x)(h:e_ P T o.op o.type ev w K):fG P (execOp ρ o) w K:=by
 obtain⟨dst,op,ty,pos,after,guard⟩:=o
 simp only at h hρ
 unfold execOp
 cases op with
 | move x=>exact .inl ⟨_,_,rfl,by rw[hρ x (by simp[dX])];exact h⟩
 | assign x=>exact .inl ⟨_,_,rfl,by rw[hρ x (by simp[dX])];exact h⟩
 | alloc e=>
  simp only[e_]at h
  split at h
  ·rename_i z hz;exact awm hz h
  ·cases h
 | box e x=>
  simp only[e_]at h
  simp only[hρ x (by simp[dX])]
  split at h
  ·exact Ra (by rw[Bg h.1]) h.2
  ·obtain⟨vs,hx,h⟩:=h
   exact Ra (by rw[hx];rfl) h
  ·cases h
 | build t ps=>
  simp only[e_]at h
  split at h
  ·rename_i fields ht
   split at h
   ·rename_i z hz
    split at h
    ·rename_i pl dZ
     split at h
     ·rename_i l hl
      obtain⟨i,v,hi,hv,rfl⟩:=yC hz
      rw[<- J1 ps.toList (by simpa [dX] using hρ)]at hl
      exact aIg ht hi hv dZ hl h
     ·cases h
    ·cases h
   ·cases h
  ·cases h
 | buildSlice t len ps=>
  simp only[e_]at h
  split at h
  ·rename_i e ht
   split at h
   ·rename_i z hz
    split at h
    ·rename_i n hn
     split at h
     ·rename_i l hl
      split at h
      ·rename_i EW q_
       obtain⟨i,v,hi,hv,rfl⟩:=yC hz
       rw[<- J1 ps.toList (by simpa [dX] using hρ)]at hl
       exact aIf ht hi hv hn (beq_iff.1 EW) (Nat.le_of_ble_eq_true q_) hl h
      ·cases h
     ·cases h
    ·cases h
   ·cases h
  ·cases h
 | load t x=>
  simp only[e_]at h
  simp only[hρ x (by simp[dX])]
  split at h
  ·rename_i ht;exact bXm ht h
  ·rename_i n ht;exact bXu ht h
  ·cases h
 | store t x v=>
  simp only[e_]at h
  simp only[hρ x (by simp[dX]),hρ v (by simp[dX])]
  split at h
  ·rename_i ht
   split at h
   ·rename_i hs;exact cAv ht hs h
   ·cases h
  ·rename_i n ht;exact cAw ht h
  ·cases h
 | nilCheck x=>
  obtain⟨a,hx,hk⟩:=h
  refine .inl ⟨_,_,?_,hk⟩
  simp only[hρ x (by simp[dX]),hx]
  rfl
 | binOp op t x y u=>
  simp only[e_]at h
  simp only[hρ x (by simp[dX]),hρ y (by simp[dX])]
  split at h
  ·exact P' h
  ·exact P' h
  ·split at h
   ·rename_i hm;exact bwb hm h
   ·cases h
  ·split at h
   ·rename_i hm;exact bY3 hm h
   ·cases h
  ·rename_i d ht;exact bwf ht h
  ·rename_i d ht;exact bY4 ht h
  ·cases h
 | unOp op t x=>
  cases op with
  | not=>simp only[hρ x (by simp[dX])];exact bZe h
  | neg=>simp only[hρ x (by simp[dX])];exact bY2 h
  | xor=>simp only[hρ x (by simp[dX])];exact aRw h
  | _=>cases h
 | convert s d x=>
  simp only[e_]at h
  simp only[hρ x (by simp[dX])]
  split at h
  ·rename_i e k hs hd;exact aR8 hs hd h
  ·rename_i hs hd;exact aR9 hs hd h
  ·exact h.oN
  ·exact h.oN
  ·exact eW.oN h
 | makeFunc fn first captured=>
  simp only[e_]at h
  split at h
  ·refine .inl ⟨_,_,rfl,?_⟩
   rw[FO first (λx hx=>hρ x (by simp[dX];left;simpa using hx)),FO captured (λx hx=>hρ x (by simp[dX];right;simpa using hx))]
   exact h
  ·cases h
 | makeSlice t x y=>
  simp only[e_]at h
  simp only[hρ x (by simp[dX]),hρ y (by simp[dX])]
  split at h
  ·rename_i e ht
   split at h
   ·rename_i z hz
    split at h
    ·rename_i n hn
     split at h
     ·rename_i hb
      obtain⟨i,v,hi,hv,rfl⟩:=yC hz
      refine bYv ht hi hv (by rw[hn,beq_iff.1 hb];simp) h
     ·cases h
    ·cases h
   ·cases h
  ·cases h
 | slice t x lo hi mx=>
  have e1:lo.map ρ=lo.map ev:=by cases lo with|none=>rfl|some y=>simp[hρ y (by simp[dX])]
  have e2:hi.map ρ=hi.map ev:=by cases hi with|none=>rfl|some y=>simp[hρ y (by simp[dX])]
  have e3:mx.map ρ=mx.map ev:=by cases mx with|none=>rfl|some y=>simp[hρ y (by simp[dX])]
  simp only[e_]at h
  simp only[hρ x (by simp[dX]),e1,e2,e3]
  split at h
  ·rename_i e ht
   split at h
   ·rename_i n hn
    split at h
    ·cases h
    ·rename_i fp
     refine cz4 ht hn ?_ h
     intro hm
     cases mx with
     | none=>simp at hm
     | some m=>cases hi with
      | none=>exact absurd rfl (fp m rfl)
      | some y=>rfl
   ·cases h
  ·rename_i ht
   split at h
   ·exact cz3 ht h
   ·cases h
  ·cases h
 | fieldAddr s x f=>
  simp only[e_]at h
  simp only[hρ x (by simp[dX])]
  split at h
  ·rename_i off hf;exact bw4 hf h
  ·cases h
 | indexAddr t x i=>
  simp only[e_]at h
  simp only[hρ x (by simp[dX]),hρ i (by simp[dX])]
  split at h
  ·rename_i e ht
   split at h
   ·rename_i n hn;exact bV7 ht hn h
   ·cases h
  ·rename_i len e ht
   split at h
   ·rename_i n hn;exact bV6 ht hn h
   ·cases h
  ·cases h
 | extract x i=>simp only[hρ x (by simp[dX])];exact bwi h
 | field t x f=>simp only[hρ x (by simp[dX])];exact eW.oN h
 | index t x i=>simp only[hρ x (by simp[dX]),hρ i (by simp[dX])];exact eW.oN h
 | lookup t x i ok=>simp only[hρ x (by simp[dX]),hρ i (by simp[dX])];exact eW.oN h
 | mapUpdate t m k x=>
  simp only[hρ m (by simp[dX]),hρ k (by simp[dX]),hρ x (by simp[dX])]
  obtain⟨v,w',hr,hk⟩:=h
  simp only[Sem.run_bind,Sem.run_pure]at hr
  cases hm:(Instr.mapUpdate t (ev m) (ev k) (ev x)).run P w with
  | ok u w2=>rw[hm]at hr;cases hr;exact .inr (.inl ⟨w',by simp[hm],hk⟩)
  | halt e w2=>rw[hm]at hr;cases hr
 | insert t m k x=>
  simp only[hρ m (by simp[dX]),hρ k (by simp[dX]),hρ x (by simp[dX])]
  obtain⟨v,w',hr,hk⟩:=h
  simp only[Sem.run_bind,Sem.run_pure]at hr
  cases hm:(Instr.mapUpdate t (ev m) (ev k) (ev x)).run P w with
  | ok u w2=>rw[hm]at hr;cases hr;exact .inr (.inl ⟨w',by simp[hm],hk⟩)
  | halt e w2=>rw[hm]at hr;cases hr
 | mapEntry t m k=>simp only[hρ m (by simp[dX]),hρ k (by simp[dX])];exact zR.oN h
 | entryStore t m k x=>
  simp only[hρ m (by simp[dX]),hρ k (by simp[dX]),hρ x (by simp[dX])]
  obtain⟨v,w',hr,hk⟩:=h
  simp only[Sem.run_bind,Sem.run_pure]at hr
  cases hm:(Instr.entryStore t (ev m) (ev k) (ev x)).run P w with
  | ok u w2=>rw[hm]at hr;cases hr;exact .inr (.inl ⟨w',by simp[hm],hk⟩)
  | halt e w2=>rw[hm]at hr;cases hr
 | makeMap t r=>
  cases r with
  | none=>exact .inl ⟨_,_,rfl,h⟩
  | some x=>cases h
 | call c=>
  obtain⟨callee,args,wk⟩:=c
  cases callee with
  | value g=>
   have ha:args.map ρ=(args.toList.map ev).toArray:=FO args (λx hx=>hρ x (by simp[dX];right;simpa using hx))
   cases g with
   | func f=>
    simp only[e_]at h
    split at h
    ·rename_i hf
     have:=Ri hT (first:=[]) (captured:=[]) hf (by simpa using h)
     simp only[resolve,ha,hF f]
     exact this
    ·simp only[resolve,ha,hF f]
     exact b_o h
   | tmp t=>
    obtain⟨f,first,captured,hg,hf,h⟩:=h
    have:=Ri hT hf h
    have xc:ρ (.tmp t)=ev (.tmp t):=hρ _ (by simp[dX])
    simp only[resolve,ha,xc,hg]
    simpa using this
   | _=>cases h
  | invoke r m=>cases h
  | builtin b=>
   have ha:args.map ρ=(args.toList.map ev).toArray:=FO args (λx hx=>hρ x (by simpa [dX] using hx))
   have hb:(do let d <- resolve ρ ⟨.builtin b,args,wk⟩ ty;invoke d.target d.args)=builtin b wk ty (args.map λ| .const _=>true|_=>false) (args.toList.map ev).toArray:=by
    simp only[resolve,ha];rfl
   show fG P (do let d <- resolve ρ ⟨.builtin b,args,wk⟩ ty;invoke d.target d.args) w K
   rw[hb]
   cases b with
   | len=>
    simp only[e_]at h
    split at h
    ·rename_i x t hx ht
     have Il:wk = #[t]:=by apply Array.ext';exact ht
     rw[hx]
     subst Il
     split at h
     ·rename_i e hs;exact bXf hs h
     ·rename_i hs;exact bXg hs h
     ·exact eW.oN h
    ·cases h
   | min=>
    simp only[e_]at h
    split at h
    ·rename_i x y hx;rw[hx];exact bYs h
    ·cases h
   | max=>
    simp only[e_]at h
    split at h
    ·rename_i x y hx;rw[hx];exact bX3 h
    ·cases h
   | append=>
    simp only[e_]at h
    split at h
    ·rename_i x y t u hx ht
     have Il:wk = #[t,u]:=by apply Array.ext';exact ht
     rw[hx]
     subst Il
     split at h
     ·rename_i e hs
      split at h
      ·rename_i z hz
       obtain⟨i,v,hi,hv,rfl⟩:=yC hz
       split at h
       ·rename_i n hn
        split at h
        ·rename_i e' hb hu
         have mP:=beq_iff.1 hb
         simp at mP;subst mP
         exact PY hs hu (λk hk=>by cases hk) hi hv hn h
        ·rename_i hb hu
         have mP:=beq_iff.1 hb
         simp at mP;subst mP
         exact PY hs hu (λk hk=>by cases hk) hi hv hn h
        ·exact zR.oN h
        ·cases h
       ·cases h
      ·cases h
     ·cases h
    ·cases h
   | copy=>exact h.oN
   | delete=>exact h.oN
   | cap=>exact eW.oN h
   | clear=>exact h.oN
   | _=>cases h
 | _=>cases h
end
open Go.RowKit
def dm(x:Value)(A B:Prop):Prop:=∃r,x= .bool r/\(r=true->A)/\(r=false->B)
def mF(E:Env)(x:Operand)(e:iz):Env:=match x with
 | .tmp t=>(t,e)::E
 | _=>E
def pa(n:Nat)(E:Env)(d:Option Nat)(x:Option iz)(K:Env->Prop):Prop:=match x with
 | some e=>K (E.put n d e)
 | none=>False
def sI(P:Program)(T:List Bool)(n:Nat)(o:Oper)(E:Env)(w:World)(K:Env->World->Prop):Prop:=
 match o.op with
 | .move x=>pa n E o.dst (E.gU x) λE'=>K E' w
 | .assign x=>pa n E o.dst (E.gU x) λE'=>K E' w
 | .pick c a b=>match E.gU c with
  | some .t=>pa n E o.dst (E.gU a) λE'=>K E' w
  | some .f=>pa n E o.dst (E.gU b) λE'=>K E' w
  | some (.v x)=>dm x (pa n (mF E c .t) o.dst (Env.gU (mF E c .t) a) λE'=>K E' w) (pa n (mF E c .f) o.dst (Env.gU (mF E c .f) b) λE'=>K E' w)
  | some .u=>False
  | none=>False
 | op=>match E.EU (dX op) with
  | true=>e_ P T op o.type E.ev w λv w'=>K (E.put n o.dst (.v v)) w'
  | false=>False
def ui(ops:List Oper)(g:Option (Nat × Bool))(E:Env)(run skip:Env->Prop):Prop:=match g with
 | none=>run E
 | some (j,want)=>match (ops[j]?).bind (·.dst) with
  | some g=>match E.get g with
   | some .t=>(match want with|true=>run E|false=>skip E)
   | some .f=>(match want with|true=>skip E|false=>run E)
   | some (.v x)=>dm x (match want with|true=>run ((g,.t)::E)|false=>skip ((g,.t)::E)) (match want with|true=>skip ((g,.f)::E)|false=>run ((g,.f)::E))
   | some .u=>skip E
   | none=>False
  | none=>False
def Dv(P:Program)(T:List Bool)(n:Nat)(ops:List Oper)(K:Env->World->Prop):List Oper->Env->World->Prop
 | [],E,w=>K E w
 | o::r,E,w=>ui ops o.guard E (λE'=>sI P T n o E' w λGx w'=>Dv P T n ops K r Gx w') (λE'=>Dv P T n ops K r (E'.put n o.dst .u) w)
def jk(W:List Nat)(a a':Act):Prop:=∀t,t∉W->a'.tmps[t]?=a.tmps[t]?
theorem jk.refl(W:List Nat)(a:Act):jk W a a:=λ_ _=>rfl
theorem jk.trans{W:List Nat}{a b c:Act}(h:jk W a b)(k:jk W b c):jk W a c:=λt ht=>(k t ht).trans (h t ht)
theorem jk.mono{W W':List Nat}{a b:Act}(h:jk W a b)(hw:∀t∈W,t∈W'):jk W' a b:=λt ht=>h t λx=>ht (hw t x)
theorem jk.put(a:Act)(d:Option Nat)(v:Value)(W:List Nat)(hd:∀t,d=some t->t∈W):jk W a (a.put d v):=by
 cases d with
 | none=>exact .refl _ _
 | some d=>
  intro t ht
  have:d≠t:=λe=>ht (hd t (by rw[e]))
  simp[Act.put,Array.getElem?_setIfInBounds_ne this]
theorem fy.set{X:List Nat}{n:Nat}{E:Env}{a:Act}(h:fy X n E a){t:Nat}{e:iz}(he:t∉X->a.tmps[t]?=some e.val):fy X n ((t,e)::E) a:=by
 refine⟨h.size,h.defers,λu e' hX hu=>?_⟩
 simp only[Env.get]at hu
 split at hu
 ·rename_i hb
  obtain rfl:=beq_iff.1 hb
  cases hu;exact he hX
 ·exact h.get u e' hX hu
theorem fy.mF{X:List Nat}{n:Nat}{E:Env}{a:Act}(h:fy X n E a){x:Operand}{v:Value}{e:iz}(hx:E.gU x=some (.v v))(hv:e.val=v):fy X n (mF E x e) a:=by
 cases x with
 | tmp t=>exact h.set (λhX=>by rw[hv];exact h.get t _ hX hx)
 | const v=>exact h
 | global g=>exact h
 | func f=>exact h
theorem Bm{X:List Nat}{n:Nat}{E:Env}{d:Option Nat}{x:Operand}{K:Env->Prop}(h:pa n E d (E.gU x) K){a:Act}(hA:fy X n E a)(hX:vZ X x):∃E',fy X n E' (a.put d (a.eval x))/\K E':=by
 unfold pa at h
 split at h
 ·rename_i e he;exact⟨_,by rw[hA.gU hX he];exact hA.put d e,h⟩
 ·cases h
section
variable {P:Program} {T:List Bool} {n:Nat} {X:List Nat}
theorem Xb(hT:Calls.pk P T){o:Oper}{E:Env}{w:World}{K:Env->World->Prop}(h:sI P T n o E w K){a:Act}(hA:fy X n E a)(hX:∀x∈dX o.op,vZ X x){next:Act->World->Prop}{Q:Exit->Act->World->Prop}
  (hn:∀E' v w',fy X n E' (a.put o.dst v)->K E' w'->next (a.put o.dst v) w'):o.wp P a w next Q:=by
 unfold sI at h
 split at h
 ·rename_i x eY
  obtain⟨E',h1,h2⟩:=Bm h hA (hX x (by simp[eY,dX]))
  refine fG.upon (K:=λv w'=>∃E',fy X n E' (a.put o.dst v)/\K E' w') (.inl ⟨a.eval x,w,by simp[execOp,eY],E',h1,h2⟩) ?_
  rintro v w' ⟨E',h1,h2⟩
  exact hn E' v w' h1 h2
 ·rename_i x eY
  obtain⟨E',h1,h2⟩:=Bm h hA (hX x (by simp[eY,dX]))
  refine fG.upon (K:=λv w'=>∃E',fy X n E' (a.put o.dst v)/\K E' w') (.inl ⟨a.eval x,w,by simp[execOp,eY],E',h1,h2⟩) ?_
  rintro v w' ⟨E',h1,h2⟩
  exact hn E' v w' h1 h2
 ·rename_i c x y eY
  have key:∀(r:Bool),a.eval c= .bool r->(∃E',fy X n E' (a.put o.dst (if r then a.eval x else a.eval y))/\K E' w)->o.wp P a w next Q:=λr hr h=>by
   refine fG.upon (K:=λv w'=>∃E',fy X n E' (a.put o.dst v)/\K E' w') (.inl ⟨_,w,by simp[execOp,eY,hr,asBool],h⟩) ?_
   rintro v w' ⟨E',h1,h2⟩
   exact hn E' v w' h1 h2
  split at h
  ·rename_i hc;exact key true (hA.gU (hX c (by simp[eY,dX])) hc) (Bm h hA (hX _ (by simp[eY,dX])))
  ·rename_i hc;exact key false (hA.gU (hX c (by simp[eY,dX])) hc) (Bm h hA (hX _ (by simp[eY,dX])))
  ·rename_i v hc
   obtain⟨r,rfl,h1,h2⟩:=h
   cases r with
   | true=>
    exact key true (hA.gU (hX c (by simp[eY,dX])) hc) (Bm (h1 rfl) (hA.mF hc rfl) (hX _ (by simp[eY,dX])))
   | false=>exact key false (hA.gU (hX c (by simp[eY,dX])) hc) (Bm (h2 rfl) (hA.mF hc rfl) (hX _ (by simp[eY,dX])))
  ·cases h
  ·cases h
 ·split at h
  ·rename_i hh
   refine fG.upon (JS hT (λ_=>rfl) (λx hx=>hA.ev (hX x hx) (Env.EV hh x hx)) h) ?_
   intro v w' hk
   exact hn _ v w' (hA.put o.dst (.v v)) hk
  ·cases h
theorem bF8{ops:Array Oper}{g:Option (Nat × Bool)}{o:Oper}(hg:o.guard=g){E:Env}{run skip:Env->Prop}(h:ui ops.toList g E run skip){a:Act}(hA:fy X n E a)
  (hX:∀j want s,g=some (j,want)->(ops[j]?).bind (·.dst)=some s->s∉X) :
  ∃E',fy X n E' a/\((Region.wanted o (yielded ops a.tmps)=true/\run E')\/(Region.wanted o (yielded ops a.tmps)=false/\skip E')):=by
 subst hg
 unfold ui at h
 split at h
 ·rename_i hg;exact⟨E,hA,.inl ⟨by simp[Region.wanted,hg],h⟩⟩
 ·rename_i j want hg
  split at h
  ·rename_i s hs
   have hw:∀b,a.tmps[s]?=some (.bool b)->Region.wanted o (yielded ops a.tmps)=(b == want):=λb hb=>by
    simp only[Region.wanted,hg,yielded]
    rw[show ((ops[j]?).bind (·.dst))=some s by simpa using hs]
    simp only[Option.bind_some,hb]
    cases b<;>cases want<;>rfl
   have lE:s∉X:=hX j want s hg (by simpa using hs)
   split at h
   ·rename_i he
    have:=hw true (hA.get _ _ lE he)
    split at h
    ·exact⟨E,hA,.inl ⟨this,h⟩⟩
    ·exact⟨E,hA,.inr ⟨this,h⟩⟩
   ·rename_i he
    have:=hw false (hA.get _ _ lE he)
    split at h
    ·exact⟨E,hA,.inr ⟨this,h⟩⟩
    ·exact⟨E,hA,.inl ⟨this,h⟩⟩
   ·rename_i x he
    obtain⟨r,rfl,h1,h2⟩:=h
    have hr:=hw r (hA.get _ _ lE he)
    cases r with
    | true=>
     have h1:=h1 rfl
     have iW:fy X n ((s,.t)::E) a:=hA.set (λ_=>hA.get s (.v (.bool true)) lE he)
     split at h1
     ·exact⟨_,iW,.inl ⟨hr,h1⟩⟩
     ·exact⟨_,iW,.inr ⟨hr,h1⟩⟩
    | false=>
     have h2:=h2 rfl
     have iW:fy X n ((s,.f)::E) a:=hA.set (λ_=>hA.get s (.v (.bool false)) lE he)
     split at h2
     ·exact⟨_,iW,.inr ⟨hr,h2⟩⟩
     ·exact⟨_,iW,.inl ⟨hr,h2⟩⟩
   ·rename_i he
    have hb:=hA.get _ _ lE he
    refine⟨E,hA,.inr ⟨?_,h⟩⟩
    simp only[Region.wanted,hg,yielded]
    rw[show ((ops[j]?).bind (·.dst))=some s by simpa using hs]
    simp only[Option.bind_some,hb]
    cases want<;>rfl
   ·cases h
  ·cases h
def rY(l:List Oper):List Nat:=l.filterMap (·.dst)
theorem JZ(hT:Calls.pk P T){ops:Array Oper}{K:Env->World->Prop}{Q:Exit->Act->World->Prop}{W:List Nat}{a0:Act}(hn:∀E' a' w',fy [] n E' a'->jk W a0 a'->K E' w'->Q .normal a' w'):
  ∀(l:List Oper) (E:Env) (a:Act) (w:World),(∀t∈rY l,t∈W)->jk W a0 a->fy [] n E a->Dv P T n ops.toList K l E w->wpList P ops Q l a w
 | [],E,a,w,_,hk,hA,h=>hn E a w hA hk h
 | o::r,E,a,w,hW,hk,hA,h=>by
  unfold Dv at h
  have hd:∀t,o.dst=some t->t∈W:=λt ht=>hW t (by simp[rY,ht])
  have ES:∀t∈rY r,t∈W:=λt ht=>hW t (by
   unfold rY at ht ⊢
   rw[List.filterMap_cons]
   split
   ·exact ht
   ·exact List.mem_cons_of_mem _ ht)
  obtain⟨E',iW,⟨hw,h⟩|⟨hw,h⟩⟩:=bF8 rfl h hA (λ_ _ _ _ _ h=>by cases h)
  ·unfold wpList
   rw[if_pos hw]
   refine .inl (Xb hT h iW (λx _=>.nil x) ?_)
   intro E2 v w' oT hK
   exact JZ hT hn r E2 _ w' ES (hk.trans (jk.put a o.dst v W hd)) oT hK
  ·unfold wpList
   rw[if_neg (by rw[hw];exact Bool.false_ne_true)]
   exact JZ hT hn r _ _ w ES (hk.trans (jk.put a o.dst undef W hd)) (iW.put o.dst .u) h
end
inductive Ex where
 | normal
 | exit (id:Nat)
 | ret
def Ex.to:Ex->Exit
 | .normal=>.normal
 | .exit i=>.exit i
 | .ret=>.ret
def ue:Code->Option Nat
 | .region id _ _=>some id
 | .seq a b=>match ue a with
  | some i=>some i
  | none=>ue b
 | .cond _ a b=>match ue a with
  | some i=>some i
  | none=>ue b
 | .block _ c=>ue c
 | .loop c=>ue c
 | .scope c=>ue c
 | _=>none
def wr:Code->List Nat
 | .region _ ops _=>rY ops.toList
 | .seq a b=>wr a++wr b
 | .cond _ a b=>wr a++wr b
 | .block _ c=>wr c
 | .loop c=>wr c
 | .scope c=>wr c
 | _=>[]
abbrev Marks:=List (Nat × List Nat × List Nat)
def Marks.find:Marks->Option Nat->Option (List Nat × List Nat)
 | _,none=>none
 | [],_=>none
 | (k,x)::r,some i=>match Nat.beq k i with
  | true=>some x
  | false=>Marks.find r (some i)
def Dn(t:Nat):List Nat->Bool
 | []=>false
 | u::r=>match Nat.beq u t with
  | true=>true
  | false=>Dn t r
def Ca(W:List Nat):List Nat->Bool
 | []=>true
 | l::r=>match Dn l W with
  | true=>false
  | false=>Ca W r
def Ba(E R:Env):List Nat->Env
 | []=>R
 | l::r=>match E.get l with
  | some e=>(l,e)::Ba E R r
  | none=>Ba E R r
def nc(E:Env):List Nat->Option (List Value)
 | []=>some []
 | s::r=>match E.get s with
  | some e=>match nc E r with
   | some vs=>some (e.val::vs)
   | none=>none
  | none=>none
def Eg(R:Env):List Nat->List Value->Env
 | s::r,v::vs=>(s,.v v)::Eg R r vs
 | _,_=>R
def Eb:Nat->(List Value->Prop)->Prop
 | 0,K=>K []
 | k+1,K=>∀v:Value,Eb k λl=>K (v::l)
def Dh:List Nat->Nat
 | []=>0
 | _::r=>Dh r+1
def KR(o:Option (List Value))(K:List Value->Prop):Prop:=match o with
 | some l=>K l
 | none=>False
theorem Zs:∀(k:Nat) (K:List Value->Prop),Eb k K->∀l:List Value,l.length=k->K l
 | 0,K,h,l,hl=>by rw[List.eq_nil_of_length_eq_zero hl];exact h
 | k+1,K,h,[],hl=>by simp at hl
 | k+1,K,h,v::l,hl=>Zs k _ (h v) l (by simpa using hl)
theorem Ju:∀l:List Nat,Dh l=l.length
 | []=>rfl
 | _::r=>by simp[Dh,Ju r]
theorem KH{E:Env}:∀{S:List Nat} {vs:List Value},nc E S=some vs->vs.length=S.length
 | [],vs,h=>by simp[nc]at h;subst h;rfl
 | s::r,vs,h=>by
  simp only[nc]at h
  split at h
  ·split at h
   ·rename_i BA hv;cases h;simp[KH hv]
   ·cases h
  ·cases h
theorem Vm{t:Nat}:∀{l:List Nat},Dn t l=true↔t∈l
 | []=>by simp[Dn]
 | u::r=>by
  simp only[Dn,List.mem_cons]
  split
  ·rename_i h;simp[(beq_iff.1 h).symm]
  ·rename_i h
   have dO:t≠u:=λe=>by rw[beq_iff.2 e.symm]at h;cases h
   rw[Vm];simp[dO]
theorem y4{W:List Nat}:∀{L:List Nat},Ca W L=true->∀l∈L,l∉W
 | [],_,l,hl=>by cases hl
 | x::r,h,l,hl=>by
  simp only[Ca]at h
  split at h
  ·cases h
  ·rename_i hm
   rcases List.mem_cons.1 hl with rfl|hl
   ·intro jW;rw[Vm.2 jW]at hm;cases hm
   ·exact y4 h l hl
theorem FK{n:Nat}{E R:Env}{a a':Act}(hA:fy [] n E a)(hR:fy [] n R a'){W:List Nat}(hk:jk W a a'):∀{L:List Nat},(∀l∈L,l∉W)->fy [] n (Ba E R L) a'
 | [],_=>hR
 | l::r,h=>by
  simp only[Ba]
  split
  ·rename_i e he
   exact (FK hA hR hk (λx hx=>h x (List.mem_cons_of_mem _ hx))).set (λ_=>by rw[hk l (h l (by simp))];exact hA.get l e (by simp) he)
  ·exact FK hA hR hk (λx hx=>h x (List.mem_cons_of_mem _ hx))
theorem Hm{n:Nat}{E R:Env}{a:Act}(hA:fy [] n E a)(hR:fy [] n R a):∀{S:List Nat} {vs:List Value},nc E S=some vs->fy [] n (Eg R S vs) a
 | [],vs,h=>by simp[nc]at h;subst h;exact hR
 | s::r,vs,h=>by
  simp only[nc]at h
  split at h
  ·rename_i e he
   split at h
   ·rename_i BA hv
    cases h
    exact (Hm hA hR hv).set (λ_=>hA.get s e (by simp) he)
   ·cases h
  ·cases h
open Go.RowKit
def ic(P:Program):Op->Bool
 | .move _ | .pick .. | .build .. | .nilCheck _ | .unOp .. | .makeFunc .. | .fieldAddr .. | .indexAddr .. | .extract .. | .field .. | .index .. | .lookup .. | .slice .. | .load .. | .binOp ..=>true
 | .convert s d _=>match P.underlying s,P.underlying d with
  | some _,some (.int _)=>true
  | some .string,some .string=>true
  | some .string,some (.slice _)=>false
  | some (.slice _),some (.slice _)=>false
  | _,_=>true
 | .call c=>match c.callee with
  | .builtin .len=>true
  | .builtin .min=>true
  | .builtin .max=>true
  | .builtin .cap=>true
  | _=>false
 | _=>false
def ow(P:Program):Op->Bool
 | .field .. | .index .. | .lookup .. | .load ..=>true
 | .binOp _ t _ _ _=>match P.underlying t with
  | some (.struct _)=>true
  | _=>false
 | .convert s d _=>match P.underlying s,P.underlying d with
  | some _,some (.int _)=>false
  | some .string,some .string=>false
  | _,_=>true
 | .call c=>match c.callee with
  | .builtin .len=>match c.argTypes.toList with
   | [t]=>match P.underlying t with
    | some (.slice _)=>false
    | some .string=>false
    | _=>true
   | _=>true
  | .builtin .cap=>true
  | _=>false
 | _=>false
def rT(acc:List Nat):List Edge->Nat
 | []=>0
 | e::r=>match Region.binds .any e with
  | true=>rT acc r ||| 2 ^ e.on ||| acc.getD e.on 0
  | false=>rT acc r
def nW:List Oper->List Nat->List Nat
 | [],acc=>acc
 | o::r,acc=>nW r (acc++[rT acc o.after.toList])
def idxs(f:Oper->Bool):List Oper->Nat->List Nat
 | [],_=>[]
 | o::r,k=>match f o with
  | true=>k::idxs f r (k+1)
  | false=>idxs f r (k+1)
def oQ(f:Nat->Bool):List Nat->List Nat
 | []=>[]
 | j::r=>match f j with
  | true=>j::oQ f r
  | false=>oQ f r
def xL:List Nat->Nat
 | []=>0
 | j::r=>2 ^ j ||| xL r
def B3(f:Nat->Bool):List Nat->Bool
 | []=>false
 | j::r=>match f j with
  | true=>true
  | false=>B3 f r
def vR(a b:Nat):Bool:=Nat.beq (Nat.land a b) a
structure RS where
 ops:List Oper
 B:List Nat
 jy:List Nat
 s7:List Nat
 cm:Nat
def fL(P:Program)(ops:List Oper):RS:=
 let jy:=idxs (λo=>!ic P o.op) ops 0
 {ops,B:=nW ops [],jy,s7:=idxs (λo=>ic P o.op) ops 0,cm:=xL jy}
def RS.enabled(R:RS)(done j:Nat):Bool:=vR (Nat.land (R.B.getD j 0) R.cm) done
def RS.Dr(R:RS)(done j:Nat):Bool:=B3 (λc=>match Nat.testBit done c with
 | true=>Nat.testBit (R.B.getD c 0) j
 | false=>false) R.jy
def Wj(P:Program)(T:List Bool)(o:Oper)(E:Env)(w:World)(R:Prop):Prop:=match o.dst with
 | some d=>match E.get d with
  | some e=>e_ P T o.op o.type E.ev w λv _=>v=e.val/\R
  | none=>False
 | none=>False
def Bo(P:Program)(T:List Bool)(ops:List Oper)(E:Env)(w:World)(R:Prop):List Nat->Prop
 | []=>R
 | j::r=>match ops[j]? with
  | some o=>ui ops o.guard E (λ_=>Wj P T o E w (Bo P T ops E w R r)) (λ_=>Bo P T ops E w R r)
  | none=>False
def Ay(P:Program)(T:List Bool)(n:Nat)(ops:List Oper)(w:World)(K:Env->Prop):List Nat->Env->Prop
 | [],E=>K E
 | j::r,E=>match ops[j]? with
  | some o=>ui ops o.guard E (λE'=>sI P T n o E' w λGx _=>Ay P T n ops w K r Gx) (λE'=>Ay P T n ops w K r (E'.put n o.dst .u))
  | none=>False
def Ec(F:Nat->Prop):List Nat->Prop
 | []=>False
 | [c]=>F c
 | c::r=>F c/\Ec F r
def RS.go(R:RS)(P:Program)(T:List Bool)(n:Nat)(K:Env->World->Prop):Nat->Nat->Nat->Env->World->Prop
 | 0,_,_,_,_=>False
 | k+1,done,en,E,w=>
  Bo P T R.ops E w
   (Ay P T n R.ops w (λE'=>
     match vR R.cm done with
     | true=>K E' w
     | false=>Ec (λc=>match R.ops[c]? with
       | some o=>ui R.ops o.guard E' (λE2=>sI P T n o E2 w λE3 w3=>RS.go R P T n K k (done ||| 2 ^ c) (en ||| xL (oQ (λj=>R.enabled done j) R.s7)) E3 w3)
         (λE2=>RS.go R P T n K k (done ||| 2 ^ c) (en ||| xL (oQ (λj=>R.enabled done j) R.s7)) (E2.put n o.dst .u) w)
       | none=>False)
      (oQ (λc=>!Nat.testBit done c && R.enabled done c) R.jy))
    (oQ (λj=>!Nat.testBit en j && R.enabled done j) R.s7) E)
   (oQ (λj=>Nat.testBit en j && !R.Dr done j && (match R.ops[j]? with|some o=>ow P o.op|none=>false)) R.s7)
def xI{α:Type}:List α->Nat
 | []=>0
 | _::r=>xI r+1
def HE(P:Program)(T:List Bool)(n:Nat)(ops:List Oper)(K:Env->World->Prop)(E:Env)(w:World):Prop:=
 (fL P ops).go P T n K (xI (fL P ops).jy+1) 0 0 E w
def looks(ops:List Oper)(o:Oper):List Nat:=
 ((dX o.op).filterMap λx=>match x with | .tmp t=>some t|_=>none)++(match o.guard with|some (j,_)=>((ops[j]?).bind (·.dst)).toList|none=>[])
def F7(P:Program)(n:Nat)(ops:List Oper)(draw:Bool):Bool:=match draw with
 | false=>true
 | true=>
  let R:=fL P ops
  (List.range ops.length).all λi=>match ops[i]? with
   | some oi=>(oi.dst.toList.all λd=>decide (d<n)) && (oi.after.toList.all λe=>!Region.binds .any e || decide (e.on<i)) &&
    (ic P oi.op == false || !((oi.dst.toList).any λd=>(looks ops oi).contains d)) &&
    (List.range ops.length).all λj=>match ops[j]? with
     | some oj=>match oj.dst with
      | some d=>i == j || ((!ic P oj.op || oi.dst != some d) &&
        (!(looks ops oi).contains d || (R.B.getD i 0).testBit j || (!ic P oj.op && (R.B.getD j 0).testBit i)))
      | none=>true
     | none=>true
   | none=>true
