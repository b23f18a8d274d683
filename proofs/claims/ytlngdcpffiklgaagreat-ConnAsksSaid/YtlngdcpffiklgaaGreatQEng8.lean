/- Part. -/
import Derived.Test.YtlngdcpffiklgaaGreatQEng4
namespace Go.Proofs.YtlngdcpffiklgaaGreat
set_option linter.all false
open Go.RowKit
def zzj:=@List.length_cons
def yyq:=@List.drop_eq_getElem_cons
def yyk:=@List.take_append_drop
def xxq:=@List.foldl_cons
def xx0:=@List.take_length_add_append
def xxe:=@List.drop_length_add_append
def zzr:=@List.map_cons
def wwl:=@Prod.mk.injEq
def zzw:=@decide_eq_true_eq
def wwd:=@if_false
def xxk:=@List.map_map
def zzx:=@List.mem_map
def zzf:=@List.getElem?_eq_some_iff
def wwm:=@if_true
def xxf:=@Bool.false_eq_true
def zzd:=@if_pos
def zzb:=@if_neg
section
variable {P:Program} {w:Ζ} {K:Ε->Ζ->Prop}
def XR(off:Nat):∀(vs:Ξ) (k:Nat) (cells:Ξ),off+k+vs.length<=cells.length ->
  (vs.zipIdx k).foldl (λcs (p:Ε × Nat)=>cs.set (off+p.2) p.1) cells=cells.take (off+k)++vs++cells.drop (off+k+vs.length)
 | [],k,cells,h=>by simp
 | v::r,k,cells,h=>by
  simp only[zzj]at h;obtain⟨A,x,B,rfl,hA⟩:∃A x B,cells=A++x::B/\A.length=off+k:=by
   refine⟨cells.take (off+k),cells[off+k]'(by omega),cells.drop (off+k+1),?_,by simp;omega⟩;rw[<- yyq,yyk]
  have jj:off+k=A.length:=hA.symm;rw[List.zipIdx_cons,xxq,XR off r (k+1) _ (by simp at h ⊢;omega)];have e1:(A++x::B).set (off+k) v=A++v::B:=by rw[jj];simp
  have e2:(A++v::B).take (off+(k+1))=A++[v]:=by rw[show off+(k+1)=A.length+1 by omega,xx0];simp
  have e3:(A++v::B).drop (off+(k+1)+r.length)=B.drop r.length:=by rw[show off+(k+1)+r.length=A.length+(r.length+1) by omega,xxe];simp
  have e4:(A++x::B).take (off+k)=A:=by rw[jj];simp
  have e5:(A++x::B).drop (off+k+(r.length+1))=B.drop r.length:=by rw[jj,xxe];simp
  simp only[zzj]at *
  rw[e1,e2,e3,e4,e5];simp
def bWb(vs cells:Array Ε)(off:Nat)(h:off+vs.size<=cells.size):
  vs.zipIdx.foldl (λcs (p:Ε × Nat)=>cs.setIfInBounds (off+p.2) p.1) cells=(cells.toList.take off++vs.toList++cells.toList.drop (off+vs.size)).toArray:=by
 have h1:∀(l:List (Ε × Nat)) (c:Array Ε),(l.foldl (λcs (p:Ε × Nat)=>cs.setIfInBounds (off+p.2) p.1) c).toList=l.foldl (λcs (p:Ε × Nat)=>cs.set (off+p.2) p.1) c.toList:=by
  intro l;induction l with
  | nil=>intro c;rfl
  | cons x r ih=>intro c;rw[xxq,xxq,ih];simp
 have h2:=XR off vs.toList 0 cells.toList (by simpa using h);apply Array.toList_inj.1;rw[<- Array.foldl_toList,h1,Array.toList_zipIdx,h2];simp
def fill_eq(place:Nat->Option (Nat × Nat)):∀(ps:List (Nat × Ε)) (l:List (Nat × Nat × Ε)) (z cells:Ξ),
  (ps.map λp=>(place p.1,p.2))=(l.map λq=>(some (q.1,q.2.1),q.2.2))->ib z l=some cells->Instr.fill place z.toArray ps=some cells.toArray
 | [],[],z,cells,_,h=>by simp[ib]at h;subst h;rfl
 | [],_::_,z,cells,hm,h=>by simp at hm
 | _::_,[],z,cells,hm,h=>by simp at hm
 | (i,v)::ps,(off,size,u)::l,z,cells,hm,h=>by
  simp only[zzr,List.cons.injEq,wwl]at hm;obtain⟨⟨hp,rfl⟩,hm⟩:=hm;simp only[ib]at h;split at h
  ·rename_i hc;obtain⟨h1,h2⟩:=hc;rw[Instr.fill,hp];have h3:¬(v.cells.size≠size\/off+v.cells.size>z.length):=by omega
   have cno:=bWb v.cells z.toArray off (by simp;omega);simp only[Bool.or_eq_true,zzw,List.size_toArray,h3,wwd];rw[cno,<- fill_eq place ps l _ cells hm h,h1]
  cases h
def Tk:∀(fs:List Field) (l:List (Nat × Nat)),AY P fs=some l->(fs.mapM λf=>do pure (f.offset,<- sizeOf f.type):Sem (List (Nat × Nat))).run P w= .ok l w
 | [],l,h=>by simp[AY]at h;subst h;simp
 | f::r,l,h=>by
  simp only[AY]at h;split at h
  ·rename_i n hn;split at h
   ·rename_i l' hl;cases h;have ih:=Tk r l' hl;simp only[bind_pure_comp]at ih;simp[List.mapM_cons,run_sizeOf hn,ih]
   cases h
  cases h
def KB(pl:List (Nat × Nat))(ev:Operand->Ε):∀(ps:List (Nat × Operand)) (l:List (Nat × Nat × Ε)),rR pl ev ps=some l ->
  ((ps.map λp=>(p.1,ev p.2)).map λp=>(pl[p.1]?,p.2))=(l.map λq=>(some (q.1,q.2.1),q.2.2))
 | [],l,h=>by simp[rR]at h;subst h;rfl
 | (i,x)::r,l,h=>by
  simp only[rR]at h;split at h
  ·rename_i off n hi;split at h
   ·rename_i l' hl;cases h;simp[hi,KB pl ev r l' hl]
   cases h
  cases h
def aW2{t:Ι}{fields:Array Field}{i:TypeInfo}{v:Ε}{pl:List (Nat × Nat)}{ps:Array (Nat × Operand)}{ev:Operand->Ε}{l:List (Nat × Nat × Ε)}
  (ht:P.underlying t=some (.struct fields)) (hi:P.info? t=some i) (hv:i.zero=some v) (eg:AY P fields.toList=some pl) (hl:rR pl ev ps.toList=some l)
  (h:zn v.cells.toList l λv=>K v w):fP P (do pure (.value (<- Instr.build t (ps.map λ(i,x)=>(i,ev x))))) w K:=by
 obtain⟨cells,hc,hk⟩:=h;refine .value ?_ hk;have h1:(fields.mapM λf=>do pure (f.offset,<- sizeOf f.type):Sem (Array (Nat × Nat))).run P w= .ok pl.toArray w:=by
  rw[Array.mapM_eq_mapM_toList,Sem.run_map,Tk _ _ eg];rfl
 have h2:=fill_eq (λj=>pl[j]?) (ps.toList.map λp=>(p.1,ev p.2)) l _ cells (by simpa using KB pl ev _ _ hl) hc;rw[Array.toArray_toList]at h2
 simp only[Instr.build,Sem.run_bind,BQ hi hv,zzy ht,Result.andThen_ok,h1,Array.toList_map];have h3:(λx:Nat=>(pl.toArray[x]?:Option (Nat × Nat)))=λj=>pl[j]?:=by funext j;simp
 rw[h3,h2];rfl
def aW1{t e:Ι}{i:TypeInfo}{v:Ε}{len n:Nat}{ps:Array (Nat × Operand)}{ev:Operand->Ε}{l:List (Nat × Nat × Ε)}
  (ht:P.underlying t=some (.slice e)) (hi:P.info? e=some i) (hv:i.zero=some v) (hn:lG P e=some n) (hz:n=v.cells.toList.length) (hle:len*n<=16777216)
  (hl:rR ((List.range len).map λi=>(i*n,n)) ev ps.toList=some l) (h:zm (cQ v.cells.toList len) l e len w K) :
  fP P (do pure (.value (<- Instr.buildSlice t len (ps.map λ(i,x)=>(i,ev x))))) w K:=by
 obtain⟨cells,hc,hk⟩:=h;refine .value ?_ hk;have hlen:∀(ps:List (Nat × Operand)) (l:List (Nat × Nat × Ε)),rR ((List.range len).map λi=>(i*n,n)) ev ps=some l ->
   ((ps.map λp=>(p.1,ev p.2)).map λp=>(some (p.1*n,n),p.2))=(l.map λq=>(some (q.1,q.2.1),q.2.2)):=λps l h=>by
  have:=KB _ ev ps l h;rw[<- this];rw[xxk,xxk];have kf:∀p∈ps,p.1<len:=by
   intro p hp;have hm:(((List.range len).map λi=>(i*n,n))[p.1]?,ev p.2)∈((ps.map λp=>(p.1,ev p.2)).map λp=>(((List.range len).map λi=>(i*n,n))[p.1]?,p.2)):=by
    simp only[xxk,zzx];exact⟨p,hp,rfl⟩
   rw[this]at hm
   obtain⟨q,_,hq⟩:=zzx.1 hm;simp only[wwl]at hq;have:=(zzf.1 hq.1.symm).1;simpa using this
  refine List.map_congr_left λp hp=>?_;simp[kf p hp]
 have h2:=fill_eq (λi=>some (i*n,n)) (ps.toList.map λp=>(p.1,ev p.2)) l _ cells (hlen _ _ hl) hc;have hzz:n=v.cells.size:=by simpa using hz
 subst hzz;have hr:=Lx v.cells len;simp only[Instr.buildSlice,Sem.run_bind,zzy ht,Result.andThen_ok,run_sizeOf hn,show ¬len*v.cells.size>2 ^ 24 by omega,wwd];by_cases h0:len*v.cells.size=0
 ·have hz0:cQ v.cells.toList len=[]:=zzl (by rw[l7];simpa using h0);rw[hz0]at h2
  have tQ:(Array.range 0).map (λi=>(#[]:Array Ε)[i % (#[]:Array Ε).size]!) = #[]:=Array.eq_empty_of_size_eq_zero (by simp);simp only[h0,wwm,pure_bind,tQ,Array.toList_map];rw[show ([]:Ξ).toArray = #[] from rfl]at h2
  rw[h2];rfl
 simp only[h0,wwd,pure_bind,Sem.run_bind,BQ hi hv,Result.andThen_ok,hr,Array.toList_map];rw[h2];rfl
end
open Go.RowKit
section
variable {P:Program} {w:Ζ} {K:Ε->Ζ->Prop}
def K4{sz n:Nat}{y:Ε}{cs:Ξ}{w':Ζ}(h:kL w sz y n cs)(hw:∀a,w'.cell? a=w.cell? a):
  (Builtin.firstCells sz n y).run P w'= .ok cs.toArray w'/\(Builtin.lenOf y).run P w'= .ok n w':=by
 unfold kL at h;split at h
 ·obtain⟨rfl,h1,h2⟩:=h;exact⟨run_firstCells_some w' sz n _ _ _ cs h1 (λj v hj=>by rw[hw];exact h2 j v hj),rfl⟩
 ·obtain⟨rfl,rfl⟩:=h;exact⟨run_firstCells_none w' sz n _ _,rfl⟩
 ·rename_i s;obtain⟨rfl,rfl⟩:=h;refine⟨?_,rfl⟩;have:(s.extract 0 s.size)=s:=by simp
  simp only[Builtin.firstCells,this,Sem.run_pure,Result.ok.injEq,and_true];apply Array.ext';simp
 cases h
def S6(w:Ζ)(a:Addr):w.drew.cell? a=w.cell? a:=rfl
def RT{t u e ty:Ι}{d:TypeDesc}{i:TypeInfo}{v:Ε}{x y:Ε}(ht:P.underlying t=some (.slice e))(hu:P.underlying u=some d)(hd:∀k,d≠.int k)
  (hi:P.info? e=some i) (hv:i.zero=some v) (hn:lG P e=some v.cells.size)
  (h:zx v.cells.size (vj P e) v.cells.toList e x y w K):fP P (do pure (.value (<- Builtin.append_ #[t,u] ty #[x,y]))) w K:=by
 obtain⟨a,len,cap,n,cs,rfl,iD,hb,hlen,h1,h2⟩:=h;have nu:vj P e=i.bytes:=by simp[vj,hi]
 rw[nu]at hb
 obtain⟨r1,r2⟩:=K4 (P:=P) iD (λ_=>rfl);have hz:(underlying u).run P w= .ok d w:=zzy hu w;have DF:(match d with | .int _=>true|_=>false)=false:=by
  cases d with
  | int k=>exact absurd rfl (hd k)
  | _=>rfl
 by_cases hc:len+n<=cap
 ·have hk:=h1 hc;cases a with
  | none=>
   refine .value ?_ hk;simp only[Builtin.append_,List.getElem?_toArray,List.getElem?_cons_zero,List.getElem?_cons_succ,Sem.run_bind,zzy ht,Result.andThen_ok,run_sizeOf hn,hz,Sem.run_pure,xxf,wwd,r2,hc,wwm,Bool.not_false,r1]
  | some p=>
   obtain⟨w',hs,hk⟩:=K7 (P:=P) _ _ _ _ _ hk;refine .value ?_ hk;simp only[Builtin.append_,List.getElem?_toArray,List.getElem?_cons_zero,List.getElem?_cons_succ,Sem.run_bind,zzy ht,Result.andThen_ok,run_sizeOf hn,hz,Sem.run_pure,xxf,wwd,r2,hc,wwm,Bool.not_false,r1,hs]
 obtain⟨oh,ho,hk⟩:=h2 (by omega);have hk:=hk (grownCap w (len+n) cap e) (grownCap_ge _ _ _ _) (by have:=grownCap_le_maxLen w (len+n) cap e (by simp only[maxLen];omega);simpa [maxLen] using this);obtain⟨q1,_⟩:=K4 (P:=P) iD (S6 w);obtain⟨q2,_⟩:=K4 (P:=P) (w':=w.drew) ho (S6 w);refine .value ?_ hk;have hm:¬(((len+n:Nat):Int)>IntKind.i64.max/\(False\/i.bytes=0)):=by
  intro hh;have:IntKind.i64.max=9223372036854775807:=rfl;omega
 have p7:=growslice_fits (bytes:=i.bytes) (show cap<len+n by omega) hb;have cnl:¬(Builtin.nextslicecap (len+n) cap*i.bytes>2 ^ 48):=by simpa using p7
 have JW:Builtin.zeroCells v.cells (grownCap w (len+n) cap e-(len+n))=(cQ v.cells.toList (grownCap w (len+n) cap e-(len+n))).toArray:=Lx v.cells _;have hti:∀w,(typeInfo e).run P w= .ok i w:=λw=>by simp[typeInfo,hi]
 have rJ:oh.toArray++cs.toArray++(cQ v.cells.toList (grownCap w (len+n) cap e-(len+n))).toArray=(oh++cs++cQ v.cells.toList (grownCap w (len+n) cap e-(len+n))).toArray:=by simp
 simp only[Builtin.append_,List.getElem?_toArray,List.getElem?_cons_zero,List.getElem?_cons_succ,Sem.run_bind,zzy ht,Result.andThen_ok,run_sizeOf hn,hz,Sem.run_pure,xxf,wwd,r2,hc,Bool.not_false,wwm,hti,hm,cnl,
  run_choose,Question.forced,run_askRoom]
 show ((Builtin.firstCells v.cells.size len _).run P w.drew).andThen _=_;rw[q2];simp only[Result.andThen_ok];show ((Builtin.firstCells v.cells.size n _).run P w.drew).andThen _=_;rw[q1];simp only[Result.andThen_ok,BQ hi hv];show ((newRow e (oh.toArray++cs.toArray++Builtin.zeroCells v.cells (grownCap w (len+n) cap e-(len+n)))).run P w.drew).andThen _=_;rw[JW,rJ];rfl
def Sh{T:List Bool}(hT:Calls.pI P T){f:FuncId}{first captured args:Ξ}(hf:T.getD f false=true)(h:zB P f (first++args++captured) w K):
  fP P (do let d <- Deferred.ofValue (.func (.func f) first.toArray captured.toArray) args.toArray;invoke d.target d.args) w K:=by
 obtain⟨fn,h1,h2,h3⟩:=hT f hf;refine .inr (.inr ⟨f,(first++args++captured).toArray,?_,h⟩);have e1:first.toArray++args.toArray++captured.toArray=(first++args++captured).toArray:=by simp
 simp only[Deferred.ofValue,invoke,callFunc,pure_bind,Sem.run_bind,run_program,Result.andThen_ok,h1,h2,h3,xxf,wwd,e1];rfl
def cDp{f:FuncId}{args:Ξ}(h:Qo P f args w K):fP P (do let d <- Deferred.ofValue (.func (.func f) #[] #[]) args.toArray;invoke d.target d.args) w K:=by
 obtain⟨v,w',h1,h2⟩:=h;refine .inl ⟨v,w',?_,h2⟩;have e:(#[]:Array Ε)++args.toArray ++ #[]=args.toArray:=by simp
 simp only[Deferred.ofValue,invoke,pure_bind,e,h1]
def ez:Op->List Operand
 | .alloc _=>[]
 | .move x | .assign x | .box _ x | .load _ x | .nilCheck x | .unOp _ _ x | .convert _ _ x | .fieldAddr _ x _ | .field _ x _ | .extract x _=>[x]
 | .pick c a b=>[c,a,b]
 | .build _ ps | .buildSlice _ _ ps=>ps.toList.map (·.2)
 | .store _ a v | .binOp _ _ a v _ | .makeSlice _ a v | .indexAddr _ a v | .index _ a v | .lookup _ a v _ | .mapEntry _ a v=>[a,v]
 | .makeFunc _ first captured=>first.toList++captured.toList
 | .slice _ x l h m=>x::(l.toList++h.toList++m.toList)
 | .mapUpdate _ m k v | .entryStore _ m k v | .insert _ m k v=>[m,k,v]
 | .call c=>match c.callee with
  | .value f=>f::c.args.toList
  | _=>c.args.toList
 | _=>[]
def KA{pl:List (Nat × Nat)}{ev ρ:Operand->Ε}:∀(ps:List (Nat × Operand)),(∀x∈ps.map (·.2),ρ x=ev x)->rR pl ρ ps=rR pl ev ps
 | [],_=>rfl
 | (i,x)::r,h=>by
  simp only[rR];rw[KA r (λy hy=>h y (by simp only[zzr,zz1];exact .inr hy)),h x (by simp)]
def Gj{ev ρ:Operand->Ε}(xs:Array Operand)(h:∀x∈xs.toList,ρ x=ev x):xs.map ρ=(xs.toList.map ev).toArray:=by
 apply Array.ext';simp only[Array.toList_map];exact List.map_congr_left h
set_option maxHeartbeats 1000000 in
def Ks{T:List Bool}(hT:Calls.pI P T){o:Oper}{ρ ev:Operand->Ε}(hF:∀f,ρ (.func f)= .func (.func f) #[] #[])(hρ:∀x∈ez o.op,ρ x=ev x)(h:fm P T o.op o.type ev w K):fP P (execOp ρ o) w K:=by
 obtain⟨dst,op,ty,pos,after,guard⟩:=o;simp only at h hρ;unfold execOp;cases op with
 | move x=>exact .inl ⟨_,_,rfl,by rw[hρ x (by simp[ez])];exact h⟩
 | assign x=>exact .inl ⟨_,_,rfl,by rw[hρ x (by simp[ez])];exact h⟩
 | alloc e=>
  simp only[fm]at h;split at h
  ·rename_i z hz;exact aR0 hz h
  cases h
 | box e x=>
  simp only[fm]at h;simp only[hρ x (by simp[ez])];split at h
  ·exact Sa (by rw[BH h.1]) h.2
  ·obtain⟨vs,hx,h⟩:=h;exact Sa (by rw[hx];rfl) h
  cases h
 | build t ps=>
  simp only[fm]at h;split at h
  ·rename_i fields ht;split at h
   ·rename_i z hz;split at h
    ·rename_i pl eg;split at h
     ·rename_i l hl;obtain⟨i,v,hi,hv,rfl⟩:=yD hz;rw[<- KA ps.toList (by simpa [ez] using hρ)]at hl
      exact aW2 ht hi hv eg hl h
     cases h
    cases h
   cases h
  cases h
 | buildSlice t len ps=>
  simp only[fm]at h;split at h
  ·rename_i e ht;split at h
   ·rename_i z hz;split at h
    ·rename_i n hn;split at h
     ·rename_i l hl;split at h
      ·rename_i Fx rF;obtain⟨i,v,hi,hv,rfl⟩:=yD hz;rw[<- KA ps.toList (by simpa [ez] using hρ)]at hl
       exact aW1 ht hi hv hn (beq_iff.1 Fx) (Nat.le_of_ble_eq_true rF) hl h
      cases h
     cases h
    cases h
   cases h
  cases h
 | load t x=>
  simp only[fm]at h;simp only[hρ x (by simp[ez])];split at h
  ·rename_i ht;exact cAe ht h
  ·rename_i n ht;exact cAm ht h
  cases h
 | store t x v=>
  simp only[fm]at h;simp only[hρ x (by simp[ez]),hρ v (by simp[ez])];split at h
  ·rename_i ht;split at h
   ·rename_i hs;exact cI0 ht hs h
   cases h
  ·rename_i n ht;exact cI1 ht h
  cases h
 | nilCheck x=>
  obtain⟨a,hx,hk⟩:=h;refine .inl ⟨_,_,?_,hk⟩;simp only[hρ x (by simp[ez]),hx];rfl
 | binOp op t x y u=>
  simp only[fm]at h;simp only[hρ x (by simp[ez]),hρ y (by simp[ez])];split at h
  ·exact R8 h
  ·exact R8 h
  ·split at h
   ·rename_i hm;exact bIz hm h
   cases h
  ·split at h
   ·rename_i hm;exact cB0 hm h
   cases h
  ·rename_i d ht;exact bI3 ht h
  ·rename_i d ht;exact cB1 ht h
  cases h
 | unOp op t x=>
  cases op with
  | not=>simp only[hρ x (by simp[ez])];exact cCb h
  | neg=>simp only[hρ x (by simp[ez])];exact cBz h
  | xor=>simp only[hρ x (by simp[ez])];exact bwr h
  | _=>cases h
 | convert s d x=>
  simp only[fm]at h;simp only[hρ x (by simp[ez])];split at h
  ·rename_i e k hs hd;exact bw4 hs hd h
  ·rename_i hs hd;exact bw5 hs hd h
  ·exact h.pa
  ·exact h.pa
  exact eS.pa h
 | makeFunc fn first captured=>
  simp only[fm]at h;split at h
  ·refine .inl ⟨_,_,rfl,?_⟩;rw[Gj first (λx hx=>hρ x (by simp[ez];left;simpa using hx)),Gj captured (λx hx=>hρ x (by simp[ez];right;simpa using hx))];exact h
  cases h
 | makeSlice t x y=>
  simp only[fm]at h;simp only[hρ x (by simp[ez]),hρ y (by simp[ez])];split at h
  ·rename_i e ht;split at h
   ·rename_i z hz;split at h
    ·rename_i n hn;split at h
     ·rename_i hb;obtain⟨i,v,hi,hv,rfl⟩:=yD hz;refine cBs ht hi hv (by rw[hn,beq_iff.1 hb];simp) h
     cases h
    cases h
   cases h
  cases h
 | slice t x lo hi mx=>
  have e1:lo.map ρ=lo.map ev:=by cases lo with|none=>rfl|some y=>simp[hρ y (by simp[ez])]
  have e2:hi.map ρ=hi.map ev:=by cases hi with|none=>rfl|some y=>simp[hρ y (by simp[ez])]
  have e3:mx.map ρ=mx.map ev:=by cases mx with|none=>rfl|some y=>simp[hρ y (by simp[ez])]
  simp only[fm]at h;simp only[hρ x (by simp[ez]),e1,e2,e3];split at h
  ·rename_i e ht;split at h
   ·rename_i n hn;split at h
    ·cases h
    rename_i fC;refine cHz ht hn ?_ h;intro hm;cases mx with
    | none=>simp at hm
    | some m=>cases hi with
     | none=>exact absurd rfl (fC m rfl)
     | some y=>rfl
   cases h
  ·rename_i ht;split at h
   ·exact cHy ht h
   cases h
  cases h
 | fieldAddr s x f=>
  simp only[fm]at h;simp only[hρ x (by simp[ez])];split at h
  ·rename_i off hf;exact bRu hf h
  cases h
 | indexAddr t x i=>
  simp only[fm]at h;simp only[hρ x (by simp[ez]),hρ i (by simp[ez])];split at h
  ·rename_i e ht;split at h
   ·rename_i n hn;exact cxz ht hn h
   cases h
  ·rename_i len e ht;split at h
   ·rename_i n hn;exact cxy ht hn h
   cases h
  cases h
 | extract x i=>simp only[hρ x (by simp[ez])];exact bI9 h
 | field t x f=>simp only[hρ x (by simp[ez])];exact eS.pa h
 | index t x i=>simp only[hρ x (by simp[ez]),hρ i (by simp[ez])];exact eS.pa h
 | lookup t x i ok=>simp only[hρ x (by simp[ez]),hρ i (by simp[ez])];exact eS.pa h
 | mapUpdate t m k x=>
  simp only[hρ m (by simp[ez]),hρ k (by simp[ez]),hρ x (by simp[ez])];obtain⟨v,w',hr,hk⟩:=h;simp only[Sem.run_bind,Sem.run_pure]at hr;cases hm:(Instr.mapUpdate t (ev m) (ev k) (ev x)).run P w with
  | ok u w2=>rw[hm]at hr;cases hr;exact .inr (.inl ⟨w',by simp[hm],hk⟩)
  | halt e w2=>rw[hm]at hr;cases hr
 | insert t m k x=>
  simp only[hρ m (by simp[ez]),hρ k (by simp[ez]),hρ x (by simp[ez])];obtain⟨v,w',hr,hk⟩:=h;simp only[Sem.run_bind,Sem.run_pure]at hr;cases hm:(Instr.mapUpdate t (ev m) (ev k) (ev x)).run P w with
  | ok u w2=>rw[hm]at hr;cases hr;exact .inr (.inl ⟨w',by simp[hm],hk⟩)
  | halt e w2=>rw[hm]at hr;cases hr
 | mapEntry t m k=>simp only[hρ m (by simp[ez]),hρ k (by simp[ez])];exact zS.pa h
 | entryStore t m k x=>
  simp only[hρ m (by simp[ez]),hρ k (by simp[ez]),hρ x (by simp[ez])];obtain⟨v,w',hr,hk⟩:=h;simp only[Sem.run_bind,Sem.run_pure]at hr;cases hm:(Instr.entryStore t (ev m) (ev k) (ev x)).run P w with
  | ok u w2=>rw[hm]at hr;cases hr;exact .inr (.inl ⟨w',by simp[hm],hk⟩)
  | halt e w2=>rw[hm]at hr;cases hr
 | makeMap t r=>
  cases r with
  | none=>exact .inl ⟨_,_,rfl,h⟩
  | some x=>cases h
 | call c=>
  obtain⟨callee,args,wQ⟩:=c;cases callee with
  | value g=>
   have ha:args.map ρ=(args.toList.map ev).toArray:=Gj args (λx hx=>hρ x (by simp[ez];right;simpa using hx));cases g with
   | func f=>
    simp only[fm]at h;split at h
    ·rename_i hf;have:=Sh hT (first:=[]) (captured:=[]) hf (by simpa using h);simp only[resolve,ha,hF f];exact this
    simp only[resolve,ha,hF f];exact cDp h
   | tmp t=>
    obtain⟨f,first,captured,hg,hf,h⟩:=h;have:=Sh hT hf h;have xF:ρ (.tmp t)=ev (.tmp t):=hρ _ (by simp[ez]);simp only[resolve,ha,xF,hg];simpa using this
   | _=>cases h
  | invoke r m=>cases h
  | builtin b=>
   have ha:args.map ρ=(args.toList.map ev).toArray:=Gj args (λx hx=>hρ x (by simpa [ez] using hx));have hb:(do let d <- resolve ρ ⟨.builtin b,args,wQ⟩ ty;invoke d.target d.args)=builtin b wQ ty (args.map λ| .const _=>true|_=>false) (args.toList.map ev).toArray:=by
    simp only[resolve,ha];rfl
   show fP P (do let d <- resolve ρ ⟨.builtin b,args,wQ⟩ ty;invoke d.target d.args) w K;rw[hb];cases b with
   | len=>
    simp only[fm]at h;split at h
    ·rename_i x t hx ht;have I3:wQ = #[t]:=by apply Array.ext';exact ht
     rw[hx];subst I3;split at h
     ·rename_i e hs;exact cz7 hs h
     ·rename_i hs;exact cz8 hs h
     exact eS.pa h
    cases h
   | min=>
    simp only[fm]at h;split at h
    ·rename_i x y hx;rw[hx];exact cBp h
    cases h
   | max=>
    simp only[fm]at h;split at h
    ·rename_i x y hx;rw[hx];exact cAv h
    cases h
   | append=>
    simp only[fm]at h;split at h
    ·rename_i x y t u hx ht;have I3:wQ = #[t,u]:=by apply Array.ext';exact ht
     rw[hx];subst I3;split at h
     ·rename_i e hs;split at h
      ·rename_i z hz;obtain⟨i,v,hi,hv,rfl⟩:=yD hz;split at h
       ·rename_i n hn;split at h
        ·rename_i e' hb hu;have nu:=beq_iff.1 hb;simp at nu;subst nu;exact RT hs hu (λk hk=>by cases hk) hi hv hn h
        ·rename_i hb hu;have nu:=beq_iff.1 hb;simp at nu;subst nu;exact RT hs hu (λk hk=>by cases hk) hi hv hn h
        ·exact zS.pa h
        cases h
       cases h
      cases h
     cases h
    cases h
   | copy=>exact h.pa
   | delete=>exact h.pa
   | cap=>exact eS.pa h
   | clear=>exact h.pa
   | _=>cases h
 | _=>cases h
end
open Go.RowKit
def df(x:Ε)(A B:Prop):Prop:=∃r,x= .bool r/\(r=true->A)/\(r=false->B)
def m_(E:Env)(x:Operand)(e:iJ):Env:=match x with
 | .tmp t=>(t,e)::E
 | _=>E
def pA(n:Nat)(E:Env)(d:Option Nat)(x:Option iJ)(K:Env->Prop):Prop:=match x with
 | some e=>K (E.put n d e)
 | none=>False
def sY(P:Program)(T:List Bool)(n:Nat)(o:Oper)(E:Env)(w:Ζ)(K:Env->Ζ->Prop):Prop:=
 match o.op with
 | .move x=>pA n E o.dst (E.ia x) λE'=>K E' w
 | .assign x=>pA n E o.dst (E.ia x) λE'=>K E' w
 | .pick c a b=>match E.ia c with
  | some .t=>pA n E o.dst (E.ia a) λE'=>K E' w
  | some .f=>pA n E o.dst (E.ia b) λE'=>K E' w
  | some (.v x)=>df x (pA n (m_ E c .t) o.dst (Env.ia (m_ E c .t) a) λE'=>K E' w) (pA n (m_ E c .f) o.dst (Env.ia (m_ E c .f) b) λE'=>K E' w)
  | some .u=>False
  | none=>False
 | op=>match E.Fv (ez op) with
  | true=>fm P T op o.type E.ev w λv w'=>K (E.put n o.dst (.v v)) w'
  | false=>False
def uB(ops:List Oper)(g:Option (Nat × Bool))(E:Env)(run skip:Env->Prop):Prop:=match g with
 | none=>run E
 | some (j,want)=>match (ops[j]?).bind (·.dst) with
  | some g=>match E.get g with
   | some .t=>(match want with|true=>run E|false=>skip E)
   | some .f=>(match want with|true=>skip E|false=>run E)
   | some (.v x)=>df x (match want with|true=>run ((g,.t)::E)|false=>skip ((g,.t)::E)) (match want with|true=>skip ((g,.f)::E)|false=>run ((g,.f)::E))
   | some .u=>skip E
   | none=>False
  | none=>False
def DZ(P:Program)(T:List Bool)(n:Nat)(ops:List Oper)(K:Env->Ζ->Prop):List Oper->Env->Ζ->Prop
 | [],E,w=>K E w
 | o::r,E,w=>uB ops o.guard E (λE'=>sY P T n o E' w λG8 w'=>DZ P T n ops K r G8 w') (λE'=>DZ P T n ops K r (E'.put n o.dst .u) w)
def jB(W:Α)(a a':Act):Prop:=∀t,t∉W->a'.tmps[t]?=a.tmps[t]?
def jB.refl(W:Α)(a:Act):jB W a a:=λ_ _=>rfl
def jB.trans{W:Α}{a b c:Act}(h:jB W a b)(k:jB W b c):jB W a c:=λt ht=>(k t ht).trans (h t ht)
def jB.mono{W W':Α}{a b:Act}(h:jB W a b)(hw:∀t∈W,t∈W'):jB W' a b:=λt ht=>h t λx=>ht (hw t x)
def jB.put(a:Act)(d:Option Nat)(v:Ε)(W:Α)(hd:∀t,d=some t->t∈W):jB W a (a.put d v):=by
 cases d with
 | none=>exact .refl _ _
 | some d=>
  intro t ht;have:d≠t:=λe=>ht (hd t (by rw[e]));simp[Act.put,Array.getElem?_setIfInBounds_ne this]
def fH.set{X:Α}{n:Nat}{E:Env}{a:Act}(h:fH X n E a){t:Nat}{e:iJ}(he:t∉X->a.tmps[t]?=some e.val):fH X n ((t,e)::E) a:=by
 refine⟨h.size,h.defers,λu e' hX hu=>?_⟩;simp only[Env.get]at hu;split at hu
 ·rename_i hb;obtain rfl:=beq_iff.1 hb;cases hu;exact he hX
 exact h.get u e' hX hu
def fH.m_{X:Α}{n:Nat}{E:Env}{a:Act}(h:fH X n E a){x:Operand}{v:Ε}{e:iJ}(hx:E.ia x=some (.v v))(hv:e.val=v):fH X n (m_ E x e) a:=by
 cases x with
 | tmp t=>exact h.set (λhX=>by rw[hv];exact h.get t _ hX hx)
 | const v=>exact h
 | global g=>exact h
 | func f=>exact h
def BM{X:Α}{n:Nat}{E:Env}{d:Option Nat}{x:Operand}{K:Env->Prop}(h:pA n E d (E.ia x) K){a:Act}(hA:fH X n E a)(hX:wJ X x):∃E',fH X n E' (a.put d (a.eval x))/\K E':=by
 unfold pA at h;split at h
 ·rename_i e he;exact⟨_,by rw[hA.ia hX he];exact hA.put d e,h⟩
 cases h
section
variable {P:Program} {T:List Bool} {n:Nat} {X:Α}
def Y'(hT:Calls.pI P T){o:Oper}{E:Env}{w:Ζ}{K:Env->Ζ->Prop}(h:sY P T n o E w K){a:Act}(hA:fH X n E a)(hX:∀x∈ez o.op,wJ X x){next:Act->Ζ->Prop}{Q:Exit->Act->Ζ->Prop}
  (hn:∀E' v w',fH X n E' (a.put o.dst v)->K E' w'->next (a.put o.dst v) w'):o.wp P a w next Q:=by
 unfold sY at h;split at h
 ·rename_i x fj;obtain⟨E',h1,h2⟩:=BM h hA (hX x (by simp[fj,ez]));refine fP.upon (K:=λv w'=>∃E',fH X n E' (a.put o.dst v)/\K E' w') (.inl ⟨a.eval x,w,by simp[execOp,fj],E',h1,h2⟩) ?_;rintro v w' ⟨E',h1,h2⟩;exact hn E' v w' h1 h2
 ·rename_i x fj;obtain⟨E',h1,h2⟩:=BM h hA (hX x (by simp[fj,ez]));refine fP.upon (K:=λv w'=>∃E',fH X n E' (a.put o.dst v)/\K E' w') (.inl ⟨a.eval x,w,by simp[execOp,fj],E',h1,h2⟩) ?_;rintro v w' ⟨E',h1,h2⟩;exact hn E' v w' h1 h2
 ·rename_i c x y fj;have key:∀(r:Bool),a.eval c= .bool r->(∃E',fH X n E' (a.put o.dst (if r then a.eval x else a.eval y))/\K E' w)->o.wp P a w next Q:=λr hr h=>by
   refine fP.upon (K:=λv w'=>∃E',fH X n E' (a.put o.dst v)/\K E' w') (.inl ⟨_,w,by simp[execOp,fj,hr,asBool],h⟩) ?_;rintro v w' ⟨E',h1,h2⟩;exact hn E' v w' h1 h2
  split at h
  ·rename_i hc;exact key true (hA.ia (hX c (by simp[fj,ez])) hc) (BM h hA (hX _ (by simp[fj,ez])))
  ·rename_i hc;exact key false (hA.ia (hX c (by simp[fj,ez])) hc) (BM h hA (hX _ (by simp[fj,ez])))
  ·rename_i v hc;obtain⟨r,rfl,h1,h2⟩:=h;cases r with
   | true=>
    exact key true (hA.ia (hX c (by simp[fj,ez])) hc) (BM (h1 rfl) (hA.m_ hc rfl) (hX _ (by simp[fj,ez])))
   | false=>exact key false (hA.ia (hX c (by simp[fj,ez])) hc) (BM (h2 rfl) (hA.m_ hc rfl) (hX _ (by simp[fj,ez])))
  ·cases h
  cases h
 split at h
 ·rename_i hh;refine fP.upon (Ks hT (λ_=>rfl) (λx hx=>hA.ev (hX x hx) (Env.Fw hh x hx)) h) ?_;intro v w' hk;exact hn _ v w' (hA.put o.dst (.v v)) hk
 cases h
def bWy{ops:Array Oper}{g:Option (Nat × Bool)}{o:Oper}(hg:o.guard=g){E:Env}{run skip:Env->Prop}(h:uB ops.toList g E run skip){a:Act}(hA:fH X n E a)
  (hX:∀j want s,g=some (j,want)->(ops[j]?).bind (·.dst)=some s->s∉X) :
  ∃E',fH X n E' a/\((Region.wanted o (yielded ops a.tmps)=true/\run E')\/(Region.wanted o (yielded ops a.tmps)=false/\skip E')):=by
 subst hg;unfold uB at h;split at h
 ·rename_i hg;exact⟨E,hA,.inl ⟨by simp[Region.wanted,hg],h⟩⟩
 rename_i j want hg;split at h
 ·rename_i s hs;have hw:∀b,a.tmps[s]?=some (.bool b)->Region.wanted o (yielded ops a.tmps)=(b == want):=λb hb=>by
   simp only[Region.wanted,hg,yielded];rw[show ((ops[j]?).bind (·.dst))=some s by simpa using hs];simp only[Option.bind_some,hb];cases b<;>cases want<;>rfl
  have lQ:s∉X:=hX j want s hg (by simpa using hs);split at h
  ·rename_i he;have:=hw true (hA.get _ _ lQ he);split at h
   ·exact⟨E,hA,.inl ⟨this,h⟩⟩
   exact⟨E,hA,.inr ⟨this,h⟩⟩
  ·rename_i he;have:=hw false (hA.get _ _ lQ he);split at h
   ·exact⟨E,hA,.inr ⟨this,h⟩⟩
   exact⟨E,hA,.inl ⟨this,h⟩⟩
  ·rename_i x he;obtain⟨r,rfl,h1,h2⟩:=h;have hr:=hw r (hA.get _ _ lQ he);cases r with
   | true=>
    have h1:=h1 rfl;have jj:fH X n ((s,.t)::E) a:=hA.set (λ_=>hA.get s (.v (.bool true)) lQ he);split at h1
    ·exact⟨_,jj,.inl ⟨hr,h1⟩⟩
    exact⟨_,jj,.inr ⟨hr,h1⟩⟩
   | false=>
    have h2:=h2 rfl;have jj:fH X n ((s,.f)::E) a:=hA.set (λ_=>hA.get s (.v (.bool false)) lQ he);split at h2
    ·exact⟨_,jj,.inr ⟨hr,h2⟩⟩
    exact⟨_,jj,.inl ⟨hr,h2⟩⟩
  ·rename_i he;have hb:=hA.get _ _ lQ he;refine⟨E,hA,.inr ⟨?_,h⟩⟩;simp only[Region.wanted,hg,yielded];rw[show ((ops[j]?).bind (·.dst))=some s by simpa using hs];simp only[Option.bind_some,hb];cases want<;>rfl
  cases h
 cases h
def sw(l:List Oper):Α:=l.filterMap (·.dst)
def Ky(hT:Calls.pI P T){ops:Array Oper}{K:Env->Ζ->Prop}{Q:Exit->Act->Ζ->Prop}{W:Α}{a0:Act}(hn:∀E' a' w',fH [] n E' a'->jB W a0 a'->K E' w'->Q .normal a' w'):
  ∀(l:List Oper) (E:Env) (a:Act) (w:Ζ),(∀t∈sw l,t∈W)->jB W a0 a->fH [] n E a->DZ P T n ops.toList K l E w->wpList P ops Q l a w
 | [],E,a,w,_,hk,hA,h=>hn E a w hA hk h
 | o::r,E,a,w,hW,hk,hA,h=>by
  unfold DZ at h;have hd:∀t,o.dst=some t->t∈W:=λt ht=>hW t (by simp[sw,ht]);have Fs:∀t∈sw r,t∈W:=λt ht=>hW t (by
   unfold sw at ht ⊢;rw[List.filterMap_cons];split
   ·exact ht
   exact List.mem_cons_of_mem _ ht)
  obtain⟨E',jj,⟨hw,h⟩|⟨hw,h⟩⟩:=bWy rfl h hA (λ_ _ _ _ _ h=>by cases h)
  ·unfold wpList;rw[zzd hw];refine .inl (Y' hT h jj (λx _=>.nil x) ?_);intro E2 v w' pg hK;exact Ky hT hn r E2 _ w' Fs (hk.trans (jB.put a o.dst v W hd)) pg hK
  unfold wpList;rw[zzb (by rw[hw];exact Bool.false_ne_true)];exact Ky hT hn r _ _ w Fs (hk.trans (jB.put a o.dst undef W hd)) (jj.put o.dst .u) h
end
inductive Ex where
 | normal
 | exit (id:Nat)
 | ret
def Ex.to:Ex->Exit
 | .normal=>.normal
 | .exit i=>.exit i
 | .ret=>.ret
def ux:Code->Option Nat
 | .region id _ _=>some id
 | .seq a b=>match ux a with
  | some i=>some i
  | none=>ux b
 | .cond _ a b=>match ux a with
  | some i=>some i
  | none=>ux b
 | .block _ c=>ux c
 | .loop c=>ux c
 | .scope c=>ux c
 | _=>none
def wr:Code->Α
 | .region _ ops _=>sw ops.toList
 | .seq a b=>wr a++wr b
 | .cond _ a b=>wr a++wr b
 | .block _ c=>wr c
 | .loop c=>wr c
 | .scope c=>wr c
 | _=>[]
abbrev Marks:=List (Nat × Α × Α)
def Marks.find:Marks->Option Nat->Option (Α × Α)
 | _,none=>none
 | [],_=>none
 | (k,x)::r,some i=>match Nat.beq k i with
  | true=>some x
  | false=>Marks.find r (some i)
def DQ(t:Nat):Α->Bool
 | []=>false
 | u::r=>match Nat.beq u t with
  | true=>true
  | false=>DQ t r
def CH(W:Α):Α->Bool
 | []=>true
 | l::r=>match DQ l W with
  | true=>false
  | false=>CH W r
def BA(E R:Env):Α->Env
 | []=>R
 | l::r=>match E.get l with
  | some e=>(l,e)::BA E R r
  | none=>BA E R r
def nK(E:Env):Α->Option Ξ
 | []=>some []
 | s::r=>match E.get s with
  | some e=>match nK E r with
   | some vs=>some (e.val::vs)
   | none=>none
  | none=>none
def EO(R:Env):Α->Ξ->Env
 | s::r,v::vs=>(s,.v v)::EO R r vs
 | _,_=>R
def EJ:Nat->(Ξ->Prop)->Prop
 | 0,K=>K []
 | k+1,K=>∀v:Ε,EJ k λl=>K (v::l)
def DK:Α->Nat
 | []=>0
 | _::r=>DK r+1
def Lv(o:Option Ξ)(K:Ξ->Prop):Prop:=match o with
 | some l=>K l
 | none=>False
def Zy:∀(k:Nat) (K:Ξ->Prop),EJ k K->∀l:Ξ,l.length=k->K l
 | 0,K,h,l,hl=>by rw[zzl hl];exact h
 | k+1,K,h,[],hl=>by simp at hl
 | k+1,K,h,v::l,hl=>Zy k _ (h v) l (by simpa using hl)
def J9:∀l:Α,DK l=l.length
 | []=>rfl
 | _::r=>by simp[DK,J9 r]
def Lk{E:Env}:∀{S:Α} {vs:Ξ},nK E S=some vs->vs.length=S.length
 | [],vs,h=>by simp[nK]at h;subst h;rfl
 | s::r,vs,h=>by
  simp only[nK]at h;split at h
  ·split at h
   ·rename_i B0 hv;cases h;simp[Lk hv]
   cases h
  cases h
def V9{t:Nat}:∀{l:Α},DQ t l=true↔t∈l
 | []=>by simp[DQ]
 | u::r=>by
  simp only[DQ,zz1];split
  ·rename_i h;simp[(beq_iff.1 h).symm]
  rename_i h;have dO:t≠u:=λe=>by rw[beq_iff.2 e.symm]at h;cases h
  rw[V9];simp[dO]
def y9{W:Α}:∀{L:Α},CH W L=true->∀l∈L,l∉W
 | [],_,l,hl=>by cases hl
 | x::r,h,l,hl=>by
  simp only[CH]at h;split at h
  ·cases h
  rename_i hm;rcases zz1.1 hl with rfl|hl
  ·intro kf;rw[V9.2 kf]at hm;cases hm
  exact y9 h l hl
def Gf{n:Nat}{E R:Env}{a a':Act}(hA:fH [] n E a)(hR:fH [] n R a'){W:Α}(hk:jB W a a'):∀{L:Α},(∀l∈L,l∉W)->fH [] n (BA E R L) a'
 | [],_=>hR
 | l::r,h=>by
  simp only[BA];split
  ·rename_i e he;exact (Gf hA hR hk (λx hx=>h x (List.mem_cons_of_mem _ hx))).set (λ_=>by rw[hk l (h l (by simp))];exact hA.get l e (by simp) he)
  exact Gf hA hR hk (λx hx=>h x (List.mem_cons_of_mem _ hx))
def HV{n:Nat}{E R:Env}{a:Act}(hA:fH [] n E a)(hR:fH [] n R a):∀{S:Α} {vs:Ξ},nK E S=some vs->fH [] n (EO R S vs) a
 | [],vs,h=>by simp[nK]at h;subst h;exact hR
 | s::r,vs,h=>by
  simp only[nK]at h;split at h
  ·rename_i e he;split at h
   ·rename_i B0 hv;cases h;exact (HV hA hR hv).set (λ_=>hA.get s e (by simp) he)
   cases h
  cases h
open Go.RowKit
def iw(P:Program):Op->Bool
 | .move _ | .pick .. | .build .. | .nilCheck _ | .unOp .. | .makeFunc .. | .fieldAddr .. | .indexAddr .. | .extract .. | .field .. | .index .. | .lookup .. | .slice .. | .load .. | .binOp ..=>true
 | .convert s d _=>match P.underlying s,P.underlying d with
  | some _,some (.int _)=>true
  | some .string,some .string=>true
  | some .string,some (.slice _)=>false
  | some (.slice _),some (.slice _)=>false
  | _,_=>true
 | .call c=>match c.callee with
  | .builtin .len=>true
  | .builtin .min=>true
  | .builtin .max=>true
  | .builtin .cap=>true
  | _=>false
 | _=>false
def oP(P:Program):Op->Bool
 | .field .. | .index .. | .lookup .. | .load ..=>true
 | .binOp _ t _ _ _=>match P.underlying t with
  | some (.struct _)=>true
  | _=>false
 | .convert s d _=>match P.underlying s,P.underlying d with
  | some _,some (.int _)=>false
  | some .string,some .string=>false
  | _,_=>true
 | .call c=>match c.callee with
  | .builtin .len=>match c.argTypes.toList with
   | [t]=>match P.underlying t with
    | some (.slice _)=>false
    | some .string=>false
    | _=>true
   | _=>true
  | .builtin .cap=>true
  | _=>false
 | _=>false
def sm(acc:Α):List Edge->Nat
 | []=>0
 | e::r=>match Region.binds .any e with
  | true=>sm acc r ||| 2 ^ e.on ||| acc.getD e.on 0
  | false=>sm acc r
def oC:List Oper->Α->Α
 | [],acc=>acc
 | o::r,acc=>oC r (acc++[sm acc o.after.toList])
def idxs(f:Oper->Bool):List Oper->Nat->Α
 | [],_=>[]
 | o::r,k=>match f o with
  | true=>k::idxs f r (k+1)
  | false=>idxs f r (k+1)
def pd(f:Nat->Bool):Α->Α
 | []=>[]
 | j::r=>match f j with
  | true=>j::pd f r
  | false=>pd f r
def Ab:Α->Nat
 | []=>0
 | j::r=>2 ^ j ||| Ab r
def Cv(f:Nat->Bool):Α->Bool
 | []=>false
 | j::r=>match f j with
  | true=>true
  | false=>Cv f r
def wA(a b:Nat):Bool:=Nat.beq (Nat.land a b) a
structure RS where
 ops:List Oper
 B:Α
 jL:Α
 tu:Α
 cm:Nat
def fU(P:Program)(ops:List Oper):RS:=
 let jL:=idxs (λo=>!iw P o.op) ops 0
 {ops,B:=oC ops [],jL,tu:=idxs (λo=>iw P o.op) ops 0,cm:=Ab jL}
def RS.enabled(R:RS)(done j:Nat):Bool:=wA (Nat.land (R.B.getD j 0) R.cm) done
def RS.DU(R:RS)(done j:Nat):Bool:=Cv (λc=>match Nat.testBit done c with
 | true=>Nat.testBit (R.B.getD c 0) j
 | false=>false) R.jL
def Xa(P:Program)(T:List Bool)(o:Oper)(E:Env)(w:Ζ)(R:Prop):Prop:=match o.dst with
 | some d=>match E.get d with
  | some e=>fm P T o.op o.type E.ev w λv _=>v=e.val/\R
  | none=>False
 | none=>False
def BO(P:Program)(T:List Bool)(ops:List Oper)(E:Env)(w:Ζ)(R:Prop):Α->Prop
 | []=>R
 | j::r=>match ops[j]? with
  | some o=>uB ops o.guard E (λ_=>Xa P T o E w (BO P T ops E w R r)) (λ_=>BO P T ops E w R r)
  | none=>False
def A0(P:Program)(T:List Bool)(n:Nat)(ops:List Oper)(w:Ζ)(K:Env->Prop):Α->Env->Prop
 | [],E=>K E
 | j::r,E=>match ops[j]? with
  | some o=>uB ops o.guard E (λE'=>sY P T n o E' w λG8 _=>A0 P T n ops w K r G8) (λE'=>A0 P T n ops w K r (E'.put n o.dst .u))
  | none=>False
def EK(F:Nat->Prop):Α->Prop
 | []=>False
 | [c]=>F c
 | c::r=>F c/\EK F r
def RS.go(R:RS)(P:Program)(T:List Bool)(n:Nat)(K:Env->Ζ->Prop):Nat->Nat->Nat->Env->Ζ->Prop
 | 0,_,_,_,_=>False
 | k+1,done,en,E,w=>
  BO P T R.ops E w
   (A0 P T n R.ops w (λE'=>
     match wA R.cm done with
     | true=>K E' w
     | false=>EK (λc=>match R.ops[c]? with
       | some o=>uB R.ops o.guard E' (λE2=>sY P T n o E2 w λE3 w3=>RS.go R P T n K k (done ||| 2 ^ c) (en ||| Ab (pd (λj=>R.enabled done j) R.tu)) E3 w3)
         (λE2=>RS.go R P T n K k (done ||| 2 ^ c) (en ||| Ab (pd (λj=>R.enabled done j) R.tu)) (E2.put n o.dst .u) w)
       | none=>False)
      (pd (λc=>!Nat.testBit done c && R.enabled done c) R.jL))
    (pd (λj=>!Nat.testBit en j && R.enabled done j) R.tu) E)
   (pd (λj=>Nat.testBit en j && !R.DU done j && (match R.ops[j]? with|some o=>oP P o.op|none=>false)) R.tu)
def y_{α:Type}:List α->Nat
 | []=>0
 | _::r=>y_ r+1
def Ip(P:Program)(T:List Bool)(n:Nat)(ops:List Oper)(K:Env->Ζ->Prop)(E:Env)(w:Ζ):Prop:=
 (fU P ops).go P T n K (y_ (fU P ops).jL+1) 0 0 E w
def looks(ops:List Oper)(o:Oper):Α:=
 ((ez o.op).filterMap λx=>match x with | .tmp t=>some t|_=>none)++(match o.guard with|some (j,_)=>((ops[j]?).bind (·.dst)).toList|none=>[])
def GI(P:Program)(n:Nat)(ops:List Oper)(draw:Bool):Bool:=match draw with
 | false=>true
 | true=>
  let R:=fU P ops
  (List.range ops.length).all λi=>match ops[i]? with
   | some oi=>(oi.dst.toList.all λd=>decide (d<n)) && (oi.after.toList.all λe=>!Region.binds .any e || decide (e.on<i)) &&
    (iw P oi.op == false || !((oi.dst.toList).any λd=>(looks ops oi).contains d)) &&
    (List.range ops.length).all λj=>match ops[j]? with
     | some oj=>match oj.dst with
      | some d=>i == j || ((!iw P oj.op || oi.dst != some d) &&
        (!(looks ops oi).contains d || (R.B.getD i 0).testBit j || (!iw P oj.op && (R.B.getD j 0).testBit i)))
      | none=>true
     | none=>true
   | none=>true
