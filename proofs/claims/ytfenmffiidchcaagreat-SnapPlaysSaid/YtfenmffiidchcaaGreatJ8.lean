/-
  Texts of the proof, joined: Lib3, LawS, FldS3, SegS, SegS2, R01S, R01S2, BatchE, ItemR, BatchD, BatchR, TxnM, ImgM, WalM, WalP, SrcM, WinM, WalP2, WalP3, WalP4, WalM2, FrameM, SrcP, WalP5, SrcI, SrcK, SrcT, RefFS, IdxM.
-/
import Derived.Test.YtfenmffiidchcaaGreatJ7
import Derived.ProofKit
import Derived.OpenShut
import Derived.SizedLaws
import Derived.Deep.Slices
import Derived.JoinedCond
import Derived.Test.YtfenmffiidchcaaGreatQVcM
import Derived.Test.YtfenmffiidchcaaGreatQVcF
namespace Go.Proofs.YtfenmffiidchcaaGreat
set_option linter.unusedVariables false
open Go.RowKit Go.ChangeShapes Go.WideShapes Go.ChangeAt
def Dp:lI Unit:=.plain 0 (λ_=>[]) (λ_=>rfl) (λ_ u hu=>by cases hu)
def oe{α β:Type}(S:lI α)(T:lI β):lI (α × β) where
 n:=S.n+T.n
 rd:=λw M x cs=>∃c1 c2,cs=c1++c2/\S.rd w M x.1 c1/\T.rd w M x.2 c2
 len:=λ⟨c1,c2,h,h1,h2⟩=>by rw[h,List.length_append,S.len h1,T.len h2]
 one:=λ⟨c1,c2,h,h1,h2⟩ u hu=>by
  subst h
  rcases List.mem_append.1 hu with hu|hu
  ·exact S.one h1 u hu
  ·exact T.one h2 u hu
 oY:=λ⟨c1,c2,h,h1,h2⟩ hf hM=>⟨c1,c2,h,S.oY h1 hf hM,T.oY h2 hf hM⟩
def lI.via{α β:Type}(T:lI α)(f:β->α):lI β where
 n:=T.n
 rd:=λw M y cs=>T.rd w M (f y) cs
 len:=λh=>T.len h
 one:=λh=>T.one h
 oY:=λh=>T.oY h
def Small{H:Type}(P:Program)(t:TypeId)(d:DataW H):Prop:=(d.weights P t).all (·<=reachBytes)=true
def pI{α:Type}(P:Program)(t:TypeId)(T:lI α)(ok:α->Prop):Prop:=
 P.cellsOf t=T.n/\∀{H:Type} (enc:TypeId × Value->H) (w:World) (sp:Nat->Bool) (hd:Bool) (fuel:Nat) (cs:List Value) (x:DataW H × List MemPlace),
  DataW.trod enc P w 0 sp hd fuel t cs=some x->Small P t x.1->∃a,T.rd w nU a cs/\ok a
def EZ(k:IntKind)(n:Int):Prop:=(Lit.int k n).wf=true
theorem SW{n:Int}(h:EZ .i64 n): -9223372036854775808<=n/\n<=9223372036854775807:=by
 simpa [EZ,Lit.wf,IntKind.min,IntKind.max,IntKind.signed,IntKind.bits] using h
theorem zN{P:Program}{t:TypeId}{k:IntKind}(ht:P.underlying t=some (.int k))(hc:P.cellsOf t=1):pI P t (rA k) (EZ k):=
 ⟨hc,λenc w sp hd fuel cs x h _=>by
  obtain⟨n,rfl,rfl,hw⟩:=DataW.trod_int ht h
  exact⟨n,rfl,hw⟩⟩
theorem QE{P:Program}{t:TypeId}(ht:P.underlying t=some .bool)(hc:P.cellsOf t=1):pI P t U9 (λ_=>True):=
 ⟨hc,λenc w sp hd fuel cs x h _=>by
  obtain⟨n,rfl,rfl⟩:=DataW.trod_bool ht h
  exact⟨n,rfl,trivial⟩⟩
def bR7(s:ByteArray):Prop:=s.size<=140737488351232
theorem YK{P:Program}{t:TypeId}(ht:P.underlying t=some .string)(hc:P.cellsOf t=1):pI P t Dn bR7:=
 ⟨hc,λenc w sp hd fuel cs x h hs=>by
  obtain⟨n,rfl,rfl,hw⟩:=DataW.trod_string ht h
  refine⟨n,rfl,?_⟩
  simp[Small,DataW.weights,reachBytes]at hs
  exact (of_decide_eq_true hs:n.size<=140737488351232)⟩
def bR6{α:Type}(b:Nat)(ok:α->Prop)(xs:List α):Prop:=xs.length*b<=140737488351232/\∀x∈xs,ok x
theorem Vu{H:Type}{P:Program}{e:TypeId}{n:Nat}:∀{l:List (DataW H)},(DataW.weightsAll P e l).all (·<=n)=true->∀d∈l,(d.weights P e).all (·<=n)=true
 | [],_,_,h=>by cases h
 | x::r,h,d,hd=>by
  simp only[DataW.weightsAll,List.all_append,Bool.and_eq_true]at h
  rcases List.mem_cons.1 hd with rfl|hd
  ·exact h.1
  ·exact Vu h.2 d hd
theorem Pk{α:Type}{p:Nat->α->Prop}:∀(n:Nat),(∀i,i<n->∃y,p i y)->∃ys:List α,ys.length=n/\∀i (h:i<ys.length),p i ys[i]
 | 0,_=>⟨[],rfl,λi h=>by simp at h⟩
 | n+1,h=>by
  obtain⟨ys,hl,hy⟩:=Pk n (λi hi=>h i (by omega))
  obtain⟨y,hy'⟩:=h n (by omega)
  refine⟨ys++[y],by simp[hl],λi hi=>?_⟩
  by_cases iZ:i<ys.length
  ·rw[List.getElem_append_left iZ];exact hy i iZ
  ·have:i=n:=by simp at hi;omega
   subst this
   rw[List.getElem_append_right (by omega)]
   simpa [hl] using hy'
theorem T4{α:Type}{P:Program}{t e:TypeId}{T:lI α}{ok:α->Prop}{b:Nat}(h:pI P e T ok)(ht:P.underlying t=some (.slice e))(hc:P.cellsOf t=1)(hb:P.bytesOf e=b)(A1:0<T.n):pI P t (Ji T) (bR6 b ok):=by
 refine⟨hc,λenc w sp hd fuel cs x hx hs=>?_⟩
 rcases Go.Deep.open_slice ht hx with ⟨rfl,rfl⟩|⟨a,len,cap,m,n,D,Pl,rfl,_,hl,hm,HB,rfl,q_⟩
 ·exact⟨[],⟨_,rfl,ph.nil T w nU⟩,by simp,λx hx=>by cases hx⟩
 ·have hle:len<=m:=by rw[HB];split<;>omega
  simp only[Small,DataW.weights,ht,hb,List.all_cons,List.all_append,Bool.and_eq_true,decide_eq_true_eq,List.length_map,List.length_range]at hs
  have aR7:∀i,i<len->∃y:α,ok y/\∃sw,T.rd w nU y sw/\At w nU a.block (a.off+i*T.n) sw/\a=⟨a.block,a.off,none⟩:=λi hi=>by
   obtain⟨sw,h1,h2⟩:=q_ i (by omega)
   obtain⟨y,hy,cR⟩:=h.2 enc w sp hd n sw _ h2 (Vu hs.2.1 _ (List.mem_map.2 ⟨i,by simpa using hi,rfl⟩))
   obtain⟨_,hlen,oT⟩:=World.cells?_some h1
   have t_:a.spot=none:=by
    have h0:=oT 0 (by rw[h.1];exact A1)
    rw[List.getElem?_eq_getElem (by rw[hlen,h.1];exact A1)]at h0
    cases t_:a.spot with
    | none=>rfl
    | some q=>
     exfalso
     by_cases AT:i*P.cellsOf e=0
     ·simp[Addr.add,AT,World.cell?,t_]at h0
      split at h0<;>cases h0
     ·have G2:=q_ 0 (by omega)
      obtain⟨cs0,uK,_⟩:=G2
      obtain⟨_,Hr,aRt⟩:=World.cells?_some uK
      have Eb:=aRt 0 (by rw[h.1];exact A1)
      rw[List.getElem?_eq_getElem (by rw[Hr,h.1];exact A1)]at Eb
      simp[Addr.add,World.cell?,t_]at Eb
      split at Eb<;>cases Eb
   obtain⟨ab,ao,asp⟩:=a
   simp only at t_
   subst t_
   refine⟨y,cR,sw,hy,⟨λ_ x=>x,λj u hu=>?_⟩,rfl⟩
   have hj:=(List.getElem?_eq_some_iff.1 hu).1
   have:=oT j (by omega)
   rw[Addr.add_lit,Addr.add_lit,hu,h.1]at this
   exact this
  obtain⟨ys,sH,hy⟩:=Pk len aR7
  subst sH
  refine⟨ys,⟨_,rfl,some a,cap,rfl,hl,λi hi=>?_⟩,?_,λx hx=>?_⟩
  ·obtain⟨_,sw,h1,h2,h3⟩:=hy i hi
   exact⟨a.block,a.off,sw,congrArg some h3,h1,h2⟩
  ·have:=hs.1
   simp only[reachBytes]at this
   rw[Nat.add_mul]at this
   omega
  ·obtain⟨i,hi,rfl⟩:=List.getElem_of_mem hx
   exact (hy i hi).1
def Dw{α:Type}(P:Program)(fs:List Field)(o:Nat)(T:lI α)(ok:α->Prop):Prop:=
 ∀{H:Type} (enc:TypeId × Value->H) (w:World) (sp:Nat->Bool) (hd:Bool) (n:Nat) (cs:List Value) (xs:List (DataW H × List MemPlace)),xs.length=fs.length ->
  (∀(i:Nat) (f:Field),fs[i]?=some f->DataW.trod enc P w 0 sp hd n f.type ((cs.drop f.offset).take (P.cellsOf f.type))=xs[i]?) ->
  (DataW.weightsEach P (fs.map (·.type)) (xs.map (·.1))).all (·<=reachBytes)=true->cs.length=o+T.n->∃a,T.rd w nU a (cs.drop o)/\ok a
theorem GM(P:Program)(o:Nat):Dw P [] o Dp (λ_=>True):=λenc w sp hd n cs xs _ _ _ hl=>⟨(),by
 show cs.drop o=[]
 rw[List.drop_eq_nil_iff];have:Dp.n=0:=rfl;omega,trivial⟩
theorem oR{α β:Type}{P:Program}{f:Field}{fs:List Field}{o:Nat}{S:lI α}{T:lI β}{TU:α->Prop}{TV:β->Prop}(h1:pI P f.type S TU)(ho:f.offset=o)(h2:Dw P fs (o+S.n) T TV):
  Dw P (f::fs) o (oe S T) (λx=>TU x.1/\TV x.2):=λenc w sp hd n cs xs hl hx hs hc=>by
 match xs,hl with
 | y::ys,hl=>
  have Er:(oe S T).n=S.n+T.n:=rfl
  simp only[List.map_cons,DataW.weightsEach,List.all_append,Bool.and_eq_true]at hs
  have e0:=hx 0 f rfl
  rw[ho,h1.1]at e0
  obtain⟨a,ha,a_a⟩:=h1.2 enc w sp hd n _ y e0 hs.1
  obtain⟨b,hb,a_b⟩:=h2 enc w sp hd n cs ys (by simpa using hl) (λi g hg=>by simpa using hx (i+1) g (by simpa using hg)) hs.2 (by omega)
  refine⟨(a,b),⟨_,_,?_,ha,hb⟩,a_a,a_b⟩
  rw[<- List.drop_drop]
  exact (List.take_append_drop _ _).symm
theorem yW{α:Type}{P:Program}{t:TypeId}{fs:Array Field}{T:lI α}{ok:α->Prop}(ht:P.underlying t=some (.struct fs))(hc:P.cellsOf t=T.n)(h:Dw P fs.toList 0 T ok):pI P t T ok:=
 ⟨hc,λenc w sp hd fuel cs x hx hs=>by
  obtain⟨xs,n,_,rfl,hl,hlen,hf⟩:=DataW.trod_struct ht hx
  simp only[Small,DataW.weights,ht]at hs
  obtain⟨a,ha,cR⟩:=h enc w sp hd n cs xs (by simpa using hlen) (λi f hi=>hf i f (by simpa using hi)) hs (by omega)
  exact⟨a,by simpa using ha,cR⟩⟩
theorem ZD{α β:Type}{P:Program}{t:TypeId}{T:lI α}{ok:α->Prop}(f:β->α)(g:α->β)(hg:∀a,f (g a)=a)(h:pI P t T ok):pI P t (T.via f) (λb=>ok (f b)):=
 ⟨h.1,λenc w sp hd fuel cs x hx hs=>by
  obtain⟨a,ha,cR⟩:=h.2 enc w sp hd fuel cs x hx hs
  exact⟨g a,by show T.rd w nU (f (g a)) cs;rw[hg];exact ha,by show ok (f (g a));rw[hg];exact cR⟩⟩
theorem Z9{α:Type}{P:Program}{t:TypeId}{T:lI α}{ok TT:α->Prop}(h:pI P t T ok)(hi:∀a,ok a->TT a):pI P t T TT:=
 ⟨h.1,λenc w sp hd fuel cs x hx hs=>let ⟨a,ha,cR⟩:=h.2 enc w sp hd fuel cs x hx hs;⟨a,ha,hi a cR⟩⟩
theorem Vj{H:Type}{enc:TypeId × Value->H}{P:Program}(hl:laidOutB P=true){W W':World}(hb:Below W.heap.size W W'):∀{ts:List TypeId} {vs:List Value} {ds:List (DataW H)} {ps:List MemPlace},
  (∀t∈ts,P.readableRec t=true/\t<P.types.size)->DataW.TrodAll enc P W 0 (λ_=>true) true ts vs ds ps->(∀x∈ps,x.block<W.heap.size)->DataW.TrodAll enc P W' 0 (λb=>decide (b<W.heap.size)) true ts vs ds ps
 | [],_,_,_,_,h,_=>by
  obtain⟨rfl,rfl,rfl⟩:=trodAll_nil h
  exact trodAll_mk0
 | t::ts,_,_,_,hr,h,iZ=>by
  obtain⟨v,vs1,d,XN,a,b,rfl,rfl,rfl,h1,h2⟩:=trodAll_cons h
  exact⟨a,b,Below.trod hl (hr t (by simp)).1 (hr t (by simp)).2 h1 hb (λx hx=>iZ x (by simp[hx])),Vj hl hb (λt ht=>hr t (by simp[ht])) h2 (λx hx=>iZ x (by simp[hx])),rfl⟩
theorem eF6{H:Type}{enc:TypeId × Value->H}{P:Program}{f:Func}{s:ChangeSpec}{tb:TypeId}(hl:laidOutB P=true)(hr:∀t∈f.params.toList,P.readableRec t=true/\t<P.types.size)
  (SB:s.vars=[]) (a_j:f.resultTypes = #[tb]) (hb:P.underlying tb=some .bool) (hfn:∀ds:List (DataW H),ds.length=f.params.size->(s.fn H ds).results=[.lit (.bool true)]/\(s.fn H ds).args=ds/\(s.fn H ds).vars=[])
  {W W':World} {args:Array Value} {ds gs:List (DataW H)} {before:List MemPlace} (hW:DataW.Whole enc P f.params.toList s.vars false W args.toList ds gs before) (RP:Below W.heap.size W W') :
  s.post enc P f false true false false W args (.bool true) W':=by
 have iZ:=hW.lt
 have Ej:=hW
 obtain⟨p,q,hA,hV,rfl,hfz,_⟩:=hW
 rw[SB]at hV
 obtain⟨rfl,rfl⟩:=trodVars_none hV
 have hlen:∀{ts:List TypeId} {vs:List Value} {ds:List (DataW H)} {ps:List MemPlace} {w:World} {base:Nat} {sp:Nat->Bool} {hd:Bool},DataW.TrodAll enc P w base sp hd ts vs ds ps->ds.length=ts.length:=by
  intro ts
  induction ts with
  | nil=>intro vs ds ps w base sp hd h;obtain⟨rfl,rfl,rfl⟩:=trodAll_nil h;rfl
  | cons t ts ih=>intro vs ds ps w base sp hd h;obtain⟨v,vs1,d,XN,a,b,rfl,rfl,rfl,_,h2⟩:=trodAll_cons h;simp[ih h2]
 obtain⟨e1,e2,e3⟩:=hfn ds (by simpa using hlen hA)
 refine⟨ds,[],p++[],[],p,[],Ej,?_,?_,?_,RP.frame _,λh=>by cases h⟩
 ·rw[List.append_nil,e1,a_j]
  exact trodAll_mk1 (shut_bool hb true)
 ·rw[List.append_nil,e2]
  exact Vj hl RP hr hA (λx hx=>iZ x (by simp[hx]))
 ·rw[List.append_nil,e3,SB]
  rfl
def S5:Option TypeDesc->Bool
 | some .bool|some (.int _)|some .string|some (.slice _)=>true
 | _=>false
theorem aip{P:Program}{w:World}{r:Reach}{b0:Nat}{t:TypeId}{v:Value}(hf:S5 (P.underlying t)=true)(pA:Value.okWide P w r b0 t v):v.cells.toList=[v]:=by
 unfold Value.okWide at pA
 cases hu:P.underlying t with
 | none=>rw[hu]at hf;cases hf
 | some d=>
  rw[hu]at hf pA
  cases d<;>first|(cases hf;done)|(unfold Cell.okWide Cell.ok at pA;rw[hu]at pA;cases v<;>first|rfl|(exfalso;simp_all))
theorem d_i{α:Type}{P:Program}{t:TypeId}{T:lI α}{ok:α->Prop}{H:Type}{enc:TypeId × Value->H}{W:World}{r:Reach}{b0:Nat}{v:Value}{d:DataW H}{ps:List MemPlace}{sp:Nat->Bool}{hd:Bool}
  (h:pI P t T ok) (hf:S5 (P.underlying t)=true) (pA:Value.okWide P W r b0 t v) (h0:DataW.Trod enc P W 0 sp hd t v d ps) (hs:Small P t d):∃a,T.rd W nU a [v]/\ok a:=by
 obtain⟨fuel,hx⟩:=h0
 rw[aip hf pA]at hx
 exact h.2 enc W sp hd fuel [v] _ hx hs
theorem d_h{α:Type}{P:Program}{t:TypeId}{fs:Array Field}{T:lI α}{ok:α->Prop}{H:Type}{enc:TypeId × Value->H}{W:World}{r:Reach}{b0:Nat}{v:Value}{d:DataW H}{ps:List MemPlace}{sp:Nat->Bool}{hd:Bool}
  (h:pI P t T ok) (ht:P.underlying t=some (.struct fs)) (pA:Value.okWide P W r b0 t v) (h0:DataW.Trod enc P W 0 sp hd t v d ps) (hs:Small P t d):∃a cs,v= .agg cs/\T.rd W nU a cs.toList/\ok a:=by
 obtain⟨fuel,hx⟩:=h0
 unfold Value.okWide at pA
 rw[ht]at pA
 obtain⟨cs,rfl,_⟩:=pA
 obtain⟨a,h1,h2⟩:=h.2 enc W sp hd fuel _ _ hx hs
 exact⟨a,cs,rfl,h1,h2⟩
open Go.RowKit
def FR(P:Program)(f:FuncId)(args:List Value)(w:World):Prop:=zV P f args w λv w'=>v= .bool true/\Below w.heap.size w w'
theorem qB{P:Program}{f:FuncId}{args:List Value}{w:World}(h:Spec P f args [.mem (bw.of w)] λv post=>v= .bool true/\∃H l,(bw.of w).le H/\post= .mem H::l):FR P f args w:=by
 refine (h w [] w (SL.init w)).mono ?_
 rintro v w' ⟨post,⟨rfl,H,l,hH,rfl⟩,hS⟩
 exact⟨rfl,hS.below (.hd) hH⟩
theorem FR.calls{P:Program}{f:FuncId}{args:List Value}{w:World}(h:FR P f args w):Calls P f args.toArray w λe w'=>e= .returned (.bool true)/\Below w.heap.size w w':=
 Calls.mono h λe w' ⟨v,he,hv,hb⟩=>⟨by rw[he,hv],hb⟩
theorem ph.flat{α:Type}{T:lI α}{enc:α->List Value}{w:World}{xs:List α}{v:Value}(h:ph T w nU xs v)(he:∀{M x cs},T.rd w M x cs->cs=enc x)(hn:∀x,(enc x).length=T.n):
  fW (bw.of w) T.n v xs.length (xs.map enc).flatten:=by
 obtain⟨a,cap,rfl,hc,hx⟩:=h.out
 have hlen:(xs.map enc).flatten.length=xs.length*T.n:=by
  rw[GV (n:=T.n) _ (λx hx=>by obtain⟨y,_,rfl⟩:=List.mem_map.1 hx;exact hn y),List.length_map]
 refine⟨hlen,a,cap,rfl,hc,?_⟩
 rcases Nat.eq_zero_or_pos xs.length with h0|h0
 ·exact .inl h0
 ·right
  obtain⟨b,off,_,rfl,_,_⟩:=hx 0 h0
  refine⟨b,off,rfl,λj u hu=>?_⟩
  have hj:=(List.getElem?_eq_some_iff.1 hu).1
  rcases Nat.eq_zero_or_pos T.n with hz|hz
  ·rw[hlen,hz]at hj;omega
  have hi:j / T.n<xs.length:=by rw[hlen]at hj;exact (Nat.div_lt_iff_lt_mul hz).2 hj
  obtain⟨b',bR2,cs,vv,hr,kM⟩:=hx (j / T.n) hi
  simp at vv
  obtain⟨rfl,rfl⟩:=vv
  have pN:=he hr
  subst pN
  have xQ:j % T.n<(enc xs[j / T.n]).length:=by rw[hn];exact Nat.mod_lt _ hz
  have hg:=D' (n:=T.n) (xs.map enc) (λx hx=>by obtain⟨y,_,rfl⟩:=List.mem_map.1 hx;exact hn y) (j / T.n) (j % T.n) (by simpa using hi) ((enc xs[j / T.n])[j % T.n]'xQ) (by simp[List.getElem?_eq_getElem xQ])
  have Hg:j / T.n*T.n+j % T.n=j:=by rw[Nat.mul_comm];exact Nat.div_add_mod j T.n
  rw[Hg]at hg
  rw[hu]at hg
  have A6:u=(enc xs[j / T.n])[j % T.n]:=Option.some.inj hg
  have:=kM.2 (j % T.n) u (by rw[A6];exact List.getElem?_eq_getElem xQ)
  rw[show off+j / T.n*T.n+j % T.n=off+j by omega]at this
  unfold World.cell? at this
  unfold bw.cell bw.of
  simp only at this ⊢
  split at this
  ·rename_i c t f q';rw[q'];simpa using this
  ·cases this
theorem xw{α:Type}{enc:α->List Value}{n:Nat}{xs:List α}(hn:∀x,(enc x).length=n){j i:Nat}(hj:j<xs.length){u:Value}(hu:(enc xs[j])[i]?=some u):((xs.map enc).flatten)[j*n+i]?=some u:=
 D' (n:=n) (xs.map enc) (λx hx=>by obtain⟨y,_,rfl⟩:=List.mem_map.1 hx;exact hn y) j i (by simpa using hj) u (by simpa using hu)
set_option maxRecDepth 100000
structure rG(X:Chunk)(sz:Nat)(v:Value)(n:Nat)(cs:List Value):Prop where
 sl:∀{W w:World} {l:List Chunk},SL W l w->Has X l->∃a c,v= .slice a n c/\n<=c
 src:∀{W w:World} {l:List Chunk},SL W l w->Has X l->m8 w sz v n cs
theorem rG.own{v:Value}{t:TypeId}{sz n:Nat}{cs:List Value}:rG (.ob (bI v t sz n cs)) sz v n cs:=
 ⟨λh m=>by
  obtain⟨l2,r⟩:=m.rem
  rcases bI.open (h.perm r.perm) with ⟨⟨a',rfl⟩,rfl,_,_⟩|⟨b',vk,rest,rfl,hc,_⟩
  ·exact⟨a',0,rfl,Nat.le_refl _⟩
  ·exact⟨_,_,rfl,hc⟩,λh m=>rz h m⟩
theorem rG.pt{p n sz:Nat}{t:TypeId}{cs:List Value}(h:cs.length=n*sz):rG (.pt p cs t) sz (.slice (some ⟨p,0,none⟩) n n) n cs:=
 ⟨λ_ _=>⟨_,_,rfl,Nat.le_refl _⟩,λhS m=>lX hS m h⟩
section
variable {W w:World} {l:List Chunk} {X:Chunk} {v:Value} {sz n:Nat} {cs:List Value}
theorem ZI{K:Value->Prop}(hS:SL W l w)(m:Has X l)(hb:rG X sz v n cs)(k:K (.int .i64 n)):zd v K:=by
 obtain⟨a,c,rfl,_⟩:=hb.sl hS m
 exact yo k
theorem Qk{α:Type}{enc:α->List Value}{xs:List α}{j:Nat}{kk:IntKind}{K:Value->Prop}(hS:SL W l w)(m:Has X l)(hb:rG X sz v n (xs.map enc).flatten)(he:∀x,(enc x).length=sz)(nM:0<sz)(hx:xs.length=n)(hj:j<n)
  (hK:K (.agg (enc (xs[j]'(by omega))).toArray)):ze sz v (.int kk (j:Int)) λp=>zh sz p w K:=by
 obtain⟨a,c,rfl,hc⟩:=hb.sl hS m
 have hs:=hb.src hS m
 have hlen:(xs.map enc).flatten.length=n*sz:=by
  rw[<- hx];clear hx hs hb hK hj hc
  induction xs with
  | nil=>simp
  | cons x xs ih=>simp[he,ih,Nat.add_mul];omega
 cases a with
 | none=>
  have e:(xs.map enc).flatten=[]:=hs.2
  have e2:(enc (xs[j]'(by omega))).length=0:=by
   rw[e]at hlen
   simp only[List.length_nil]at hlen
   rw[he]
   rcases Nat.eq_zero_or_pos sz with h|h
   ·exact h
   ·have:0<n*sz:=Nat.mul_pos (by omega) h
    omega
  rw[he]at e2;omega
 | some p=>
  refine⟨p,_,c,kk,j,rfl,rfl,hj,?_⟩
  refine⟨_,enc (xs[j]'(by omega)),rfl,he _,λi u hu=>?_,hK⟩
  rw[F4]
  refine hs.2.2 (j*sz+i) u ?_
  exact xw he (by omega) hu
end
def sf(X:Chunk)(l:List ie)(u:Value)(post:List Chunk):Prop:=match po l with
 | .error e=>u= .tuple #[.slice none 0 0,.int .i64 e]/\post=[X]
 | .ok b=>∃v,u= .tuple #[v,.int .i64 0]/\post=[.ob (bI v 5 1 b.length (b.map fI)),X]
theorem sf.er{X:Chunk}{l:List ie}{e:Int}(h:po l= .error e):sf X l (.tuple #[.slice none 0 0,.int .i64 e]) [X]:=by
 unfold sf;rw[h];exact⟨rfl,rfl⟩
theorem sf.ok{X:Chunk}{l:List ie}{b:List UInt8}(h:po l= .ok b)(v:Value):sf X l (.tuple #[v,.int .i64 0]) [.ob (bI v 5 1 b.length (b.map fI)),X]:=by
 unfold sf;rw[h];exact⟨v,rfl,rfl⟩
theorem XS{x:ie}(h:nm x=true):(jL x).length<=5000:=by
 unfold jL
 unfold nm at h
 by_cases h1:x.kind=1
 ·rw[if_pos h1];simp[mE]
 ·rw[if_neg h1]at h ⊢
  by_cases h2:x.kind=2
  ·rw[if_pos h2]at h
   have h3:x.s.size<=4096:=by
    rw[Bool.and_eq_true]at h
    exact of_decide_eq_true h.2
   have:x.s.data.toList.length=x.s.size:=rfl
   simp only[List.length_cons,List.length_append,mE];omega
  ·rw[if_neg h2]at h;cases h
theorem GH:∀{l:List ie},l.all nm=true->(l.map jL).flatten.length<=l.length*5000
 | [],_=>by simp
 | x::l,h=>by
  rw[List.all_cons,Bool.and_eq_true]at h
  have h1:=XS h.1
  have h2:=GH h.2
  simp only[List.map_cons,List.flatten_cons,List.length_append,List.length_cons];omega
theorem ZL(X:Chunk)(v:Value)(xs:List ie)(hx:rG X 3 v xs.length (xs.map iR).flatten)(hN:xs.length<=140737488355328):SP 228 [v] [X] (sf X xs):=by
 intro W F w hS;apply c_7;delta LY aF a_ aW dW ai dw bR;(try simp only[app]at hS)
 refine ZI hS .hd hx ?_
 refine b9 (λh=>?_) (λh=>?_)
 ·exact⟨_,.er (by unfold po;rw[if_pos (by omega)]),hS⟩
 ·refine ZI hS .hd hx ?_
  refine zO ?_
  rw[wrap_u64 (by omega) (by omega)]
  have hS:=bI.nil (t:=5) (sz:=1) hS
  have hS:SL W (.ob (bI (.slice none 0 0) 5 1 ([]:List UInt8).length (([]:List UInt8).map fI))::X::F) w:=hS
  refine Cc (ZB [] (.slice none 0 0) xs.length 2 (by omega) (by simp)) ?_;clear hS
  rintro wY post rfl w hS;(try simp only[app]at hS)
  rw[List.nil_append]at hS
  refine ZI hS Xh hx ?_
  have hb:∀i,i<=xs.length->(xs.take i).all nm=true->(iI xs.length 2++((xs.take i).map jL).flatten).length<=200000000:=λi hi ha=>by
   have:=GH ha
   rw[List.length_append,mE]
   rw[List.length_take]at this
   omega
  refine⟨λvs w=>∃(i:Nat) (u:Value),i<=xs.length/\vs=[u,.int .i64 i]/\(xs.take i).all nm=true/\SL W (.ob (bI u 5 1 (iI xs.length 2++((xs.take i).map jL).flatten).length ((iI xs.length 2++((xs.take i).map jL).flatten).map fI))::X::F) w,λvs _=>match vs with
   | [_,.int _ i]=>xs.length-i.toNat
   | _=>0,⟨0,wY,by omega,rfl,rfl,(by simpa using hS)⟩,?_⟩
  clear hS
  rintro u1 u2 w1 ⟨i,u,hi,hv,ha,hS⟩
  cases hv
  have hbi:=hb i hi ha
  refine b9 (λh=>?_) (λh=>?_)
  ·have hi:i<xs.length:=by omega
   refine Qk hS Xh hx p7 (by omega) rfl hi ?_
   have CZ:xs[i]∈xs:=List.getElem_mem hi
   have ri:xs.take (i+1)=xs.take i++[xs[i]]:=by rw[List.take_add_one];simp[hi]
   generalize xs[i]=x at *
   unfold iR
   refine Gm λb w hS=>?_
   refine Cc (qQ x) ?_;clear hS
   rintro v post ⟨rfl,rfl⟩ w hS;(try simp only[app]at hS)
   refine zQ ?_
   cases hr:nm x with
   | false=>
    refine zw ?_
    refine⟨[X],.er ?_,aR hS⟩
    unfold po
    rw[if_neg (by omega),if_neg]
    intro h
    have:=List.all_eq_true.1 h x CZ
    rw[hr]at this;cases this
   | true=>
    refine zt ?_
    have vu:(xs.take (i+1)).all nm=true:=by rw[ri,List.all_append,ha];simp[hr]
    have pM:=hb (i+1) (by omega) vu
    have px:((xs.take (i+1)).map jL).flatten=((xs.take i).map jL).flatten++jL x:=by rw[ri];simp
    rw[px]at pM
    rw[List.length_append,List.length_append]at pM
    have hk:x.kind=1\/x.kind=2:=by
     unfold nm at hr
     by_cases h1:x.kind=1
     ·exact .inl h1
     ·rw[if_neg h1]at hr
      by_cases h2:x.kind=2
      ·exact .inr h2
      ·rw[if_neg h2]at hr;cases hr
    generalize hc:iI xs.length 2++((xs.take i).map jL).flatten=c at *
    have kN:c.length+(jL x).length<=200000000:=by rw[<- hc,List.length_append];omega
    refine Gp ?_
    refine zO ?_
    rw[wrap_u8]
    refine zD (cells:=[fI (j9 x.kind)]) hS rfl ?_
    clear hS;intro p w hS
    refine zy (m:=1) (cs:=[fI (j9 x.kind)]) hS Xr (lX hS .hd rfl) rfl rfl (by intro v hv;simp only[List.mem_singleton]at hv;subst hv;rfl) (by omega) (by omega) ?_
    clear hS;intro u' w hS
    refine Gp ?_
    have hS:SL W (.ob (bI u' 5 1 (c++[j9 x.kind]).length ((c++[j9 x.kind]).map fI))::.pt b [.int .i64 x.kind,.int .i64 x.n,.string x.s] 174::X::F) w:=by
     simp only[List.length_append,List.length_cons,List.length_nil,List.map_append,List.map_cons,List.map_nil]
     exact aR hS
    refine za (λh1=>?_) (λh1=>?_)
    ·refine Gp ?_
     refine zO ?_
     have eu:IntKind.u64.wrap x.n=r_ x.n:=rfl
     rw[eu]
     refine Cc (ZB (c++[j9 x.kind]) u' (r_ x.n) 8 (by omega) (by simp;omega)) ?_;clear hS
     rintro v36 post rfl w hS;(try simp only[app]at hS);refine Gp ?_
     refine⟨⟨i+1,v36,by omega,rfl,vu,?_⟩,?_⟩
     ·have e:iI xs.length 2++((xs.take (i+1)).map jL).flatten=c++[j9 x.kind]++iI (r_ x.n) 8:=by
       rw[px,<- List.append_assoc,hc]
       have:jL x=j9 x.kind::iI (r_ x.n) 8:=by unfold jL;rw[if_pos h1]
       rw[this];simp
      rw[e]
      exact aR hS
     ·simp only[Int.toNat_natCast];omega
    ·have nM:x.s.size<=4096:=by
      unfold nm at hr
      rw[if_neg h1,if_pos (by omega),Bool.and_eq_true]at hr
      exact of_decide_eq_true hr.2
     have Cn:jL x=j9 x.kind::(iI x.s.size 2++x.s.data.toList):=by unfold jL;rw[if_neg h1]
     refine Gn λw hS=>?_
     refine zO ?_
     rw[wrap_u64 (by omega) (by omega)]
     refine Gp ?_
     refine Cc (ZB (c++[j9 x.kind]) u' x.s.size 2 (by omega) (by simp;omega)) ?_;clear hS
     rintro v42 post rfl w hS;(try simp only[app]at hS);refine Gp ?_
     have A4:x.s.data.toList.length=x.s.size:=rfl
     have q_:(jL x).length=1+(2+x.s.size):=by rw[Cn];simp only[List.length_cons,List.length_append,mE];omega
     refine zy (m:=x.s.size) (cs:=x.s.data.toList.map fI) hS Xr U3 (by simp) rfl (nE _) (by simp only[List.length_append,List.length_cons,List.length_nil,mE];omega) (by simp only[List.length_append,List.length_cons,List.length_nil,mE];omega) ?_
     clear hS;intro v45 w hS
     refine Gp ?_
     refine⟨⟨i+1,v45,by omega,rfl,vu,?_⟩,?_⟩
     ·have e:iI xs.length 2++((xs.take (i+1)).map jL).flatten=(c++[j9 x.kind]++iI x.s.size 2)++x.s.data.toList:=by
       rw[px,<- List.append_assoc,hc,Cn];simp
      rw[e]
      generalize c++[j9 x.kind]++iI x.s.size 2=A at *
      rw[List.length_append,List.map_append,A4]
      exact aR hS
     ·simp only[Int.toNat_natCast];omega
  ·obtain rfl:i=xs.length:=by omega
   rw[List.take_length]at hS ha
   exact⟨_,.ok (by unfold po;rw[if_neg (by omega),if_pos ha]) u1,hS⟩
abbrev oL:=Value × List UInt8
def jN(x:oL):zE:=bI x.1 5 1 x.2.length (x.2.map fI)
def jB(es:List oL):List Value:=es.map Prod.fst
def nH(es:List oL):List (List UInt8):=es.map Prod.snd
def JY(X:Chunk)(q:List UInt8)(r:Value)(post:List Chunk):Prop:=∃(u:Value) (es:List oL),nH es=(lN q).1/\r= .tuple #[u,.int .i64 ((lN q).2:Nat)]/\post=[.ob (bI u 62 1 es.length (jB es)),.ob (zi jN es),X]
theorem cwq(X:Chunk)(v:Value)(q:List UInt8)(hq:ix X v q)(hN:q.length<=10000000000):SP 279 [v] [X] (JY X q):=by
 intro W F w hS;apply dFj;delta MN aF ai bR;(try simp only[app]at hS)
 have hS:=bI.nil (t:=62) (sz:=1) (zi.nil (A:=jN) hS)
 refine⟨λvs w=>∃(u:Value) (es:List oL) (at_:Nat),vs=[u,.int .i64 at_]/\at_<=q.length/\es.length*8<=at_/\nH es++(lN (q.drop at_)).1=(lN q).1/\at_+(lN (q.drop at_)).2=(lN q).2 /\
   SL W (.ob (bI u 62 1 es.length (jB es))::.ob (zi jN es)::X::F) w,λvs _=>match vs with
  | [_,.int _ i]=>q.length-i.toNat
  | _=>0,⟨_,[],0,rfl,Nat.zero_le _,Nat.le_refl _,rfl,by simp,hS⟩,?_⟩
 clear hS
 rintro u1 u2 w1 ⟨u,es,i,hv,hi,h8,h1,h2,hS⟩
 cases hv
 refine qj hS Xh hq hi ?_
 intro nS f'
 refine Cc (YU X nS (q.drop i) f' (by rw[List.length_drop];omega)) ?_;clear hS
 intro wY post hQ w hS
 unfold sX at hQ
 cases ht:lj (q.drop i) with
 | error e=>
  rw[ht]at hQ
  obtain⟨rfl,rfl⟩:=hQ
  (try simp only[app]at hS);refine Gp ?_
  have he:=FG ht
  rw[Di ht]at h1 h2
  refine za (λ_=>?_) (λh=>by omega)
  refine⟨_,⟨u1,es,by simpa using h1,?_,rfl⟩,aR hS⟩
  rw[<- h2];rfl
 | ok x=>
  obtain⟨p,n⟩:=x
  rw[ht]at hQ
  obtain⟨y,rfl,rfl⟩:=hQ
  (try simp only[app]at hS);refine Gp ?_
  have hl:=Aa ht
  rw[Fy ht]at h1 h2
  rw[List.length_drop]at hl
  refine za (λh=>absurd rfl h) (λ_=>?_)
  have mn:=hS.oF .hd
  obtain⟨ay,cy,ey,_⟩:=bI.at hS .hd
  subst ey
  refine zD (cells:=[.slice ay p.length cy]) hS rfl ?_
  clear hS;intro b w hS
  refine zy (m:=1) (cs:=[.slice ay p.length cy]) hS Xr (lX hS .hd rfl) rfl rfl (by intro v hv;simp only[List.mem_singleton]at hv;subst hv;rfl) (by omega) (by omega) ?_
  clear hS;intro u' w hS
  have hS:=zi.snoc (A:=jN) (xs:=es) (x:=(.slice ay p.length cy,p)) (SL.b_ hS (t:=.ob (zi jN es)::.ob (bI (.slice ay p.length cy) 5 1 p.length (p.map fI))::.ob (bI u' 62 1 (es.length+1) (jB es++[.slice ay p.length cy]))::X::F) Xi)
  refine yh (a:=i) (b:=n) (by omega) ?_
  refine⟨⟨u',es++[(.slice ay p.length cy,p)],i+n,rfl,by omega,by simp;omega,?_,?_,?_⟩,?_⟩
  ·rw[<- h1,<- List.drop_drop];simp[nH]
  ·rw[<- h2,<- List.drop_drop];simp only;omega
  ·rw[show (es++[((Value.slice ay p.length cy,p):oL)]).length=es.length+1 by simp,show jB (es++[((Value.slice ay p.length cy,p):oL)])=jB es++[.slice ay p.length cy] by simp[jB]]
   exact aR hS
  ·simp only[Int.toNat_natCast];omega
theorem PT{n:Nat}(h:n<=1099511627776):po [⟨1,n,⟨#[]⟩⟩]= .ok (j6 n):=by
 have e:r_ (n:Int)=(n:Int):=by unfold r_;omega
 unfold po
 rw[if_neg (by simp),if_pos (by simp[nm])]
 show Except.ok (iI ((1:Nat):Int) 2++(jL ⟨1,n,⟨#[]⟩⟩++[]))=_
 unfold jL
 rw[if_pos rfl,e]
 show Except.ok ([j9 ((1:Int).fdiv (2 ^ (8*1))),j9 ((1:Int).fdiv (2 ^ (8*0)))]++(j9 1::iI n 8++[]))=_
 rw[List.append_nil]
 rfl
def Aj(n:Int)(r:Value)(post:List Chunk):Prop:=if n<1\/1099511627776<n then r= .tuple #[.slice none 0 0,.int .i64 1]/\post=[] else ∃u,r= .tuple #[u,.int .i64 0]/\post=[.ob (bI u 5 1 (ic (j6 n.toNat)).length ((ic (j6 n.toNat)).map fI))]
theorem ql(n:Int):SP 328 [.int .i64 n] [] (Aj n):=by
 intro W F w hS;apply dIt;delta Nt aF ai dw bR;(try simp only[app]at hS)
 unfold Aj
 refine b9 (λh=>?_) (λh=>?_)
 ·exact⟨[],by rw[if_pos (.inl h)];exact⟨rfl,rfl⟩,hS⟩
 ·refine b9 (λh2=>?_) (λh2=>?_)
  ·exact⟨[],by rw[if_pos (.inr h2)];exact⟨rfl,rfl⟩,hS⟩
  ·obtain⟨k,rfl⟩:=Int.eq_ofNat_of_zero_le (show 0<=n by omega)
   have hx:=PT (n:=k) (by omega)
   refine yz (cells:=iR ⟨1,k,⟨#[]⟩⟩) rfl ?_
   refine zD (cells:=iR ⟨1,k,⟨#[]⟩⟩) hS rfl ?_
   clear hS;intro p w hS
   refine Cc (ZL (.pt p (iR ⟨1,k,⟨#[]⟩⟩) 174) _ [⟨1,k,⟨#[]⟩⟩] (rG.pt rfl) (by simp)) ?_;clear hS
   intro v post hQ w hS
   unfold sf at hQ
   rw[hx]at hQ
   obtain⟨u,rfl,rfl⟩:=hQ
   (try simp only[app]at hS);refine Gp ?_
   refine za (λh=>absurd rfl h) (λ_=>?_)
   refine Cc (qJ (.ob (bI u 5 1 (j6 k).length ((j6 k).map fI))) u (j6 k) ix.own (by rw[vy];omega)) ?_;clear hS
   intro v post hQ w hS
   unfold sj at hQ
   rw[if_neg (by rw[vy];omega)]at hQ
   obtain⟨y,rfl,rfl⟩:=hQ
   (try simp only[app]at hS);refine Gp ?_
   refine⟨[.ob (bI y 5 1 (ic (j6 k)).length ((ic (j6 k)).map fI))],?_,aR hS⟩
   rw[if_neg (by omega)]
   exact⟨y,rfl,rfl⟩
abbrev JX(rp:Nat)(lv:Value)(n f:Int)(es:List oL):List Chunk:=[.pt rp [lv,.int .i64 n,.int .i64 f] 371,.ob (bI lv 62 1 es.length (jB es)),.ob (zi jN es)]
def Cj(es:List oL):Option Int:=match es with
 | []=>none
 | e::_=>pO e.2
theorem Ym(rp:Nat)(lv:Value)(n f:Int)(es:List oL):SP 280 [.pointer (some ⟨rp,0,none⟩)] (JX rp lv n f es) (eW (.bool (Cj es).isSome) (JX rp lv n ((Cj es).getD f) es)):=by
 intro W F w hS;apply dFl;delta MP aF a_ fR d_ cw ai;(try simp only[app]at hS)
 refine Gp ?_
 refine zx hS (t:=62) (sz:=1) (n:=es.length) (cells:=jB es) Xh ?_
 refine b9 (λh=>?_) (λh=>?_)
 ·have:es=[]:=List.eq_nil_of_length_eq_zero (by omega)
  subst this
  exact⟨_,⟨rfl,rfl⟩,hS⟩
 ·obtain⟨e,es,rfl⟩:∃e xv,es=e::xv:=by
   cases es with
   | nil=>simp at h
   | cons e xv=>exact⟨e,xv,rfl⟩
  refine Gp ?_
  refine z8 (j:=0) hS (t:=62) (n:=(e::es).length) (cells:=jB (e::es)) Xh (by simp) (u:=e.1) rfl ?_
  have hS:=zi.take (t:=0) (x:=e) (SL.b_ hS (t:=.ob (zi jN (e::es))::.pt rp [lv,.int .i64 n,.int .i64 f] 371::.ob (bI lv 62 1 (e::es).length (jB (e::es)))::F) Xi) rfl
  have lR:∀{w:World} {k:Int},SL W (.ob (jN e)::.ob (zi jN ((e::es).eraseIdx 0))::.pt rp [lv,.int .i64 n,.int .i64 k] 371::.ob (bI lv 62 1 (e::es).length (jB (e::es)))::F) w ->
    SL W (.pt rp [lv,.int .i64 n,.int .i64 k] 371::.ob (bI lv 62 1 (e::es).length (jB (e::es)))::.ob (zi jN (e::es))::F) w:=λ{w k} h=>by
   have h2:SL W (.ob (zi jN (e::es))::.pt rp [lv,.int .i64 n,.int .i64 k] 371::.ob (bI lv 62 1 (e::es).length (jB (e::es)))::F) w:=zi.put h (by simp)
   exact SL.b_ h2 Xi
  have hR:ix (.ob (jN e)) e.1 e.2:=ix.own
  refine Cc (y4 (.ob (jN e)) e.1 e.2 hR) ?_;clear hS
  intro v post hQ w hS
  unfold se at hQ
  have hh:Cj (e::es)=pO e.2:=rfl
  rw[hh]
  unfold pO
  cases hd:lL e.2 with
  | error k=>
   rw[hd]at hQ
   obtain⟨rfl,rfl⟩:=hQ
   (try simp only[app]at hS);refine Gp ?_
   have hk:k≠0:=by
    intro hk
    rw[BR]at hd
    split at hd
    ·cases hd
    ·rename_i h0
     cases hd;exact h0 hk
   refine za (λ_=>?_) (λh=>absurd hk h)
   exact⟨_,⟨rfl,rfl⟩,lR hS⟩
  | ok l=>
   rw[hd]at hQ
   obtain⟨y,rfl,rfl⟩:=hQ
   (try simp only[app]at hS);refine Gp ?_
   refine za (λh=>absurd rfl h) (λ_=>?_)
   refine zx hS (t:=174) (sz:=3) (n:=l.length) (cells:=(l.map iR).flatten) Xh ?_
   refine b9 (λh1=>?_) (λh1=>?_)
   ·have:AR l=none:=by
     match l,h1 with
     | [],_=>rfl
     | [x],h1=>simp at h1
     | _::_::_,_=>rfl
    simp only[this]
    exact⟨_,⟨rfl,rfl⟩,lR (k:=f) (aR hS)⟩
   ·obtain⟨x,rfl⟩:∃x,l=[x]:=List.length_eq_one_iff.1 (by omega)
    have hx:AR [x]=if x.kind=1/\1<=x.n/\x.n<=1099511627776 then some x.n else none:=rfl
    simp only[hx]
    refine zJ (j:=0) (i:=0) (x:=x) (xs:=[x]) hS (t:=174) (sz:=3) (n:=1) Xh p7 rfl (by omega) (u:=.int .i64 x.kind) rfl ?_
    refine b9 (λh2=>?_) (λh2=>?_)
    ·rw[if_neg (by omega)]
     exact⟨_,⟨rfl,rfl⟩,lR (k:=f) (aR hS)⟩
    ·refine zJ (j:=0) (i:=1) (x:=x) (xs:=[x]) hS (t:=174) (sz:=3) (n:=1) Xh p7 rfl (by omega) (u:=.int .i64 x.n) rfl ?_
     refine b9 (λh3=>?_) (λh3=>?_)
     ·rw[if_neg (by omega)]
      exact⟨_,⟨rfl,rfl⟩,lR (k:=f) (aR hS)⟩
     ·refine zJ (j:=0) (i:=1) (x:=x) (xs:=[x]) hS (t:=174) (sz:=3) (n:=1) Xh p7 rfl (by omega) (u:=.int .i64 x.n) rfl ?_
      refine b9 (λh4=>?_) (λh4=>?_)
      ·rw[if_neg (by omega)]
       exact⟨_,⟨rfl,rfl⟩,lR (k:=f) (aR hS)⟩
      ·rw[if_pos ⟨by omega,by omega,by omega⟩]
       refine zJ (j:=0) (i:=1) (x:=x) (xs:=[x]) hS (t:=174) (sz:=3) (n:=1) Xh p7 rfl (by omega) (u:=.int .i64 x.n) rfl ?_
       refine Gn λw hS=>?_
       exact⟨_,⟨rfl,rfl⟩,lR (k:=x.n) (aR hS)⟩
def vd(X:Chunk)(q:List UInt8)(r:Value)(post:List Chunk):Prop:=match kf q with
 | none=>r= .tuple #[.int .i64 0,.slice none 0 0,.int .i64 0,.int .i64 3]/\post=[X]
 | some (f,l,n)=>∃(u:Value) (es:List oL),nH es=l/\r= .tuple #[.int .i64 f,u,.int .i64 (n:Nat),.int .i64 0]/\post=[.ob (g8 u 62 1 es.length (jB es)),.ob (zi jN es),X]
def b9w(es:List oL)(n:Nat):Option (Int × List (List UInt8) × Nat):=match es with
 | []=>none
 | e::xv=>(pO e.2).map λk=>(k,nH xv,n)
theorem Un{q:List UInt8}{es:List oL}(he:nH es=(lN q).1):kf q=b9w es (lN q).2:=by
 unfold kf
 rw[<- he]
 cases es with
 | nil=>rfl
 | cons e es=>rfl
theorem qm(X:Chunk)(v:Value)(q:List UInt8)(hq:ix X v q)(hN:q.length<=10000000000):SP 218 [v] [X] (vd X q):=by
 intro W F w hS;apply c_w;delta LM bF aW d_ dW ai bR;(try simp only[app]at hS)
 refine Cc (cwq X v q hq hN) ?_;clear hS
 rintro r post ⟨u,es,he,rfl,rfl⟩ w hS;(try simp only[app]at hS)
 have mn:=hS.oF .hd
 obtain⟨au,cu,eu,_⟩:=bI.at hS .hd
 subst eu
 refine Gp ?_
 refine⟨_,rfl,zI hS ?_⟩
 clear hS;intro rp w hS
 have hS:SL W (.pt rp [.slice au es.length cu,.int .i64 ((lN q).2:Nat),.int .i64 0] 371::.ob (bI (.slice au es.length cu) 62 1 es.length (jB es))::.ob (zi jN es)::X::F) w:=hS
 refine Cc (Ym rp (.slice au es.length cu) ((lN q).2:Nat) 0 es) ?_;clear hS
 rintro v post ⟨rfl,rfl⟩ w hS;(try simp only[app]at hS)
 refine zQ ?_
 have hr:=Un he
 cases hd:Cj es with
 | none=>
  refine zw ?_
  refine⟨[X],?_,aR hS⟩
  unfold vd
  have:kf q=none:=by
   rw[hr]
   cases es with
   | nil=>rfl
   | cons e es=>have hd:pO e.2=none:=hd;show (pO e.2).map _=none;rw[hd];rfl
  rw[this];exact⟨rfl,rfl⟩
 | some k=>
  refine zt ?_
  cases es with
  | nil=>cases hd
  | cons e es=>
   have hd:pO e.2=some k:=hd
   have hr:kf q=some (k,nH es,(lN q).2):=by
    rw[hr];show (pO e.2).map _=_;rw[hd];rfl
   rw[show (Cj (e::es)).getD 0=k by show (pO e.2).getD 0=k;rw[hd];rfl]at hS
   refine Gn λw hS=>?_
   have hS:=zi.take (t:=0) (x:=e) (SL.b_ hS (t:=.ob (zi jN (e::es))::.pt rp [.slice au (e::es).length cu,.int .i64 ((lN q).2:Nat),.int .i64 k] 371::.ob (bI (.slice au (e::es).length cu) 62 1 (e::es).length (jB (e::es)))::X::F) Xi) rfl
   have hS:=g8.of (SL.b_ hS (t:=.ob (bI (.slice au (e::es).length cu) 62 1 (e::es).length (jB (e::es)))::.pt rp [.slice au (e::es).length cu,.int .i64 ((lN q).2:Nat),.int .i64 k] 371::.ob (zi jN ((e::es).eraseIdx 0))::X::F) Xi)
   refine Q9 (k:=1) hS (by simp) ?_
   clear hS;intro y hS
   have e1:(e::es).length-1=es.length:=by simp
   have e2:(jB (e::es)).drop (1*1)=jB es:=rfl
   have e3:(e::es).eraseIdx 0=es:=rfl
   rw[e1,e2,e3]at hS
   refine Gp ?_
   refine⟨[.ob (g8 y 62 1 es.length (jB es)),.ob (zi jN es),X],?_,aR hS⟩
   unfold vd
   rw[hr]
   exact⟨y,es,rfl,rfl,rfl⟩
theorem Zm(X:Chunk)(s:Int)(v:Value)(b:List UInt8)(hb:ix X v b)(hN:b.length<=140737488355328):SP 187 [.int .u32 s,v] [X] (eW (.int .u32 (mC s b)) [X]):=by
 intro W F w hS;apply cW3;delta Lj aF ai;(try simp only[app]at hS)
 refine ZY ?_
 refine⟨λvs w=>∃i:Nat,i<=b.length/\vs=[.int .u32 ((b.take i).foldl Dm (Ax s)),.int .i64 i]/\SL W (X::F) w,λvs _=>match vs with
  | [_,.int _ i]=>b.length-i.toNat
  | _=>0,⟨0,by omega,rfl,hS⟩,?_⟩
 clear hS
 rintro v1 v2 w1 ⟨i,hi,hv,hS⟩
 cases hv
 refine zM hS .hd hb ?_
 refine b9 (λh=>?_) (λh=>?_)
 ·have hi:i<b.length:=by omega
  have hx:=b[i].toNat_lt
  refine yL hS .hd hb hi ?_
  refine zO ?_
  rw[wrap_u32 (by omega) (by omega)]
  refine Z1 ?_
  refine⟨λvs w=>∃k:Nat,k<=8/\vs=[.int .u32 (wm k (Ac ((b.take i).foldl Dm (Ax s)) (b[i].toNat:Int))),.int .i64 k]/\SL W (X::F) w,λvs _=>match vs with
   | [_,.int _ k]=>8-k.toNat
   | _=>0,⟨0,by omega,rfl,hS⟩,?_⟩
  clear hS
  rintro u1 u2 w2 ⟨k,hk,hu,hS⟩
  cases hu
  refine b9 (λh1=>?_) (λh1=>?_)
  ·have RO:∀c,wm (k+1) c=xk (wm k c):=λc=>rfl
   refine Ux ?_
   refine I7 ?_
   refine Zw (n:=1) (by omega) ?_
   refine za (λh2=>?_) (λh2=>?_)
   ·refine Z1 ?_
    refine Gp ?_
    refine⟨⟨k+1,by omega,?_,hS⟩,?_⟩
    ·rw[RO,xk,if_pos h2]
    ·simp only[Int.toNat_natCast];omega
   ·refine Gp ?_
    refine⟨⟨k+1,by omega,?_,hS⟩,?_⟩
    ·rw[RO,xk,if_neg h2]
    ·simp only[Int.toNat_natCast];omega
  ·obtain rfl:k=8:=by omega
   refine Gp ?_
   refine⟨⟨i+1,by omega,?_,hS⟩,?_⟩
   ·rw[show b.take (i+1)=b.take i++[b[i]] by rw[List.take_add_one];simp[hi],List.foldl_append];rfl
   ·simp only[Int.toNat_natCast];omega
 ·obtain rfl:i=b.length:=by omega
  refine ZY ?_
  rw[List.take_length]
  exact⟨_,⟨rfl,rfl⟩,hS⟩
theorem YN(X:Chunk)(v:Value)(b:List UInt8)(hb:ix X v b)(hN:b.length<=140737488355328):SP 188 [v] [X] (eW (.int .u32 (mC 0 b)) [X]):=by
 intro W F w hS;apply cW4;unfold Lk;(try simp only[app]at hS)
 refine Cg (Zm X 0 v b hb hN) λw hS=>?_
 exact⟨_,⟨rfl,rfl⟩,hS⟩
theorem yR(x:Int)(n:Nat)(hn:n<=8):SP 185 [.int .u64 x,.int .i64 n] [] (λu post=>post=[.ob (bI u 5 1 (iI x n).length ((iI x n).map fI))]):=by
 intro W F w hS;apply cW1;delta Lh aF ai bR;(try simp only[app]at hS)
 refine Gp ?_
 have hS:=bI.nil (t:=5) (sz:=1) hS
 have hS:SL W (.ob (bI (.slice none 0 0) 5 1 ([]:List UInt8).length (([]:List UInt8).map fI))::F) w:=hS
 refine⟨λvs w=>∃(u:Value) (c:List UInt8) (k:Nat),vs=[u,.int .i64 ((k:Int)-1)]/\k<=n/\c++iI x k=iI x n/\SL W (.ob (bI u 5 1 c.length (c.map fI))::F) w,λvs _=>match vs with
  | [_,.int _ i]=>(i+1).toNat
  | _=>0,⟨_,[],n,rfl,Nat.le_refl _,rfl,hS⟩,?_⟩
 clear hS
 rintro u1 u2 w1 ⟨u,c,k,hv,hk,hc,hS⟩
 cases hv
 refine b9 (λh=>?_) (λh=>?_)
 ·obtain⟨j,rfl⟩:∃j,k=j+1:=⟨k-1,by omega⟩
  have e0:((j+1:Nat):Int)-1=(j:Int):=by omega
  rw[e0]
  refine UG (by omega) ?_
  have e1:(8:Int)*(j:Int)=((8*j:Nat):Int):=by omega
  rw[e1]
  refine zO ?_
  rw[wrap_u64 (by omega) (by omega)]
  refine UL (by omega) ?_
  refine zO ?_
  rw[wrap_u8]
  refine zD (cells:=[fI (j9 (x.fdiv (2 ^ (8*j))))]) hS rfl ?_
  clear hS;intro p w hS
  have kN:c.length+(j+1)=n:=by
   have:=congrArg List.length hc
   simpa [mE] using this
  refine zy (m:=1) (cs:=[fI (j9 (x.fdiv (2 ^ (8*j))))]) hS Xr (lX hS .hd rfl) rfl rfl (by intro v hv;simp only[List.mem_singleton]at hv;subst hv;rfl) (by omega) (by omega) ?_
  clear hS;intro u' w hS
  refine Gp ?_
  refine⟨⟨u',c++[j9 (x.fdiv (2 ^ (8*j)))],j,rfl,by omega,?_,?_⟩,?_⟩
  ·rw[<- hc];simp[iI]
  ·simp only[List.length_append,List.length_cons,List.length_nil,List.map_append,List.map_cons,List.map_nil]
   exact aR hS
  ·show ((j:Int)-1+1).toNat<((j:Int)+1).toNat
   omega
 ·obtain rfl:k=0:=by omega
  have e:c=iI x n:=by simpa [iI] using hc
  rw[e]at hS
  exact⟨_,rfl,hS⟩
theorem cwg{x:Nat}{K:Value->Prop}(h:K (.int .u64 (((x*256) % 18446744073709551616:Nat):Int))):zc .shl (.int .u64 (x:Int)) (.int .u64 8) K:=by
 refine⟨.int .u64 (((x*256) % 18446744073709551616:Nat):Int),?_,h⟩
 show (if (8:Int)<0 then none else some (Value.int .u64 (IntKind.u64.wrap ((x:Int)*2 ^ (min (8:Int).toNat IntKind.u64.bits)))))=_
 rw[if_neg (by omega)]
 congr 2
theorem cwc{x:Nat}{c:UInt8}{K:Value->Prop}(h:K (.int .u64 (((x*256+c.toNat) % 18446744073709551616:Nat):Int))):
  zG .u64 (fI c) λy=>zc .or (.int .u64 (((x*256) % 18446744073709551616:Nat):Int)) y K:=by
 have hc:=c.toNat_lt
 refine zO ?_
 rw[wrap_u64 (by omega) (by omega)]
 refine⟨_,T7 (by omega) (by omega),?_⟩
 have e:(x*256) % 18446744073709551616=((x*256) % 18446744073709551616 / 256) <<< 8:=by rw[Nat.shiftLeft_eq];omega
 have e2:(x*256) % 18446744073709551616 ||| c.toNat=(x*256+c.toNat) % 18446744073709551616:=by
  rw[e,<- Nat.shiftLeft_add_eq_or_of_lt (show c.toNat<2 ^ 8 by omega),Nat.shiftLeft_eq];omega
 rw[e2];exact h
theorem yk(X:Chunk)(v:Value)(b:List UInt8)(hb:ix X v b)(hN:b.length<=140737488355328):SP 300 [v] [X] (eW (.int .u64 (j5 b:Nat)) [X]):=by
 intro W F w hS;apply dF3;delta M9 aF ai;(try simp only[app]at hS)
 refine⟨λvs w=>∃i:Nat,i<=b.length/\vs=[.int .u64 (j5 (b.take i):Nat),.int .i64 i]/\SL W (X::F) w,λvs _=>match vs with
  | [_,.int _ i]=>b.length-i.toNat
  | _=>0,⟨0,by omega,rfl,hS⟩,?_⟩
 clear hS
 rintro v1 v2 w1 ⟨i,hi,hv,hS⟩
 cases hv
 refine zM hS Xh hb ?_
 refine b9 (λh=>?_) (λh=>?_)
 ·have hi:i<b.length:=by omega
  refine cwg ?_
  refine yL hS Xh hb hi ?_
  refine cwc ?_
  refine Gp ?_
  refine⟨⟨i+1,by omega,?_,hS⟩,?_⟩
  ·rw[Gd hi]
  ·simp only[Int.toNat_natCast];omega
 ·have:b.take i=b:=List.take_of_length_le (by omega)
  rw[this]
  exact⟨_,⟨rfl,rfl⟩,hS⟩
theorem ZF(X:Chunk)(v:Value)(q:List UInt8)(hq:ix X v q)(hN:q.length<=140737488355328):SP 95 [v] [X] (sj X q):=by
 intro W F w hS;apply dWr;delta OD aF ai bR;(try simp only[app]at hS)
 refine zM hS .hd hq ?_
 refine b9 (λh=>?_) (λh=>?_)
 ·exact⟨_,.O6 (by omega),hS⟩
 ·have pQ:q.length<=1048576:=by omega
  refine zM hS .hd hq ?_
  refine zO ?_
  rw[wrap_u64 (by omega) (by omega)]
  refine Cc (yR q.length 4 (by omega)) ?_;clear hS
  rintro nS post rfl w hS;(try simp only[app]at hS)
  rw[TP]at hS
  have CN:ix (.ob (bI nS 5 1 (four q.length).length ((four q.length).map fI))) nS (four q.length):=ix.own
  refine Cc (YN _ nS (four q.length) CN (by rw[tP];omega)) ?_;clear hS
  rintro v post ⟨rfl,rfl⟩ w hS;(try simp only[app]at hS)
  refine Cc (Zm X (mC 0 (four q.length)) v q hq hN) ?_;clear hS
  rintro v post ⟨rfl,rfl⟩ w hS;(try simp only[app]at hS)
  have hs:mC (mC 0 (four q.length)) q=sumOf q:=rfl
  have Su:=IA (mC 0 (four q.length)) q
  rw[hs]at Su ⊢
  refine zO ?_
  rw[wrap_u64 (by omega) (by omega)]
  refine Cc (yR (sumOf q) 4 (by omega)) ?_;clear hS
  rintro v20 post rfl w hS;(try simp only[app]at hS)
  rw[TP]at hS
  refine zy (t:=5) (sz:=1) (x:=nS) (n:=(four q.length).length) (cells:=(four q.length).map fI) (m:=(four (sumOf q)).length) (cs:=(four (sumOf q)).map fI) hS Xr (rz hS Xh) (by simp) rfl (nE _) (by simp[tP]) (by simp[tP]) ?_
  clear hS;intro Dt w hS
  rw[<- List.map_append,<- List.length_append]at hS
  refine zy (t:=5) (sz:=1) (m:=q.length) (cs:=q.map fI) hS .hd (hq.src hS Xh) (by simp) rfl (nE _) (by simp only[List.length_append,tP];omega) (by simp only[List.length_append,tP];omega) ?_
  clear hS;intro v24 w hS
  rw[<- List.map_append,<- List.length_append]at hS
  have e:four (q.length:Nat)++four (sumOf q)++q=ic q:=rfl
  rw[e]at hS
  exact⟨_,.ok pQ v24,aR hS⟩
theorem Yh(X:Chunk)(v:Value)(q:List UInt8)(hq:ix X v q)(hN:q.length<=140737488355328):SP 243 [v] [X] (sX X q):=by
 intro W F w hS;apply dwl;delta Mf aF ai bR;(try simp only[app]at hS)
 refine zM hS .hd hq ?_
 refine b9 (λh=>?_) (λh=>?_)
 ·exact⟨_,.er (Vc (by omega)),hS⟩
 ·have h8:8<=q.length:=by omega
  refine ZZ (hi:=4) hS .hd hq (by omega) ?_
  intro v11 xA
  refine Cc (yk X v11 (q.take 4) xA (by rw[List.length_take];omega)) ?_;clear hS
  rintro v post ⟨rfl,rfl⟩ w hS;(try simp only[app]at hS)
  rw[O7 (by omega)]
  have iZ:=TO q
  refine yl (by omega) ?_
  have hsm:=λ(p:List UInt8) hp=>cFh (q:=q) (p:=p) h8 hp
  have te2:=Vd (q:=q) h8
  have te3:=Ve (q:=q) h8
  have te4:=Vf (q:=q) h8
  have tok:=Vg (q:=q) h8
  generalize ly q=k at *
  refine b9 (λh2=>?_) (λh2=>?_)
  ·exact⟨_,.er (te2 (by omega)),hS⟩
  ·refine zM hS .hd hq ?_
   refine b9 (λh3=>?_) (λh3=>?_)
   ·exact⟨_,.er (te3 (by omega) (by omega)),hS⟩
   ·refine yh (a:=8) (b:=k) (by omega) ?_
    refine Yl (lo:=8) (hi:=8+k) hS .hd hq (by omega) (by omega) ?_
    intro v44 wz
    rw[show 8+k-8=k by omega]at wz
    have CC:((q.drop 8).take k).length=k:=by rw[List.length_take,List.length_drop];omega
    generalize hp:(q.drop 8).take k=p at *
    refine Gn λw hS=>?_
    refine ZZ (hi:=4) hS .hd hq (by omega) ?_
    intro v26 h26
    refine Yl (lo:=4) (hi:=8) hS Xh hq (by omega) (by omega) ?_
    intro v32 Ro
    rw[show 8-4=4 from rfl]at Ro
    refine Cc (YN X v26 (q.take 4) h26 (by rw[List.length_take];omega)) ?_;clear hS
    rintro v post ⟨rfl,rfl⟩ w hS;(try simp only[app]at hS)
    refine Cc (Zm X (mC 0 (q.take 4)) v44 p wz (by omega)) ?_;clear hS
    rintro v post ⟨rfl,rfl⟩ w hS;(try simp only[app]at hS)
    have Su:=IA (mC 0 (q.take 4)) p
    refine zO ?_
    rw[wrap_u64 (by omega) (by omega)]
    refine Cc (yk X v32 ((q.drop 4).take 4) Ro (by rw[List.length_take];omega)) ?_;clear hS
    rintro v post ⟨rfl,rfl⟩ w hS;(try simp only[app]at hS);refine Gp ?_
    rw[show decide (mC (mC 0 (q.take 4)) p≠((j5 ((q.drop 4).take 4):Nat):Int))=decide (four (sumOf p)≠(q.drop 4).take 4) from hsm p CC]
    refine za (λh4=>?_) (λh4=>?_)
    ·exact⟨_,.er (te4 (by omega) (by omega) h4),aR hS⟩
    ·refine Gm λb w hS=>?_
     have hS:=bI.full (n:=0) (sz:=1) rfl hS
     refine zy (t:=5) (sz:=1) (n:=0) (m:=k) (cs:=p.map fI) hS .hd (by have:=wz.src hS Xh;rw[CC]at this;exact this) (by simp[CC]) rfl (nE _) (by omega) (by omega) ?_
     clear hS;intro v37 w hS
     rw[Nat.zero_add,List.nil_append]at hS
     refine yh (a:=8) (b:=k) (by omega) ?_
     have ht:=tok (by omega) (by omega) (Classical.not_not.1 h4)
     rw[<- CC]at hS
     exact⟨_,.ok ht v37,aR hS⟩
theorem QZ(X:Chunk)(v:Value)(q:List UInt8)(hq:ix X v q)(hN:q.length<=10000000000):SP 241 [v] [X] (JY X q):=by
 intro W F w hS;apply dwj;delta Md aF ai bR;(try simp only[app]at hS)
 have hS:=bI.nil (t:=62) (sz:=1) (zi.nil (A:=jN) hS)
 refine⟨λvs w=>∃(u:Value) (es:List oL) (at_:Nat),vs=[u,.int .i64 at_]/\at_<=q.length/\es.length*8<=at_/\nH es++(lN (q.drop at_)).1=(lN q).1/\at_+(lN (q.drop at_)).2=(lN q).2 /\
   SL W (.ob (bI u 62 1 es.length (jB es))::.ob (zi jN es)::X::F) w,λvs _=>match vs with
  | [_,.int _ i]=>q.length-i.toNat
  | _=>0,⟨_,[],0,rfl,Nat.zero_le _,Nat.le_refl _,rfl,by simp,hS⟩,?_⟩
 clear hS
 rintro u1 u2 w1 ⟨u,es,i,hv,hi,h8,h1,h2,hS⟩
 cases hv
 refine zM hS Xh hq ?_
 refine b9 (λh0=>?_) (λh0=>?_)
 ·refine qj hS Xh hq hi ?_
  intro nS f'
  refine Cc (Yh X nS (q.drop i) f' (by rw[List.length_drop];omega)) ?_;clear hS
  intro wY post hQ w hS
  unfold sX at hQ
  cases ht:lj (q.drop i) with
  | error e=>
   rw[ht]at hQ
   obtain⟨rfl,rfl⟩:=hQ
   (try simp only[app]at hS);refine Gp ?_
   have he:=FG ht
   rw[Di ht]at h1 h2
   refine za (λ_=>?_) (λh=>by omega)
   refine⟨_,⟨u1,es,by simpa using h1,?_,rfl⟩,aR hS⟩
   rw[<- h2];rfl
  | ok x=>
   obtain⟨p,n⟩:=x
   rw[ht]at hQ
   obtain⟨y,rfl,rfl⟩:=hQ
   (try simp only[app]at hS);refine Gp ?_
   have hl:=Aa ht
   rw[Fy ht]at h1 h2
   rw[List.length_drop]at hl
   refine za (λh=>absurd rfl h) (λ_=>?_)
   have mn:=hS.oF .hd
   obtain⟨ay,cy,ey,_⟩:=bI.at hS .hd
   subst ey
   refine zD (cells:=[.slice ay p.length cy]) hS rfl ?_
   clear hS;intro b w hS
   refine zy (m:=1) (cs:=[.slice ay p.length cy]) hS Xr (lX hS .hd rfl) rfl rfl (by intro v hv;simp only[List.mem_singleton]at hv;subst hv;rfl) (by omega) (by omega) ?_
   clear hS;intro u' w hS
   have hS:=zi.snoc (A:=jN) (xs:=es) (x:=(.slice ay p.length cy,p)) (SL.b_ hS (t:=.ob (zi jN es)::.ob (bI (.slice ay p.length cy) 5 1 p.length (p.map fI))::.ob (bI u' 62 1 (es.length+1) (jB es++[.slice ay p.length cy]))::X::F) Xi)
   refine yh (a:=i) (b:=n) (by omega) ?_
   refine⟨⟨u',es++[(.slice ay p.length cy,p)],i+n,rfl,by omega,by simp;omega,?_,?_,?_⟩,?_⟩
   ·rw[<- h1,<- List.drop_drop];simp[nH]
   ·rw[<- h2,<- List.drop_drop];simp only;omega
   ·rw[show (es++[((Value.slice ay p.length cy,p):oL)]).length=es.length+1 by simp,show jB (es++[((Value.slice ay p.length cy,p):oL)])=jB es++[.slice ay p.length cy] by simp[jB]]
    exact aR hS
   ·simp only[Int.toNat_natCast];omega
 ·have hd:q.drop i=[]:=List.drop_eq_nil_of_le (by omega)
  rw[hd,Di Va]at h1 h2
  refine⟨_,⟨u1,es,by simpa using h1,?_,rfl⟩,aR hS⟩
  rw[<- h2];rfl
section
variable {W w:World} {l:List Chunk} {X:Chunk} {v:Value} {sz n:Nat}
theorem yS{α:Type}{enc:α->List Value}{xs:List α}{j i:Nat}{u:Value}{kk:IntKind}{K:Value->Prop}(hS:SL W l w)(m:Has X l)(hb:rG X sz v n (xs.map enc).flatten)(he:∀x,(enc x).length=sz)(nM:0<sz)(hx:xs.length=n)(hj:j<n)
  (hu:(enc (xs[j]'(by omega)))[i]?=some u) (hK:K u):ze sz v (.int kk (j:Int)) λp=>zq i p λq=>cI q w K:=by
 obtain⟨a,c,rfl,hc⟩:=hb.sl hS m
 have hs:=hb.src hS m
 have hlen:(xs.map enc).flatten.length=n*sz:=by rw[<- hx];exact l8 he xs
 have hg:=xw he (by omega) hu
 cases a with
 | none=>
  have e:(xs.map enc).flatten=[]:=hs.2
  rw[e]at hg;simp at hg
 | some p=>
  refine⟨p,_,c,kk,j,rfl,rfl,hj,?_⟩
  refine⟨_,rfl,?_⟩
  refine⟨_,u,rfl,?_,hK⟩
  rw[F4]
  exact hs.2.2 (j*sz+i) u hg
end
theorem zP(n:Int):SP 92 [.int .i64 n] [] (eW (.agg (iR ⟨1,n,⟨#[]⟩⟩).toArray) []):=by
 intro W F w hS;apply dWo;delta OA ai dw;(try simp only[app]at hS)
 refine Gm λb w hS=>?_
 exact fw hS
theorem Zf(s:ByteArray):SP 93 [.string s] [] (eW (.agg (iR ⟨2,0,s⟩).toArray) []):=by
 intro W F w hS;apply dWp;delta OB ai dw;(try simp only[app]at hS)
 refine Gm λb w hS=>?_
 exact fw hS
theorem Y9(x:ie):SP 186 [.agg (iR x).toArray] [] (eW (.bool (nm x)) []):=by
 intro W F w hS;apply cW2;delta Li aF a_ cw ai;(try simp only[app]at hS)
 refine⟨iR x,rfl,?_⟩
 unfold iR
 refine Gm λb w hS=>?_
 unfold nm
 refine za (λh=>?_) (λh=>?_)
 ·rw[if_pos h]
  refine b9 (λh1=>?_) (λh1=>?_)
  ·rw[decide_eq_true h1]
   exact fw hS
  ·refine Gp ?_
   refine za (λh2=>by omega) (λh2=>?_)
   rw[decide_eq_false h1]
   exact fw hS
 ·rw[if_neg h]
  refine b9 (λh2=>?_) (λh2=>?_)
  ·rw[if_pos h2]
   refine b9 (λh3=>?_) (λh3=>?_)
   ·refine Gp ?_
    rw[decide_eq_true h3,Bool.true_and]
    have e:decide ((x.s.size:Int)<=4096)=decide (x.s.size<=4096):=by congr 1;exact propext ⟨λ_=>by omega,λ_=>by omega⟩
    rw[e]
    exact fw hS
   ·rw[decide_eq_false h3,Bool.false_and]
    exact fw hS
  ·rw[if_neg h2]
   exact fw hS
theorem yY(X:Chunk)(v:Value)(xs:List ie)(hx:rG X 3 v xs.length (xs.map iR).flatten)(hN:xs.length<=140737488355328):SP 94 [v] [X] (sf X xs):=by
 intro W F w hS;apply dWq;delta OC aF a_ dW ai bR;(try simp only[app]at hS)
 refine ZI hS .hd hx ?_
 refine b9 (λh=>?_) (λh=>?_)
 ·exact⟨_,.er (by unfold po;rw[if_pos (by omega)]),hS⟩
 ·refine ZI hS .hd hx ?_
  refine zO ?_
  rw[wrap_u64 (by omega) (by omega)]
  refine Cc (yR xs.length 2 (by omega)) ?_;clear hS
  rintro wY post rfl w hS;(try simp only[app]at hS)
  have hb:∀i,i<=xs.length->(xs.take i).all nm=true->(iI xs.length 2++((xs.take i).map jL).flatten).length<=200000000:=λi hi ha=>by
   have:=GH ha
   rw[List.length_append,mE]
   rw[List.length_take]at this
   omega
  refine⟨λvs w=>∃(i:Nat) (u:Value),i<=xs.length/\vs=[u,.int .i64 i]/\(xs.take i).all nm=true/\SL W (.ob (bI u 5 1 (iI xs.length 2++((xs.take i).map jL).flatten).length ((iI xs.length 2++((xs.take i).map jL).flatten).map fI))::X::F) w,λvs _=>match vs with
   | [_,.int _ i]=>xs.length-i.toNat
   | _=>0,⟨0,wY,by omega,rfl,rfl,(by simpa using hS)⟩,?_⟩
  clear hS
  rintro u1 u2 w1 ⟨i,u,hi,hv,ha,hS⟩
  cases hv
  have hbi:=hb i hi ha
  refine ZI hS Xh hx ?_
  refine b9 (λh=>?_) (λh=>?_)
  ·have hi:i<xs.length:=by omega
   refine Qk hS Xh hx p7 (by omega) rfl hi ?_
   have CZ:xs[i]∈xs:=List.getElem_mem hi
   have ri:xs.take (i+1)=xs.take i++[xs[i]]:=by rw[List.take_add_one];simp[hi]
   refine Cc (Y9 xs[i]) ?_;clear hS
   rintro v post ⟨rfl,rfl⟩ w hS;(try simp only[app]at hS)
   refine zQ ?_
   cases hr:nm xs[i] with
   | false=>
    refine zw ?_
    refine⟨[X],.er ?_,aR hS⟩
    unfold po
    rw[if_neg (by omega),if_neg]
    intro h
    have:=List.all_eq_true.1 h xs[i] CZ
    rw[hr]at this;cases this
   | true=>
    refine zt ?_
    have vu:(xs.take (i+1)).all nm=true:=by rw[ri,List.all_append,ha];simp[hr]
    have pM:=hb (i+1) (by omega) vu
    have px:((xs.take (i+1)).map jL).flatten=((xs.take i).map jL).flatten++jL xs[i]:=by rw[ri,List.map_append,List.flatten_append];simp only[List.map_cons,List.map_nil,List.flatten_cons,List.flatten_nil,List.append_nil]
    rw[px]at pM
    rw[List.length_append,List.length_append]at pM
    have hk:xs[i].kind=1\/xs[i].kind=2:=by
     unfold nm at hr
     by_cases h1:xs[i].kind=1
     ·exact .inl h1
     ·rw[if_neg h1]at hr
      by_cases h2:xs[i].kind=2
      ·exact .inr h2
      ·rw[if_neg h2]at hr;cases hr
    generalize hc:iI xs.length 2++((xs.take i).map jL).flatten=c at *
    have kN:c.length+(jL xs[i]).length<=200000000:=by rw[<- hc,List.length_append];omega
    refine yS (i:=0) hS Xh hx p7 (by omega) rfl hi (u:=.int .i64 xs[i].kind) rfl ?_
    refine zO ?_
    rw[wrap_u8]
    refine zD (cells:=[fI (j9 xs[i].kind)]) hS rfl ?_
    clear hS;intro p w hS
    refine zy (m:=1) (cs:=[fI (j9 xs[i].kind)]) hS Xr (lX hS .hd rfl) rfl rfl (by intro v hv;simp only[List.mem_singleton]at hv;subst hv;rfl) (by omega) (by omega) ?_
    clear hS;intro u' w hS
    have hS:SL W (.ob (bI u' 5 1 (c++[j9 xs[i].kind]).length ((c++[j9 xs[i].kind]).map fI))::X::F) w:=by
     simp only[List.length_append,List.length_cons,List.length_nil,List.map_append,List.map_cons,List.map_nil]
     exact aR hS
    refine yS (i:=0) hS Xh hx p7 (by omega) rfl hi (u:=.int .i64 xs[i].kind) rfl ?_
    refine b9 (λh1=>?_) (λh1=>?_)
    ·refine yS (i:=1) hS Xh hx p7 (by omega) rfl hi (u:=.int .i64 xs[i].n) rfl ?_
     refine zO ?_
     have eu:IntKind.u64.wrap xs[i].n=r_ xs[i].n:=rfl
     rw[eu]
     refine Cc (yR (r_ xs[i].n) 8 (by omega)) ?_;clear hS
     rintro v47 post rfl w hS;(try simp only[app]at hS)
     refine zy (t:=5) (sz:=1) (x:=u') (n:=(c++[j9 xs[i].kind]).length) (cells:=(c++[j9 xs[i].kind]).map fI) (m:=(iI (r_ xs[i].n) 8).length) (cs:=(iI (r_ xs[i].n) 8).map fI) hS Xr (rz hS Xh) (by simp) rfl (nE _) (by rw[mE,List.length_append,List.length_singleton];omega) (by rw[mE,List.length_append,List.length_singleton];omega) ?_
     clear hS;intro Jq w hS
     rw[<- List.map_append,<- List.length_append]at hS
     refine Gp ?_
     refine⟨⟨i+1,Jq,by omega,rfl,vu,?_⟩,?_⟩
     ·have e:iI xs.length 2++((xs.take (i+1)).map jL).flatten=c++[j9 xs[i].kind]++iI (r_ xs[i].n) 8:=by
       rw[px,<- List.append_assoc,hc]
       have:jL xs[i]=j9 xs[i].kind::iI (r_ xs[i].n) 8:=by unfold jL;rw[if_pos h1]
       rw[this];simp
      rw[e]
      exact aR hS
     ·simp only[Int.toNat_natCast];omega
    ·have nM:xs[i].s.size<=4096:=by
      unfold nm at hr
      rw[if_neg h1,if_pos (by omega),Bool.and_eq_true]at hr
      exact of_decide_eq_true hr.2
     have Cn:jL xs[i]=j9 xs[i].kind::(iI xs[i].s.size 2++xs[i].s.data.toList):=by unfold jL;rw[if_neg h1]
     refine yS (i:=2) hS Xh hx p7 (by omega) rfl hi (u:=.string xs[i].s) rfl ?_
     refine Gp ?_
     refine zO ?_
     rw[wrap_u64 (by omega) (by omega)]
     refine Cc (yR xs[i].s.size 2 (by omega)) ?_;clear hS
     rintro v57 post rfl w hS;(try simp only[app]at hS)
     refine zy (t:=5) (sz:=1) (x:=u') (n:=(c++[j9 xs[i].kind]).length) (cells:=(c++[j9 xs[i].kind]).map fI) (m:=(iI xs[i].s.size 2).length) (cs:=(iI xs[i].s.size 2).map fI) hS Xr (rz hS Xh) (by simp) rfl (nE _) (by rw[mE,List.length_append,List.length_singleton];omega) (by rw[mE,List.length_append,List.length_singleton];omega) ?_
     clear hS;intro Vq w hS
     rw[<- List.map_append,<- List.length_append]at hS
     refine yS (i:=2) hS Xh hx p7 (by omega) rfl hi (u:=.string xs[i].s) rfl ?_
     have A4:xs[i].s.data.toList.length=xs[i].s.size:=rfl
     have q_:(jL xs[i]).length=1+(2+xs[i].s.size):=by rw[Cn];simp only[List.length_cons,List.length_append,mE];omega
     refine zy (m:=xs[i].s.size) (cs:=xs[i].s.data.toList.map fI) hS Xr U3 (by simp) rfl (nE _) (by simp only[List.length_append,List.length_cons,List.length_nil,mE];omega) (by simp only[List.length_append,List.length_cons,List.length_nil,mE];omega) ?_
     clear hS;intro Js w hS
     refine Gp ?_
     refine⟨⟨i+1,Js,by omega,rfl,vu,?_⟩,?_⟩
     ·have e:iI xs.length 2++((xs.take (i+1)).map jL).flatten=(c++[j9 xs[i].kind]++iI xs[i].s.size 2)++xs[i].s.data.toList:=by
       rw[px,<- List.append_assoc,hc,Cn];simp
      rw[e]
      generalize c++[j9 xs[i].kind]++iI xs[i].s.size 2=A at *
      rw[List.length_append,List.map_append,A4]
      exact aR hS
     ·simp only[Int.toNat_natCast];omega
  ·obtain rfl:i=xs.length:=by omega
   rw[List.take_length]at hS ha
   exact⟨_,.ok (by unfold po;rw[if_neg (by omega),if_pos ha]) u1,aR hS⟩
theorem QU(n:Int):SP 303 [.int .i64 n] [] (Aj n):=by
 intro W F w hS;apply dF6;delta Nb aF ai dw bR;(try simp only[app]at hS)
 refine Gp ?_
 unfold Aj
 refine za (λh=>?_) (λh=>?_)
 ·refine⟨[],?_,hS⟩
  rw[if_pos (.inl (by omega))]
  exact⟨rfl,rfl⟩
 ·refine b9 (λh2=>?_) (λh2=>?_)
  ·refine⟨[],?_,hS⟩
   rw[if_pos (.inr (by omega))]
   exact⟨rfl,rfl⟩
  ·simp only[if_neg (c:=n<1\/1099511627776<n) (by omega)]
   obtain⟨k,rfl⟩:∃k:Nat,n=(k:Int):=⟨n.toNat,by omega⟩
   refine Cc (zP (k:Int)) ?_;clear hS
   rintro v post ⟨rfl,rfl⟩ w hS;(try simp only[app]at hS)
   refine zD (cells:=iR ⟨1,(k:Int),⟨#[]⟩⟩) hS rfl ?_
   clear hS;intro b w hS
   refine Cc (yY (.pt b (iR ⟨1,(k:Int),⟨#[]⟩⟩) 174) (.slice (some ⟨b,0,none⟩) 1 1) [⟨1,(k:Int),⟨#[]⟩⟩] (rG.pt rfl) (by simp)) ?_;clear hS
   intro r post hQ w hS
   unfold sf at hQ
   rw[PT (by omega)]at hQ
   obtain⟨u,rfl,rfl⟩:=hQ
   (try simp only[app]at hS);refine Gp ?_
   have CN:ix (.ob (bI u 5 1 (j6 k).length ((j6 k).map fI))) u (j6 k):=ix.own
   refine Cc (ZF _ u (j6 k) CN (by rw[vy];omega)) ?_;clear hS
   intro r post hQ w hS
   unfold sj at hQ
   rw[if_neg (by rw[vy];omega)]at hQ
   obtain⟨y,rfl,rfl⟩:=hQ
   (try simp only[app]at hS);refine Gp ?_
   rw[Int.toNat_natCast]
   exact⟨_,⟨y,rfl,rfl⟩,aR hS⟩
theorem yX(X:Chunk)(v:Value)(q:List UInt8)(hq:ix X v q)(hN:q.length<=140737488355328):SP 242 [v] [X] (se X q):=by
 intro W F w hS;apply dwk;delta Me aF ai dw bR;(try simp only[app]at hS)
 have hE:∀{e:Int} {w:World},lL q= .error e->SL W (X::F) w->∃post,se X q (.tuple #[.slice none 0 0,.int .i64 e]) post/\SL W (app post F) w:=λh hS=>⟨[X],by unfold se;rw[h];exact⟨rfl,rfl⟩,hS⟩
 refine zM hS .hd hq ?_
 refine Gp ?_
 refine za (λh=>hE (Xx (by omega)) hS) (λh=>?_)
 have h2:2<=q.length:=by omega
 refine ZZ (hi:=2) hS .hd hq h2 ?_
 intro FI h14
 refine Cc (yk X FI (q.take 2) h14 (by rw[List.length_take];omega)) ?_;clear hS
 rintro v post ⟨rfl,rfl⟩ w hS;(try simp only[app]at hS)
 have iZ:j5 (q.take 2)<65536:=by
  have:=BP 2 (q.take 2) (by rw[List.length_take];omega)
  exact this
 refine yl (by omega) ?_
 refine Gp ?_
 refine za (λh3=>hE (Xv h2 (by omega)) hS) (λh3=>?_)
 have lM:=Pv h2 (by omega)
 generalize hm:j5 (q.take 2)=m at *
 have hS:=bI.nil (t:=174) (sz:=3) hS
 refine⟨λvs w=>∃(i at_:Nat) (u:Value) (l:List ie),vs=[.int .i64 at_,u,.int .i64 i]/\i<=m/\l.length=i/\at_<=q.length/\lL q=pk l (m-i) ⟨q.drop at_,0⟩/\SL W (.ob (bI u 174 3 l.length (l.map iR).flatten)::X::F) w,
  λvs _=>match vs with|[_,_,.int _ i]=>(m-i).toNat|_=>0,⟨0,2,_,[],rfl,by omega,rfl,h2,lM,hS⟩,?_⟩
 clear hS lM
 rintro v5 v6 v7 w ⟨i,at_,u,l,jR,s_,EG,kM,lM,hS⟩
 cases jR
 refine b9 (λh4=>?_) (λh4=>?_)
 ·have s_:i<m:=by omega
  obtain⟨r,hr⟩:∃r,m-i=r+1:=⟨m-i-1,by omega⟩
  have vE:m-(i+1)=r:=by omega
  rw[hr]at lM
  refine zM hS Xh hq ?_
  refine b9 (λh5=>?_) (λh5=>?_)
  ·have:q.drop at_=[]:=List.drop_eq_nil_of_le (by omega)
   rw[this,Xz]at lM
   exact hE lM (aR hS)
  ·have RI:at_<q.length:=by omega
   rw[List.drop_eq_getElem_cons RI]at lM
   have hx:=q[at_].toNat_lt
   refine yL hS Xh hq RI ?_
   refine yl (by omega) ?_
   refine b9 (λh6=>?_) (λh6=>?_)
   ·rw[Py (by omega)]at lM
    rw[List.length_drop]at lM
    refine zM hS Xh hq ?_
    refine b9 (λh7=>?_) (λh7=>?_)
    ·rw[if_pos (by omega)]at lM
     exact hE lM (aR hS)
    ·rw[if_neg (by omega)]at lM
     refine yh (a:=at_+1) (b:=8) (by omega) ?_
     refine Yl (lo:=at_+1) (hi:=at_+1+8) hS Xh hq (by omega) (by omega) ?_
     intro Jq Rp
     rw[show at_+1+8-(at_+1)=8 by omega]at Rp
     refine Cc (yk X Jq ((q.drop (at_+1)).take 8) Rp (by rw[List.length_take];omega)) ?_;clear hS
     rintro v post ⟨rfl,rfl⟩ w hS;(try simp only[app]at hS)
     have hb8:j5 ((q.drop (at_+1)).take 8)<18446744073709551616:=BP 8 _ (by rw[List.length_take,List.length_drop];omega)
     refine zO ?_
     rw[UT hb8]
     refine Cc (zP (sig (j5 ((q.drop (at_+1)).take 8)))) ?_;clear hS
     rintro v post ⟨rfl,rfl⟩ w hS;(try simp only[app]at hS)
     refine zD (cells:=iR ⟨1,sig (j5 ((q.drop (at_+1)).take 8)),⟨#[]⟩⟩) hS rfl ?_
     clear hS;intro p w hS
     refine zy (m:=1) (cs:=iR ⟨1,sig (j5 ((q.drop (at_+1)).take 8)),⟨#[]⟩⟩) hS Xr (lX hS .hd rfl) rfl rfl (D3 _) (by omega) (by omega) ?_
     clear hS;intro u' w hS
     refine yh (a:=at_+1) (b:=8) (by omega) ?_
     refine Gp ?_
     refine⟨⟨i+1,at_+1+8,u',l++[⟨1,sig (j5 ((q.drop (at_+1)).take 8)),⟨#[]⟩⟩],rfl,by omega,by simp;omega,by omega,?_,?_⟩,by dsimp only;omega⟩
     ·rw[lM,vE,List.drop_drop]
     ·rw[show (l++[(⟨1,sig (j5 ((q.drop (at_+1)).take 8)),⟨#[]⟩⟩:ie)]).length=l.length+1 by simp,show ((l++[(⟨1,sig (j5 ((q.drop (at_+1)).take 8)),⟨#[]⟩⟩:ie)]).map iR).flatten=(l.map iR).flatten++iR ⟨1,sig (j5 ((q.drop (at_+1)).take 8)),⟨#[]⟩⟩ by simp]
      exact aR hS
   ·refine b9 (λh7=>?_) (λh7=>?_)
    ·rw[Pz (by omega)]at lM
     rw[List.length_drop]at lM
     refine zM hS Xh hq ?_
     refine b9 (λh8=>?_) (λh8=>?_)
     ·rw[if_pos (by omega)]at lM
      exact hE lM (aR hS)
     ·rw[if_neg (by omega)]at lM
      refine yh (a:=at_+1) (b:=2) (by omega) ?_
      refine Yl (lo:=at_+1) (hi:=at_+1+2) hS Xh hq (by omega) (by omega) ?_
      intro Jt G3
      rw[show at_+1+2-(at_+1)=2 by omega]at G3
      refine Cc (yk X Jt ((q.drop (at_+1)).take 2) G3 (by rw[List.length_take];omega)) ?_;clear hS
      rintro v post ⟨rfl,rfl⟩ w hS;(try simp only[app]at hS)
      have pM:j5 ((q.drop (at_+1)).take 2)<65536:=BP 2 _ (by rw[List.length_take,List.length_drop];omega)
      generalize j5 ((q.drop (at_+1)).take 2)=z at *
      refine yl (by omega) ?_
      refine yh (a:=at_+1) (b:=2) (by omega) ?_
      refine b9 (λh9=>?_) (λh9=>?_)
      ·rw[if_pos (by omega)]at lM
       exact hE lM (aR hS)
      ·rw[if_neg (by omega)]at lM
       refine zM hS Xh hq ?_
       refine b9 (λuK=>?_) (λuK=>?_)
       ·rw[if_pos (by omega)]at lM
        exact hE lM (aR hS)
       ·rw[if_neg (by omega)]at lM
        refine yh (a:=at_+1+2) (b:=z) (by omega) ?_
        refine Yl (lo:=at_+1+2) (hi:=at_+1+2+z) hS Xh hq (by omega) (by omega) ?_
        intro v86 G5
        rw[show at_+1+2+z-(at_+1+2)=z by omega]at G5
        obtain⟨a86,c86,rfl,_⟩:=G5.sl hS Xh
        refine Yi (bs:=(q.drop (at_+1+2)).take z) ⟨_,_,_,rfl⟩ (G5.src hS Xh) Tryz.underlying62 Tryz.underlying9 Tryz.underlying5 ?_
        refine Cc (Zf (jz ((q.drop (at_+1+2)).take z))) ?_;clear hS
        rintro v post ⟨rfl,rfl⟩ w hS;(try simp only[app]at hS)
        refine zD (cells:=iR ⟨2,0,jz ((q.drop (at_+1+2)).take z)⟩) hS rfl ?_
        clear hS;intro p w hS
        refine zy (m:=1) (cs:=iR ⟨2,0,jz ((q.drop (at_+1+2)).take z)⟩) hS Xr (lX hS .hd rfl) rfl rfl (D3 _) (by omega) (by omega) ?_
        clear hS;intro u' w hS
        refine yh (a:=at_+1+2) (b:=z) (by omega) ?_
        refine Gp ?_
        refine⟨⟨i+1,at_+1+2+z,u',l++[⟨2,0,jz ((q.drop (at_+1+2)).take z)⟩],rfl,by omega,by simp;omega,by omega,?_,?_⟩,by dsimp only;omega⟩
        ·rw[lM,vE,List.drop_drop,List.drop_drop];rfl
        ·rw[show (l++[(⟨2,0,jz ((q.drop (at_+1+2)).take z)⟩:ie)]).length=l.length+1 by simp,show ((l++[(⟨2,0,jz ((q.drop (at_+1+2)).take z)⟩:ie)]).map iR).flatten=(l.map iR).flatten++iR ⟨2,0,jz ((q.drop (at_+1+2)).take z)⟩ by simp]
         exact aR hS
    ·rw[Xy (by omega) (by omega)]at lM
     exact hE lM (aR hS)
 ·have AY:m-i=0:=by omega
  rw[AY,PA,List.length_drop]at lM
  refine zM hS Xh hq ?_
  refine b9 (λh5=>?_) (λh5=>?_)
  ·rw[if_pos (by omega)]at lM
   exact hE lM (aR hS)
  ·rw[if_neg (by omega)]at lM
   refine⟨[.ob (bI v6 174 3 l.length (l.map iR).flatten),X],?_,aR hS⟩
   unfold se
   rw[lM]
   exact⟨v6,rfl,rfl⟩
abbrev mH(u:Value)(L:List ie):Chunk:=.ob (bI u 174 3 L.length (L.map iR).flatten)
theorem aib(L:List ie):∀v∈(L.map iR).flatten,v.oneCell'=true:=pD PS L
theorem yE{W w:World}{l F:List Chunk}{x y:Value}{L M:List ie}{K:Value->World->Prop}(hS:SL W l w)(hr:kG (mH x L) l F)(lC:m8 w 3 y M.length (M.map iR).flatten)(hb:L.length+M.length<=1000000)
  (h:∀v' w',SL W (mH v' (L++M)::F) w'->K v' w'):zr 3 32 [.int .i64 0,.int .i64 0,.string ⟨#[]⟩] 174 x y w K:=
 zy hS hr lC (l8 vn M) rfl (aib M) (by omega) (by omega) λv' w' hS=>h v' w' (by
  have e:((L++M).map iR).flatten=(L.map iR).flatten++(M.map iR).flatten:=by simp
  show SL W (.ob (bI v' 174 3 (L++M).length ((L++M).map iR).flatten)::F) w'
  rw[e,List.length_append];exact hS)
theorem Dl{W w:World}{l:List Chunk}{b:Nat}{x:ie}(hS:SL W l w)(m:Has (.pt b (iR x) 174) l):m8 w 3 (.slice (some ⟨b,0,none⟩) 1 1) [x].length ([x].map iR).flatten:=by
 simpa using lX (m:=1) (sz:=3) (cap:=1) hS m rfl
section
variable (b:Nat) (x1 x2 x3 x4 x5 x6 x7:Int) (t:TypeId)
theorem bFb:SP 225 [.slice (some ⟨b,0,none⟩) 1 1] [.pt b [.int .i64 x1] t] (λu post=>post=[mH u [iF x1]]):=Zz b [x1] t (by simp)
theorem bFd:SP 225 [.slice (some ⟨b,0,none⟩) 4 4] [.pt b [.int .i64 x1,.int .i64 x2,.int .i64 x3,.int .i64 x4] t] (λu post=>post=[mH u [iF x1,iF x2,iF x3,iF x4]]):=Zz b [x1,x2,x3,x4] t (by simp)
end
theorem aio{α β:Type}{f:α->List β}{n:Nat}(hn:∀x,(f x).length=n)(xs:List α):((xs.map f).flatten).length=xs.length*n:=by
 induction xs with
 | nil=>simp
 | cons x xs ih=>simp[hn,ih,Nat.add_mul];omega
theorem QT(on:Bool):SP 302 [.bool on] [] (eW (agg (iR (iF (so on)))) []):=by
 intro W F w hS;apply dF5;delta Na ai dw;(try simp only[app]at hS)
 refine Gm λb w hS=>?_
 cases on with
 | true=>
  refine zw ?_
  refine Cg (zP 1) λw hS=>?_
  (exact fw hS)
 | false=>
  refine zt ?_
  refine Cg (zP 0) λw hS=>?_
  (exact fw hS)
section
variable (a b c d e f g:ie)
abbrev zF:List Value:=[.int .i64 0,.int .i64 0,.string ⟨#[]⟩]
theorem P_:lr (cW zF 2) [(0,3,agg (iR a)),(3,3,agg (iR b))]=some ([a,b].map iR).flatten:=by simp[lr,cW,Value.cells,iR]
theorem Q_:lr (cW zF 4) [(0,3,agg (iR a)),(3,3,agg (iR b)),(6,3,agg (iR c)),(9,3,agg (iR d))]=some ([a,b,c,d].map iR).flatten:=by simp[lr,cW,Value.cells,iR]
end
def pL(c:iy):List ie:=[iF c.table,iF c.key,iF (so c.gone),tF c.val]
theorem b9t(c:iy):SP 249 [agg (jE c)] [] (λu post=>post=[mH u (pL c)]):=by
 intro W F w hS;apply dwr;delta Ml a_ aW ai dw;(try simp only[app]at hS)
 refine zC hS λcb w hS=>?_
 unfold jE at hS
 refine Gn λw hS=>?_
 refine Cg (zP c.table) λw hS=>?_
 refine Cg (zP c.key) λw hS=>?_
 refine Cg (QT c.gone) λw hS=>?_
 refine Cg (Zf c.val) λw hS=>?_
 refine zD hS (Q_ (iF c.table) (iF c.key) (iF (so c.gone)) (tF c.val)) λb w hS=>?_
 have hS:=bI.full (n:=4) (sz:=3) rfl hS
 exact⟨_,rfl,SL.b_ (show SL W (mH _ (pL c)::_) _ from hS) Xi⟩
def gI(m:Int)(r:e_):Int × e_:=match r.bad,r.l with
 | false,f::l=>if f.kind=1/\0<=f.n/\f.n<=m then (f.n,⟨l,false⟩) else (0,⟨f::l,true⟩)
 | _,l=>(0,⟨l,true⟩)
def tO(r:e_):Bool × e_:=(decide ((gI 1 r).1=1),(gI 1 r).2)
section
variable {α β γ:Type}
def km(p:e_->α × e_):Prop:=∀r,r.bad=true->(p r).2.bad=true
structure mf(p q:e_->α × e_)(V:α->Prop):Prop where
 same:∀r,(q r).2.bad=false->p r=q r
 bad:∀r,(q r).2.bad=true->(p r).2.bad=true\/V (p r).1
def jM(p:e_->α × e_)(f:α->e_->β × e_)(r:e_):(α × β) × e_:=(((p r).1,(f (p r).1 (p r).2).1),(f (p r).1 (p r).2).2)
def oC(g:α->β)(p:e_->α × e_)(r:e_):β × e_:=(g (p r).1,(p r).2)
theorem km.seq{p:e_->α × e_}{f:α->e_->β × e_}(hp:km p)(hf:∀a,km (f a)):km (jM p f):=λr h=>hf _ _ (hp r h)
theorem km.map{p:e_->α × e_}(g:α->β)(hp:km p):km (oC g p):=λr h=>hp r h
theorem mf.seq{p q:e_->α × e_}{f g:α->e_->β × e_}{V:α->Prop}{U:β->Prop}(h:mf p q V)(k:∀a,mf (f a) (g a) U)(hg:∀a,km (g a))(hf:∀a,km (f a)):mf (jM p f) (jM q g) λx=>V x.1\/U x.2:=by
 refine⟨λr hr=>?_,λr hr=>?_⟩
 ·have h1:(q r).2.bad=false:=by
   cases hb:(q r).2.bad with
   | false=>rfl
   | true=>have h2:(g (q r).1 (q r).2).2.bad=false:=hr;rw[hg _ _ hb]at h2;cases h2
  unfold jM
  rw[h.same r h1,(k _).same _ hr]
 ·cases h1:(q r).2.bad with
  | false=>
   have e:=h.same r h1
   have EL:(g (q r).1 (q r).2).2.bad=true:=hr
   rcases (k _).bad _ EL with h2|h2
   ·left;unfold jM;rw[e];exact h2
   ·right;right;unfold jM;rw[e];exact h2
  | true=>
   rcases h.bad r h1 with h2|h2
   ·exact .inl (hf _ _ h2)
   ·exact .inr (.inl h2)
theorem mf.map{p q:e_->α × e_}{V:α->Prop}{U:β->Prop}(h:mf p q V)(g:α->β)(hv:∀x,V x->U (g x)):mf (oC g p) (oC g q) U:=
 ⟨λr hr=>by unfold oC;rw[h.same r hr],λr hr=>(h.bad r hr).imp id (hv _)⟩
theorem km.many{p:e_->α × e_}(hp:km p):∀i,km (iX p i)
 | 0,r,h=>h
 | i+1,r,h=>by unfold iX;rw[if_pos h];exact h
theorem mf.many{p q:e_->α × e_}{V:α->Prop}(h:mf p q V)(hp:km p)(hq:km q):∀i,mf (iX p i) (iX q i) λl=>∃x∈l,V x
 | 0=>⟨λr _=>rfl,λr hr=>.inl hr⟩
 | i+1=>by
  have ih:=mf.many h hp hq i
  refine⟨λr hr=>?_,λr hr=>?_⟩
  ·unfold iX at hr ⊢
   cases hb:r.bad with
   | true=>simp[hb]at hr ⊢
   | false=>
    simp only[hb]at hr ⊢
    have hr:(iX q i (q r).2).2.bad=false:=hr
    have h1:(q r).2.bad=false:=by
     cases h1:(q r).2.bad with
     | false=>rfl
     | true=>rw[km.many hq i _ h1]at hr;cases hr
    rw[h.same r h1,ih.same _ hr]
  ·unfold iX at hr ⊢
   cases hb:r.bad with
   | true=>left;simp[hb]
   | false=>
    simp only[hb]at hr ⊢
    have hr:(iX q i (q r).2).2.bad=true:=hr
    show (iX p i (p r).2).2.bad=true\/∃x∈(p r).1::(iX p i (p r).2).1,V x
    cases h1:(q r).2.bad with
    | false=>
     rw[h.same r h1]
     rcases ih.bad _ hr with h2|⟨x,h2,h3⟩
     ·exact .inl h2
     ·exact .inr ⟨x,.tail _ h2,h3⟩
    | true=>
     rcases h.bad r h1 with h2|h2
     ·exact .inl (km.many hp i _ h2)
     ·exact .inr ⟨_,.head _,h2⟩
end
theorem TN(k:Int){r:e_}(h:r.bad=true):(oZ k r).2.bad=true:=by unfold oZ;rw[h]
theorem C2:km ko:=λr h=>TN 1 h
theorem pT:km jF:=λr h=>TN 2 h
theorem y_(m:Int):km (iN m):=λr h=>by unfold iN;split;rfl;exact C2 r h
theorem O':km rJ:=λr h=>y_ 1 r h
theorem ue(m:Int):km (gI m):=λr h=>by unfold gI;rw[h]
theorem Rc:km tO:=λr h=>ue 1 r h
theorem Im(m:Int)(f:ie)(l:List ie):gI m ⟨f::l,false⟩=if f.kind=1/\0<=f.n/\f.n<=m then (f.n,⟨l,false⟩) else (0,⟨f::l,true⟩):=rfl
theorem S4(f:ie)(l:List ie):ko ⟨f::l,false⟩=if f.kind=1 then (f.n,⟨l,false⟩) else (0,⟨f::l,true⟩):=by
 unfold ko oZ
 simp only
 split<;>rfl
theorem A9(m:Int):mf ko (gI m) λn=>¬(0<=n/\n<=m):=by
 refine⟨λr h=>?_,λr h=>?_⟩
 ·obtain⟨l,b⟩:=r
  cases b with
  | true=>cases h
  | false=>
   cases l with
   | nil=>cases h
   | cons f l=>
    rw[Im]at h ⊢
    rw[S4]
    split at h
    ·rename_i hc;rw[if_pos hc,if_pos hc.1]
    ·cases h
 ·obtain⟨l,b⟩:=r
  cases b with
  | true=>exact .inl rfl
  | false=>
   cases l with
   | nil=>exact .inl rfl
   | cons f l=>
    rw[Im]at h
    rw[S4]
    split at h
    ·cases h
    ·rename_i hc
     by_cases hk:f.kind=1
     ·right;rw[if_pos hk];exact λhh=>hc ⟨hk,hh⟩
     ·left;rw[if_neg hk]
theorem Ja(m k:Int)(hk:k<=m):mf (iN m) (gI k) λn=>¬(0<=n/\n<=k):=by
 have h0:=A9 k
 have py:∀r,(gI k r).2.bad=false->0<=(gI k r).1/\(gI k r).1<=k:=λr h=>by
  obtain⟨l,b⟩:=r
  unfold gI at h ⊢
  cases b<;>cases l<;>simp only at h ⊢
  ·cases h
  ·split at h
   ·rename_i hc;rw[if_pos hc];exact⟨hc.2.1,hc.2.2⟩
   ·cases h
  ·cases h
  ·cases h
 refine⟨λr h=>?_,λr h=>?_⟩
 ·have:=py r h
  unfold iN
  rw[h0.same r h,if_neg (by omega)]
 ·unfold iN
  split
  ·exact .inl rfl
  ·exact h0.bad r h
theorem WD:mf rJ tO λ_=>False:=by
 have h0:=Ja 1 1 (Int.le_refl _)
 refine⟨λr h=>?_,λr h=>?_⟩
 ·unfold rJ tO;rw[h0.same r h]
 ·left
  rcases h0.bad r h with h1|h1
  ·exact h1
  ·show (iN 1 r).2.bad=true
   unfold iN at h1 ⊢
   split
   ·rfl
   ·rename_i hc
    rw[if_neg hc]at h1
    exact absurd ⟨by omega,by omega⟩ h1
theorem Jo:mf jF jF λ_=>False:=⟨λr h=>rfl,λr h=>.inl h⟩
theorem Dj(m:Int):mf (iN m) (gI m) λ_=>False:=by
 have h0:=Ja m m (Int.le_refl _)
 refine⟨h0.same,λr h=>?_⟩
 rcases h0.bad r h with h1|h1
 ·exact .inl h1
 ·left
  unfold iN at h1 ⊢
  split
  ·rfl
  ·rename_i hc
   rw[if_neg hc]at h1
   exact absurd ⟨by omega,by omega⟩ h1
theorem Pw{b:List UInt8}{l:List ie}(h:lL b= .ok l):l.length<=32767:=by
 rw[BR]at h
 split at h
 ·have h1:=P' (kF 32767 ⟨b,0⟩).1 (kF 32767 ⟨b,0⟩).2
  have h2:=TH 32767 ⟨b,0⟩
  cases h;omega
 ·cases h
theorem FC{m:Int}(hm:0<=m)(r:e_):0<=(iN m r).1/\(iN m r).1<=m:=by
 unfold iN
 split
 ·exact⟨Int.le_refl _,hm⟩
 ·omega
theorem E4{m:Int}(hm:0<=m)(r:e_):0<=(gI m r).1/\(gI m r).1<=m:=by
 obtain⟨l,b⟩:=r
 unfold gI
 cases b with
 | true=>exact⟨Int.le_refl _,hm⟩
 | false=>
  cases l with
  | nil=>exact⟨Int.le_refl _,hm⟩
  | cons f l=>
   simp only
   split
   ·rename_i h;exact⟨h.2.1,h.2.2⟩
   ·exact⟨Int.le_refl _,hm⟩
theorem bIz{α:Type}(one:e_->α × e_){i:Nat}{r:e_}(h:i=0\/r.bad=true):iX one i r=([],r):=by
 cases i with
 | zero=>rfl
 | succ i=>unfold iX;rw[if_pos (by rcases h with h|h;cases h;exact h)]
theorem bIy{α:Type}(one:e_->α × e_){i:Nat}{r:e_}(h:r.bad=false):iX one (i+1) r=((one r).1::(iX one i (one r).2).1,(iX one i (one r).2).2):=by
 conv=>lhs;unfold iX
 rw[if_neg (by rw[h];decide)]
structure nT{α:Type}(one:e_->α × e_)(n:Nat)(r0:e_)(xs:List α)(k:Nat)(r:e_):Prop where
 eq:iX one n r0=(xs++(iX one k r).1,(iX one k r).2)
 le:xs.length+k<=n
theorem nT.start{α:Type}(one:e_->α × e_)(n:Nat)(r:e_):nT one n r [] n r:=⟨rfl,by simp⟩
theorem nT.step{α:Type}{one:e_->α × e_}{n:Nat}{r0:e_}{xs:List α}{k:Nat}{r:e_}(h:nT one n r0 xs (k+1) r)(hb:r.bad=false):nT one n r0 (xs++[(one r).1]) k (one r).2:=
 ⟨by rw[h.eq,bIy one hb];simp,by have:=h.le;rw[List.length_append,List.length_singleton];omega⟩
theorem nT.stop{α:Type}{one:e_->α × e_}{n:Nat}{r0:e_}{xs:List α}{k:Nat}{r:e_}(h:nT one n r0 xs k r)(hb:k=0\/r.bad=true):iX one n r0=(xs,r):=by
 rw[h.eq,bIz one hb,List.append_nil]
theorem DW{b:List UInt8}{e:Int}(h:lL b= .error e):e≠0:=by
 rw[BR]at h
 split at h
 ·cases h
 ·rename_i h2;cases h;exact h2
def JU(rp:Nat)(v:Value)(L:List ie)(k:Nat)(bad:Bool):List Chunk:=[.pt rp [v,.int .i64 k,.bool bad] 339,mH v L]
def ks(rp:Nat)(r:e_):zE:=nr λx:Value × List ie × Nat=>zU (x.2.2<=x.2.1.length/\x.2.1.length<=32767/\r.l=x.2.1.drop x.2.2) (JU rp x.1 x.2.1 x.2.2 r.bad)
theorem ks.iff{W w:World}{rp:Nat}{r:e_}{l:List Chunk}:SL W (.ob (ks rp r)::l) w↔∃(v:Value) (L:List ie) (k:Nat),(k<=L.length/\L.length<=32767/\r.l=L.drop k)/\SL W (.pt rp [v,.int .i64 k,.bool r.bad] 339::mH v L::l) w:=by
 unfold ks JU
 simp only[SL.ex,SL.fact,List.cons_append,List.nil_append]
 exact⟨λ⟨x,h1,h2⟩=>⟨x.1,x.2.1,x.2.2,h1,h2⟩,λ⟨a,b,c,h1,h2⟩=>⟨(a,b,c),h1,h2⟩⟩
theorem drop_nil{α:Type}{L:List α}{k:Nat}(h:k<=L.length):L.drop k=[]↔k=L.length:=by
 rw[List.drop_eq_nil_iff];omega
theorem zR(rp:Nat)(r:e_)(m:Int):SP 244 [.pointer (some ⟨rp,0,none⟩),.int .i64 m] [.ob (ks rp r)] (eW (.int .i64 (gI m r).1) [.ob (ks rp (gI m r).2)]):=by
 obtain⟨l,bad⟩:=r
 intro W F w hS;apply dwm;delta Mg aF bF a_ fR ai;(try simp only[app]at hS)
 obtain⟨v,L,k,⟨hk,hL,hl⟩,hS⟩:=ks.iff.1 hS
 have hl:l=L.drop k:=hl
 subst hl
 simp only at hS
 have gi:∀{w:World},gI m ⟨L.drop k,bad⟩=(0,⟨L.drop k,true⟩)->SL W (.pt rp [v,.int .i64 k,.bool true] 339::mH v L::F) w->∃post,eW (.int .i64 (gI m ⟨L.drop k,bad⟩).1) [.ob (ks rp (gI m ⟨L.drop k,bad⟩).2)] (.int .i64 0) post/\SL W (app post F) w:=λe hS=>by
  rw[e];exact⟨_,⟨rfl,rfl⟩,ks.iff.2 ⟨v,L,k,⟨hk,hL,rfl⟩,hS⟩⟩
 refine Gn λw hS=>?_
 cases bad with
 | true=>
  refine zw ?_
  refine Gn λw hS=>?_
  exact gi rfl hS
 | false=>
  refine zt ?_
  refine Gp ?_
  refine zx hS (v:=v) Xh ?_
  refine b9 (λh=>?_) (λh=>?_)
  ·refine Gn λw hS=>?_
   exact gi (by rw[List.drop_eq_nil_of_le (by omega)];rfl) hS
  ·have ml:k<L.length:=by omega
   have hx:L[k]?=some L[k]:=List.getElem?_eq_getElem ml
   have hc:L.drop k=L[k]::L.drop (k+1):=List.drop_eq_getElem_cons ml
   have hI:∀bad,gI m ⟨L.drop k,bad⟩=match bad with|true=>(0,⟨L.drop k,true⟩)|false=>if L[k].kind=1/\0<=L[k].n/\L[k].n<=m then (L[k].n,⟨L.drop (k+1),false⟩) else (0,⟨L.drop k,true⟩):=λbad=>by
    cases bad with
    | true=>rfl
    | false=>rw[hc];exact Im m _ _
   have hI:=hI false
   simp only at hI
   refine Gp ?_
   refine zJ (i:=0) hS (v:=v) Xh vn hx ml rfl ?_
   refine b9 (λh1=>?_) (λh1=>?_)
   ·refine Gn λw hS=>?_
    exact gi (by rw[hI,if_neg λh=>h1 h.1]) hS
   refine Gp ?_
   refine zJ (i:=1) hS (v:=v) Xh vn hx ml rfl ?_
   refine b9 (λh2=>?_) (λh2=>?_)
   ·refine Gn λw hS=>?_
    exact gi (by rw[hI,if_neg λh=>by omega]) hS
   refine Gp ?_
   refine zJ (i:=1) hS (v:=v) Xh vn hx ml rfl ?_
   refine b9 (λh3=>?_) (λh3=>?_)
   ·refine Gn λw hS=>?_
    exact gi (by rw[hI,if_neg λh=>by omega]) hS
   refine Gn λw hS=>?_
   rw[show ((k+1:Nat):Int)-1=(k:Int) by omega]
   refine zJ (i:=1) hS (v:=v) Xh vn hx ml rfl ?_
   rw[hI,if_pos ⟨Classical.not_not.1 h1,by omega,by omega⟩]
   exact⟨_,⟨rfl,rfl⟩,ks.iff.2 ⟨v,L,k+1,⟨ml,hL,rfl⟩,aR hS⟩⟩
theorem qP(rp:Nat)(r:e_):SP 301 [.pointer (some ⟨rp,0,none⟩)] [.ob (ks rp r)] (eW (.bool (tO r).1) [.ob (ks rp (tO r).2)]):=by
 intro W F w hS;apply dF4;delta M_ ai;(try simp only[app]at hS)
 refine Cg (zR rp r 1) λw hS=>?_
 exact⟨_,⟨rfl,rfl⟩,hS⟩
theorem y9(rp:Nat)(r:e_):SP 245 [.pointer (some ⟨rp,0,none⟩)] [.ob (ks rp r)] (eW (.string (jF r).1) [.ob (ks rp (jF r).2)]):=by
 obtain⟨l,bad⟩:=r
 intro W F w hS;apply dwn;delta Mh aF bF a_ fR ai;(try simp only[app]at hS)
 obtain⟨v,L,k,⟨hk,hL,hl⟩,hS⟩:=ks.iff.1 hS
 have hl:l=L.drop k:=hl
 subst hl
 simp only at hS
 have gi:∀{w:World},oZ 2 ⟨L.drop k,bad⟩=(uG,⟨L.drop k,true⟩)->SL W (.pt rp [v,.int .i64 k,.bool true] 339::mH v L::F) w->∃post,eW (.string (jF ⟨L.drop k,bad⟩).1) [.ob (ks rp (jF ⟨L.drop k,bad⟩).2)] (.string ⟨#[]⟩) post/\SL W (app post F) w:=λe hS=>by
  unfold jF
  rw[e];exact⟨_,⟨rfl,rfl⟩,ks.iff.2 ⟨v,L,k,⟨hk,hL,rfl⟩,hS⟩⟩
 refine Gn λw hS=>?_
 cases bad with
 | true=>
  refine zw ?_
  refine Gn λw hS=>?_
  exact gi rfl hS
 | false=>
  refine zt ?_
  refine Gp ?_
  refine zx hS (v:=v) Xh ?_
  refine b9 (λh=>?_) (λh=>?_)
  ·refine Gn λw hS=>?_
   exact gi (by rw[List.drop_eq_nil_of_le (by omega)];rfl) hS
  ·have ml:k<L.length:=by omega
   have hx:L[k]?=some L[k]:=List.getElem?_eq_getElem ml
   have hc:L.drop k=L[k]::L.drop (k+1):=List.drop_eq_getElem_cons ml
   have hI:oZ 2 ⟨L.drop k,false⟩=if L[k].kind=2 then (L[k],⟨L.drop (k+1),false⟩) else (uG,⟨L.drop k,true⟩):=by rw[hc];rfl
   refine Gp ?_
   refine zJ (i:=0) hS (v:=v) Xh vn hx ml rfl ?_
   refine b9 (λh1=>?_) (λh1=>?_)
   ·refine Gn λw hS=>?_
    exact gi (by rw[hI,if_neg λh=>h1 h]) hS
   refine Gn λw hS=>?_
   rw[show ((k+1:Nat):Int)-1=(k:Int) by omega]
   refine zJ (i:=2) hS (v:=v) Xh vn hx ml rfl ?_
   unfold jF
   rw[hI,if_pos (Classical.not_not.1 h1)]
   exact⟨_,⟨rfl,rfl⟩,ks.iff.2 ⟨v,L,k+1,⟨ml,hL,rfl⟩,aR hS⟩⟩
theorem YM(rp:Nat)(r:e_):SP 246 [.pointer (some ⟨rp,0,none⟩)] [.ob (ks rp r)] (eW (.bool (decide (r.bad=false/\r.l=[]))) [.ob (ks rp r)]):=by
 obtain⟨l,bad⟩:=r
 intro W F w hS;apply dwo;delta Mi bF dW cw;(try simp only[app]at hS)
 obtain⟨v,L,k,⟨hk,hL,hl⟩,hS⟩:=ks.iff.1 hS
 simp only at hl
 refine Gn λw hS=>?_
 cases bad with
 | true=>
  refine zt ?_
  rw[decide_eq_false (by simp)]
  exact⟨_,⟨rfl,rfl⟩,ks.iff.2 ⟨v,L,k,⟨hk,hL,hl⟩,aR hS⟩⟩
 | false=>
  refine zw ?_
  refine Gp ?_
  refine zx hS (v:=v) Xh ?_
  refine Gp ?_
  have e:decide ((k:Int)=(L.length:Int))=decide ((e_.mk l false).bad=false/\(e_.mk l false).l=[]):=by
   rw[decide_eq_decide]
   simp only[true_and]
   rw[hl,drop_nil hk];omega
  rw[e]
  exact⟨_,⟨rfl,rfl⟩,ks.iff.2 ⟨v,L,k,⟨hk,hL,hl⟩,aR hS⟩⟩
def mU(r:e_):iy × e_:=
 let b:=gI 7 r;let c:=gI 1099511627776 b.2;let d:=tO c.2;let e:=jF d.2
 (⟨b.1,c.1,d.1,e.1⟩,e.2)
theorem b9u(rp:Nat)(r:e_):SP 247 [.pointer (some ⟨rp,0,none⟩)] [.ob (ks rp r)] (eW (agg (jE (mU r).1)) [.ob (ks rp (mU r).2)]):=by
 intro W F w hS;apply dwp;delta Mj ai dw;(try simp only[app]at hS)
 refine Gm λb w hS=>?_
 refine Cg (zR rp r 7) λw hS=>?_;refine Gm λb w hS=>?_
 refine Cg (zR rp _ 1099511627776) λw hS=>?_
 refine Cg (qP rp _) λw hS=>?_
 refine Cg (y9 rp _) λw hS=>?_
 simp only[mU]
 exact fw hS
theorem ks.DN{W w:World}{rp:Nat}{r:e_}{l:List Chunk}(h:SL W (.ob (ks rp r)::l) w){K:Value->Prop}(hK:K (.bool r.bad)):cI (.pointer (some ⟨rp,2,none⟩)) w K:=by
 obtain⟨v,L,k,_,hS⟩:=ks.iff.1 h
 exact ye hS .hd rfl hK
def ji(t:gW):Bool:=decide (1<=t.aI/\t.aI<=1099511627776) &&
 (if t.kind=1 then decide (t.mark=0/\t.changes.length<=16/\t.signals.length<=2) && t.changes.all (λc=>ma c 8) && t.signals.all (λs=>decide (s.size<=40))
  else decide ((t.kind=2\/t.kind=3)/\1<=t.mark/\t.mark<=1099511627776/\t.changes=[]/\t.signals=[]))
theorem wN{c:iy}{k:Int}:ma c k=true↔0<=c.table/\c.table<k/\1<=c.key/\c.key<=1099511627776/\c.val.size<=32/\(c.gone=true->c.val=emp):=by unfold ma;rw[decide_eq_true_eq]
theorem wO{t:gW}:ji t=true↔(1<=t.aI/\t.aI<=1099511627776) /\
  ((t.kind=1/\t.mark=0/\t.changes.length<=16/\t.signals.length<=2/\(∀c∈t.changes,ma c 8=true)/\∀s∈t.signals,s.size<=40) \/
   ((t.kind=2\/t.kind=3)/\1<=t.mark/\t.mark<=1099511627776/\t.changes=[]/\t.signals=[])):=by
 unfold ji
 rw[Bool.and_eq_true,decide_eq_true_eq]
 refine and_congr_right λ_=>?_
 split
 ·rename_i hk
  rw[Bool.and_eq_true,Bool.and_eq_true,decide_eq_true_eq,List.all_eq_true,List.all_eq_true]
  constructor
  ·rintro ⟨⟨⟨h1,h2,h3⟩,h4⟩,h5⟩
   exact .inl ⟨hk,h1,h2,h3,h4,λs hs=>of_decide_eq_true (h5 s hs)⟩
  ·rintro (⟨_,h1,h2,h3,h4,h5⟩|⟨h,_⟩)
   ·exact⟨⟨⟨h1,h2,h3⟩,h4⟩,λs hs=>decide_eq_true (h5 s hs)⟩
   ·omega
 ·rename_i hk
  rw[decide_eq_true_eq]
  constructor
  ·exact λh=>.inr h
  ·rintro (⟨h,_⟩|h)
   ·exact absurd h hk
   ·exact h
theorem nB{t:gW}(h:ji t=true):(1<=t.aI/\t.aI<=1099511627776)/\(1<=t.kind/\t.kind<=3)/\(0<=t.mark/\t.mark<=1099511627776)/\t.changes.length<=16/\t.signals.length<=2/\(∀c∈t.changes,ma c 8=true)/\∀s∈t.signals,s.size<=40:=by
 obtain⟨h1,h2⟩:=wO.1 h
 rcases h2 with ⟨k,m,a,b,c,d⟩|⟨k,m1,m2,a,b⟩
 ·exact⟨h1,by omega,by omega,a,b,c,d⟩
 ·rw[a,b];exact⟨h1,by omega,by omega,by simp,by simp,by simp,by simp⟩
def mV(t:gW):List ie:=[iF t.aI,iF t.kind,iF t.mark,iF t.changes.length]++(t.changes.map pL).flatten++([iF t.signals.length]++t.signals.map tF)
def uF(t:gW):Except Int (List UInt8):=if ji t=true then po (mV t) else .error 1
theorem aia(t:gW):(mV t).length=5+t.changes.length*4+t.signals.length:=by
 unfold mV
 simp only[List.length_append,List.length_cons,List.length_nil,List.length_map]
 rw[D8 (f:=pL) (k:=4) (λ_=>rfl)]
 omega
theorem Z_{t:gW}(h:ji t=true):∀f∈mV t,xZ f:=by
 obtain⟨h1,h2,h3,h4,h5,h6,h7⟩:=nB h
 intro f hf
 unfold mV at hf
 simp only[List.mem_append,List.mem_cons,List.mem_flatten,List.mem_map,List.not_mem_nil,or_false]at hf
 rcases hf with ((rfl|rfl|rfl|rfl)|⟨l,⟨c,hc,rfl⟩,hf⟩)|rfl|⟨s,hs,rfl⟩
 ·exact tg (by omega)
 ·exact tg (by omega)
 ·exact tg (by omega)
 ·exact tg (by omega)
 ·have h8:=wN.1 (h6 c hc)
  have hb:=O9 c.gone
  unfold pL at hf
  simp only[List.mem_cons,List.not_mem_nil,or_false]at hf
  rcases hf with rfl|rfl|rfl|rfl
  ·exact tg (by omega)
  ·exact tg (by omega)
  ·exact tg (by omega)
  ·exact .inr ⟨rfl,rfl,by show c.val.size<=4096;omega⟩
 ·exact tg (by omega)
 ·have:=h7 s hs
  exact .inr ⟨rfl,rfl,by show s.size<=4096;omega⟩
theorem PY{t:gW}(h:ji t=true):uF t= .ok (iI (mV t).length 2++((mV t).map jL).flatten)/\lL (iI (mV t).length 2++((mV t).map jL).flatten)= .ok (mV t):=by
 have hl:=aia t
 obtain⟨_,_,_,h4,h5,_,_⟩:=nB h
 obtain⟨e1,e2⟩:=Pu (l:=mV t) (by omega) (Z_ h)
 exact⟨by unfold uF;rw[if_pos h,e1],e2⟩
def jK{α:Type}(one:e_->α × e_):Nat->e_->List α × e_
 | 0,r=>([],r)
 | i+1,r=>((one r).1::(jK one i (one r).2).1,(jK one i (one r).2).2)
theorem km.jK{α:Type}{p:e_->α × e_}(hp:km p):∀i,km (jK p i)
 | 0,r,h=>h
 | i+1,r,h=>km.jK hp i _ (hp r h)
theorem mf.jK{α:Type}{p q:e_->α × e_}{V:α->Prop}(h:mf p q V)(hp:km p)(hq:km q):∀i,mf (jK p i) (iX q i) λl=>∃x∈l,V x
 | 0=>⟨λr _=>rfl,λr hr=>.inl hr⟩
 | i+1=>by
  have ih:=mf.jK h hp hq i
  refine⟨λr hr=>?_,λr hr=>?_⟩
  ·unfold YtfenmffiidchcaaGreat.jK iX
   unfold iX at hr
   cases hb:r.bad with
   | true=>simp[hb]at hr
   | false=>
    simp only[hb]at hr ⊢
    have hr:(iX q i (q r).2).2.bad=false:=hr
    have h1:(q r).2.bad=false:=by
     cases h1:(q r).2.bad with
     | false=>rfl
     | true=>rw[km.many hq i _ h1]at hr;cases hr
    rw[h.same r h1,ih.same _ hr];rfl
  ·cases hb:r.bad with
   | true=>exact .inl (km.jK hp (i+1) r hb)
   | false=>
    unfold iX at hr
    simp only[hb]at hr
    have hr:(iX q i (q r).2).2.bad=true:=hr
    show (YtfenmffiidchcaaGreat.jK p i (p r).2).2.bad=true\/∃x∈(p r).1::(YtfenmffiidchcaaGreat.jK p i (p r).2).1,V x
    cases h1:(q r).2.bad with
    | false=>
     rw[h.same r h1]
     rcases ih.bad _ hr with h2|⟨x,h2,h3⟩
     ·exact .inl h2
     ·exact .inr ⟨x,.tail _ h2,h3⟩
    | true=>
     rcases h.bad r h1 with h2|h2
     ·exact .inl (km.jK hp i _ h2)
     ·exact .inr ⟨_,.head _,h2⟩
def na(r:e_):iy × e_:=
 let b:=iN 8 r;let c:=ko b.2;let d:=rJ c.2;let e:=jF d.2
 (⟨b.1,c.1,d.1,e.1⟩,e.2)
def C_(x:Int × Int × Bool × ByteArray):iy:=⟨x.1,x.2.1,x.2.2.1,x.2.2.2⟩
theorem Ph:na=oC C_ (jM (iN 8) λ_=>jM ko λ_=>jM rJ λ_=>jF):=by funext r;simp only[na,oC,jM,C_]
theorem Pj:mU=oC C_ (jM (gI 7) λ_=>jM (gI 1099511627776) λ_=>jM tO λ_=>jF):=by funext r;simp only[mU,oC,jM,C_]
theorem Gh:km na:=by rw[Ph];exact ((y_ 8).seq λ_=>C2.seq λ_=>O'.seq λ_=>pT).map _
theorem Gi:km mU:=by rw[Pj];exact ((ue 7).seq λ_=>(ue _).seq λ_=>Rc.seq λ_=>pT).map _
def DE(c:iy):Prop:=¬(0<=c.table/\c.table<=7)\/¬(0<=c.key/\c.key<=1099511627776)
theorem W1:mf na mU DE:=by
 rw[Ph,Pj]
 have a4:=WD.seq (f:=λ_=>jF) (g:=λ_=>jF) (λ_=>Jo) (λ_=>pT) (λ_=>pT)
 have Tn:km (jM rJ λ_=>jF):=O'.seq λ_=>pT
 have To:km (jM tO λ_=>jF):=Rc.seq λ_=>pT
 have a3:=(A9 1099511627776).seq (f:=λ_=>jM rJ λ_=>jF) (g:=λ_=>jM tO λ_=>jF) (λ_=>a4) (λ_=>To) (λ_=>Tn)
 have m3p:km (jM ko λ_=>jM rJ λ_=>jF):=C2.seq λ_=>Tn
 have m3q:km (jM (gI 1099511627776) λ_=>jM tO λ_=>jF):=(ue _).seq λ_=>To
 have a2:=(Ja 8 7 (by decide)).seq (f:=λ_=>jM ko λ_=>jM rJ λ_=>jF) (g:=λ_=>jM (gI 1099511627776) λ_=>jM tO λ_=>jF) (λ_=>a3) (λ_=>m3q) (λ_=>m3p)
 refine a2.map C_ λx h=>?_
 rcases h with h|h|h|h
 ·exact .inl h
 ·exact .inr h
 ·exact h.elim
 ·exact h.elim
def Fi(x:Int × Int × Int × (Int × List iy) × (Int × List ByteArray)):gW:=⟨x.1,x.2.1,x.2.2.2.1.2,x.2.2.2.2.2,x.2.2.1⟩
def ke{α:Type}(i:e_->Int × e_)(m:Nat->e_->List α × e_):e_->(Int × List α) × e_:=jM i λn=>m n.toNat
def nq:e_->gW × e_:=oC Fi (jM ko λ_=>jM (iN 3) λ_=>jM ko λ_=>jM (ke (iN 16) (jK na)) λ_=>ke (iN 2) (jK jF))
def oI:e_->gW × e_:=oC Fi (jM (gI 1099511627776) λ_=>jM (gI 3) λ_=>jM (gI 1099511627776) λ_=>jM (ke (gI 16) (iX mU)) λ_=>ke (gI 2) (iX jF))
def J2(t:gW):Prop:=¬(0<=t.aI/\t.aI<=1099511627776)\/¬(0<=t.mark/\t.mark<=1099511627776)\/∃c∈t.changes,DE c
theorem Vk:mf nq oI J2:=by
 unfold nq oI
 have c1:mf (ke (iN 16) (jK na)) (ke (gI 16) (iX mU)) λx=>False\/∃o∈x.2,DE o:=(Dj 16).seq (λn=>W1.jK Gh Gi n.toNat) (λn=>Gi.many _) (λn=>Gh.jK _)
 have s1:mf (ke (iN 2) (jK jF)) (ke (gI 2) (iX jF)) λx=>False\/∃o∈x.2,False:=(Dj 2).seq (λn=>Jo.jK pT pT n.toNat) (λn=>pT.many _) (λn=>pT.jK _)
 have mc:km (ke (iN 16) (jK na)):=(y_ _).seq λn=>Gh.jK _
 have Iu:km (ke (gI 16) (iX mU)):=(ue _).seq λn=>Gi.many _
 have ms:km (ke (iN 2) (jK jF)):=(y_ _).seq λn=>pT.jK _
 have TI:km (ke (gI 2) (iX jF)):=(ue _).seq λn=>pT.many _
 have a4:=c1.seq (f:=λ_=>ke (iN 2) (jK jF)) (g:=λ_=>ke (gI 2) (iX jF)) (λ_=>s1) (λ_=>TI) (λ_=>ms)
 have p4:=mc.seq (f:=λ_=>ke (iN 2) (jK jF)) λ_=>ms
 have q4:=Iu.seq (f:=λ_=>ke (gI 2) (iX jF)) λ_=>TI
 have a3:=(A9 1099511627776).seq (f:=λ_=>jM (ke (iN 16) (jK na)) λ_=>ke (iN 2) (jK jF)) (g:=λ_=>jM (ke (gI 16) (iX mU)) λ_=>ke (gI 2) (iX jF)) (λ_=>a4) (λ_=>q4) (λ_=>p4)
 have p3:=C2.seq (f:=λ_=>jM (ke (iN 16) (jK na)) λ_=>ke (iN 2) (jK jF)) λ_=>p4
 have q3:=(ue 1099511627776).seq (f:=λ_=>jM (ke (gI 16) (iX mU)) λ_=>ke (gI 2) (iX jF)) λ_=>q4
 have a2:=(Dj 3).seq (f:=λ_=>jM ko λ_=>jM (ke (iN 16) (jK na)) λ_=>ke (iN 2) (jK jF)) (g:=λ_=>jM (gI 1099511627776) λ_=>jM (ke (gI 16) (iX mU)) λ_=>ke (gI 2) (iX jF)) (λ_=>a3) (λ_=>q3) (λ_=>p3)
 have p2:=(y_ 3).seq (f:=λ_=>jM ko λ_=>jM (ke (iN 16) (jK na)) λ_=>ke (iN 2) (jK jF)) λ_=>p3
 have q2:=(ue 3).seq (f:=λ_=>jM (gI 1099511627776) λ_=>jM (ke (gI 16) (iX mU)) λ_=>ke (gI 2) (iX jF)) λ_=>q3
 have a1:=(A9 1099511627776).seq (f:=λ_=>jM (iN 3) λ_=>jM ko λ_=>jM (ke (iN 16) (jK na)) λ_=>ke (iN 2) (jK jF)) (g:=λ_=>jM (gI 3) λ_=>jM (gI 1099511627776) λ_=>jM (ke (gI 16) (iX mU)) λ_=>ke (gI 2) (iX jF)) (λ_=>a2) (λ_=>q2) (λ_=>p2)
 refine a1.map Fi λx h=>?_
 rcases h with h|h|h|(h|h)|(h|⟨_,_,h⟩)
 ·exact .inl h
 ·exact h.elim
 ·exact .inr (.inl h)
 ·exact h.elim
 ·exact .inr (.inr h)
 ·exact h.elim
 ·exact h.elim
theorem bI4{t:gW}(h:ji t=true):¬J2 t:=by
 obtain⟨h1,h2,h3,h4,h5,h6,h7⟩:=nB h
 rintro (hv|hv|⟨c,hc,hv⟩)
 ·omega
 ·omega
 ·have:=wN.1 (h6 c hc)
  unfold DE at hv
  omega
def wq(l:List ie):Option gW:=
 let x:=nq ⟨l,false⟩
 if x.2.bad=false/\x.2.l=[]/\ji x.1=true then some x.1 else none
def DY(l:List ie):Option gW:=
 let x:=oI ⟨l,false⟩
 if x.2.bad=false/\x.2.l=[]/\ji x.1=true then some x.1 else none
theorem PC(l:List ie):DY l=wq l:=by
 unfold DY wq
 simp only
 cases hb:(oI ⟨l,false⟩).2.bad with
 | false=>rw[Vk.same _ hb,hb]
 | true=>
  rw[if_neg (by simp),if_neg]
  rintro ⟨h1,_,h3⟩
  rcases Vk.bad _ hb with h|h
  ·rw[h]at h1;cases h1
  ·exact bI4 h3 h
def mw(b:List UInt8):Except Int gW:=match lL b with
 | .error e=>.error e
 | .ok l=>match wq l with
  | some t=>.ok t
  | none=>.error 3
theorem Fa{α:Type}{one:e_->α × e_}{f:α->List ie}:∀(xs:List α) (l:List ie),(∀x∈xs,∀l,one ⟨f x++l,false⟩=(x,⟨l,false⟩))->jK one xs.length ⟨(xs.map f).flatten++l,false⟩=(xs,⟨l,false⟩)
 | [],l,_=>rfl
 | x::xs,l,h=>by
  have ih:=Fa xs l λy hy=>h y (.tail _ hy)
  have h1:=h x (.head _) ((xs.map f).flatten++l)
  rw[List.map_cons,List.flatten_cons,List.append_assoc,List.length_cons,jK,h1,ih]
theorem W0{c:iy}{l:List ie}(h:0<=c.table/\c.table<=8):na ⟨pL c++l,false⟩=(c,⟨l,false⟩):=by
 unfold na pL
 have e2:iN 8 ⟨[iF c.table,iF c.key,iF (so c.gone),tF c.val]++l,false⟩=(c.table,⟨[iF c.key,iF (so c.gone),tF c.val]++l,false⟩):=z' h
 have e3:ko ⟨[iF c.key,iF (so c.gone),tF c.val]++l,false⟩=(c.key,⟨[iF (so c.gone),tF c.val]++l,false⟩):=rfl
 have e4:rJ ⟨[iF (so c.gone),tF c.val]++l,false⟩=(c.gone,⟨[tF c.val]++l,false⟩):=WE
 have e5:jF ⟨[tF c.val]++l,false⟩=(c.val,⟨l,false⟩):=rfl
 simp only[e2,e3,e4,e5]
theorem cF6{t:gW}(h:ji t=true):nq ⟨mV t,false⟩=(t,⟨[],false⟩):=by
 obtain⟨h1,h2,h3,h4,h5,h6,h7⟩:=nB h
 have e0:mV t=iF t.aI::(iF t.kind::(iF t.mark::(iF t.changes.length::((t.changes.map pL).flatten++(iF t.signals.length::((t.signals.map λs=>[tF s]).flatten++[])))))):=by
  unfold mV
  have:∀l:List ByteArray,l.map tF=(l.map λs=>[tF s]).flatten:=λl=>by induction l with
   | nil=>rfl
   | cons x l ih=>rw[List.map_cons,List.map_cons,List.flatten_cons,ih];rfl
  rw[this];simp
 rw[e0]
 have e1:∀n l,ko ⟨iF n::l,false⟩=(n,⟨l,false⟩):=λn l=>rfl
 have e2:∀l,iN 3 ⟨iF t.kind::l,false⟩=(t.kind,⟨l,false⟩):=λl=>z' (by omega)
 have e3:∀l,iN 16 ⟨iF t.changes.length::l,false⟩=((t.changes.length:Int),⟨l,false⟩):=λl=>z' (by omega)
 have e4:∀l,jK na t.changes.length ⟨(t.changes.map pL).flatten++l,false⟩=(t.changes,⟨l,false⟩):=λl=>Fa t.changes l λc hc l=>W0 (by have:=wN.1 (h6 c hc);omega)
 have e5:∀l,iN 2 ⟨iF t.signals.length::l,false⟩=((t.signals.length:Int),⟨l,false⟩):=λl=>z' (by omega)
 have e6:∀l,jK jF t.signals.length ⟨(t.signals.map λs=>[tF s]).flatten++l,false⟩=(t.signals,⟨l,false⟩):=λl=>Fa t.signals l λs hs l=>rfl
 unfold nq ke oC jM Fi
 simp only[e1,e2,e3,e4,e5,e6,Int.toNat_natCast]
theorem PE{t:gW}(h:ji t=true):∃b,uF t= .ok b/\mw b= .ok t:=by
 obtain⟨e1,e2⟩:=PY h
 refine⟨_,e1,?_⟩
 unfold mw
 rw[e2]
 have e3:wq (mV t)=some t:=by
  unfold wq
  rw[cF6 h]
  simp only
  rw[if_pos ⟨trivial,trivial,h⟩]
 simp only[e3]
theorem Gx{b:List UInt8}{t:gW}(h:mw b= .ok t):ji t=true:=by
 unfold mw at h
 split at h
 ·cases h
 ·split at h
  ·rename_i x hx
   cases h
   unfold wq at hx
   simp only at hx
   split at hx
   ·rename_i hc;cases hx;exact hc.2.2
   ·cases hx
  ·cases h
def pZ(t:gW):List UInt8:=match uF t with
 | .ok b=>b
 | .error _=>[]
theorem Pd{t:gW}(h:ji t=true):mw (pZ t)= .ok t:=by
 obtain⟨b,e1,e2⟩:=PE h
 unfold pZ
 rw[e1];exact e2
theorem Pe{t:gW}(h:ji t=true):uF t= .ok (pZ t):=by
 obtain⟨b,e1,_⟩:=PE h
 unfold pZ
 rw[e1]
theorem DQ{t:gW}(h:ji t=true):(pZ t).length<=1200:=by
 obtain⟨h1,h2,h3,h4,h5,h6,h7⟩:=nB h
 unfold pZ
 rw[(PY h).1]
 simp only
 rw[List.length_append,mE]
 unfold mV
 simp only[List.map_append,List.map_cons,List.map_nil,List.flatten_append,List.flatten_cons,List.flatten_nil,List.length_append,List.append_nil,BT]
 rw[GG,List.map_map,List.map_map]
 have hT:∀s:ByteArray,(jL (tF s)).length=3+s.size:=λs=>by
  show (j9 2::(iI (s.size:Nat) 2++s.data.toList)).length=_
  rw[List.length_cons,List.length_append,mE]
  have:s.data.toList.length=s.size:=rfl
  omega
 have k1:=xy (f:=(λx=>(x.map jL).flatten)∘pL) (k:=62) t.changes λc hc=>by
  have:=(wN.1 (h6 c hc)).2.2.2.2.1
  show (((pL c).map jL).flatten).length<=62
  unfold pL
  simp only[List.map_cons,List.map_nil,List.flatten_cons,List.flatten_nil,List.length_append,List.length_nil,BT,hT]
  omega
 have k2:=xy (f:=jL∘tF) (k:=43) t.signals λs hs=>by
  have:=h7 s hs
  show (jL (tF s)).length<=43
  rw[hT];omega
 omega
def Df(r:Row):Prop:=1<=r.key/\r.key<=1099511627776/\r.val.size<=32
instance (r:Row):Decidable (Df r):=by unfold Df;infer_instance
structure BH(C:List Row):Prop where
 sorted:kB C
 rows:∀r∈C,Df r
 len:C.length<=1000
def sP:Int->List Row->Bool
 | _,[]=>true
 | k,r::C=>decide (k<r.key/\r.key<=1099511627776/\r.val.size<=32) && sP r.key C
theorem Us:∀{C:List Row} {k:Int},sP k C=true↔(∀r∈C,k<r.key)/\kB C/\∀r∈C,r.key<=1099511627776/\r.val.size<=32
 | [],k=>by simp[sP,kB]
 | r::C,k=>by
  unfold sP
  rw[Bool.and_eq_true,decide_eq_true_eq,Us (C:=C) (k:=r.key)]
  unfold kB
  rw[List.pairwise_cons]
  constructor
  ·rintro ⟨⟨h1,h2,h3⟩,h4,h5,h6⟩
   refine⟨λx hx=>?_,⟨λx hx=>h4 x hx,h5⟩,λx hx=>?_⟩
   ·rcases List.mem_cons.1 hx with rfl|hx
    ·exact h1
    ·have:=h4 x hx;omega
   ·rcases List.mem_cons.1 hx with rfl|hx
    ·exact⟨h2,h3⟩
    ·exact h6 x hx
  ·rintro ⟨h1,⟨h2,h3⟩,h4⟩
   exact⟨⟨h1 r (.head _),h4 r (.head _)⟩,λx hx=>h2 x hx,h3,λx hx=>h4 x (.tail _ hx)⟩
def nA(C:List Row):Bool:=sP 0 C && decide (C.length<=1000)
theorem Tw{C:List Row}:nA C=true↔BH C:=by
 unfold nA
 rw[Bool.and_eq_true,decide_eq_true_eq,Us]
 constructor
 ·rintro ⟨⟨h1,h2,h3⟩,h4⟩
  exact⟨h2,λr hr=>⟨by have:=h1 r hr;omega,(h3 r hr).1,(h3 r hr).2⟩,h4⟩
 ·rintro ⟨h1,h2,h3⟩
  exact⟨⟨λr hr=>by have:=(h2 r hr).1;omega,h1,λr hr=>⟨(h2 r hr).2.1,(h2 r hr).2.2⟩⟩,h3⟩
def lD(aI:Int)(ts:List (List Row)):Bool:=decide (0<=aI/\aI<=1099511627776/\1<=ts.length/\ts.length<=8) && ts.all nA
theorem uh{aI:Int}{ts:List (List Row)}:lD aI ts=true↔(0<=aI/\aI<=1099511627776/\1<=ts.length/\ts.length<=8)/\∀C∈ts,BH C:=by
 unfold lD
 rw[Bool.and_eq_true,decide_eq_true_eq,List.all_eq_true]
 exact and_congr_right λ_=>⟨λh C hC=>Tw.1 (h C hC),λh C hC=>Tw.2 (h C hC)⟩
def uH(r:Row):List ie:=[iF r.key,tF r.val]
def p8(C:List Row):List ie:=iF C.length::(C.map uH).flatten
def pq(aI:Int)(ts:List (List Row)):List ie:=[iF aI,iF ts.length]++(ts.map p8).flatten
theorem P8(C:List Row):(p8 C).length=1+C.length*2:=by
 unfold p8
 rw[List.length_cons,D8 (f:=uH) (k:=2) (λ_=>rfl)]
 omega
theorem Z'{aI:Int}{ts:List (List Row)}(h:lD aI ts=true):(pq aI ts).length<=16010:=by
 obtain⟨h1,h2⟩:=uh.1 h
 have k:=xy (f:=p8) (k:=2001) ts λC hC=>by rw[P8];have:=(h2 C hC).len;omega
 unfold pq
 rw[List.length_append]
 simp only[List.length_cons,List.length_nil]
 have:ts.length*2001<=8*2001:=Nat.mul_le_mul_right _ h1.2.2.2
 omega
theorem Y_{aI:Int}{ts:List (List Row)}(h:lD aI ts=true):∀f∈pq aI ts,xZ f:=by
 obtain⟨h1,h2⟩:=uh.1 h
 intro f hf
 unfold pq at hf
 simp only[List.mem_append,List.mem_cons,List.mem_flatten,List.mem_map,List.not_mem_nil,or_false]at hf
 rcases hf with (rfl|rfl)|⟨l,⟨C,hC,rfl⟩,hf⟩
 ·exact tg (by omega)
 ·exact tg (by omega)
 ·have hT:=h2 C hC
  have hl:=hT.len
  unfold p8 at hf
  simp only[List.mem_cons,List.mem_flatten,List.mem_map]at hf
  rcases hf with rfl|⟨l,⟨r,hr,rfl⟩,hf⟩
  ·exact tg (by omega)
  ·obtain⟨k1,k2,k3⟩:=hT.rows r hr
   unfold uH at hf
   simp only[List.mem_cons,List.not_mem_nil,or_false]at hf
   rcases hf with rfl|rfl
   ·exact tg (by omega)
   ·exact .inr ⟨rfl,rfl,by show r.val.size<=4096;omega⟩
def vL(aI:Int)(ts:List (List Row)):List UInt8:=iI (pq aI ts).length 2++((pq aI ts).map jL).flatten
theorem XT(s:ByteArray):(jL (tF s)).length=3+s.size:=by
 show (j9 2::(iI (s.size:Nat) 2++s.data.toList)).length=_
 rw[List.length_cons,List.length_append,mE]
 have:s.data.toList.length=s.size:=rfl
 omega
theorem SN{aI:Int}{ts:List (List Row)}(h:lD aI ts=true):(vL aI ts).length<=360000:=by
 obtain⟨h1,h2⟩:=uh.1 h
 unfold vL pq
 rw[List.length_append,mE]
 simp only[List.map_append,List.map_cons,List.map_nil,List.flatten_append,List.flatten_cons,List.flatten_nil,List.length_append,List.append_nil,BT]
 rw[GG,List.map_map]
 have k:=xy (f:=(λx=>(x.map jL).flatten)∘p8) (k:=44009) ts λC hC=>by
  have hT:=h2 C hC
  have hl:=hT.len
  show (((p8 C).map jL).flatten).length<=44009
  unfold p8
  rw[List.map_cons,List.flatten_cons,List.length_append,BT,GG,List.map_map]
  have k2:=xy (f:=(λx=>(x.map jL).flatten)∘uH) (k:=44) C λr hr=>by
   have:=(hT.rows r hr).2.2
   show (((uH r).map jL).flatten).length<=44
   unfold uH
   simp only[List.map_cons,List.map_nil,List.flatten_cons,List.flatten_nil,List.length_append,List.length_nil,BT,XT]
   omega
  have:C.length*44<=1000*44:=Nat.mul_le_mul_right _ hl
  omega
 have:ts.length*44009<=8*44009:=Nat.mul_le_mul_right _ h1.2.2.2
 omega
theorem SO{aI:Int}{ts:List (List Row)}(h:lD aI ts=true):po (pq aI ts)= .ok (vL aI ts)/\lL (vL aI ts)= .ok (pq aI ts):=
 Pu (l:=pq aI ts) (by have:=Z' h;omega) (Y_ h)
def GI(aI:Int)(ts:List (List Row)):Except Int (List UInt8):=if lD aI ts=true then .ok (ic (vL aI ts)) else .error 1
def Iz(x:Int × ByteArray):Row:=⟨x.1,x.2⟩
def tx:e_->Row × e_:=oC Iz (jM ko λ_=>jF)
def uk:e_->Row × e_:=oC Iz (jM (gI 1099511627776) λ_=>jF)
def pa:e_->List Row × e_:=oC Prod.snd (ke (iN 1000) (iX tx))
def r9:e_->List Row × e_:=oC Prod.snd (ke (gI 1000) (iX uk))
def Fh(x:Int × (Int × List (List Row))):Int × List (List Row):=(x.1,x.2.2)
def n4:e_->(Int × List (List Row)) × e_:=oC Fh (jM ko λ_=>ke (iN 8) (jK pa))
def oX:e_->(Int × List (List Row)) × e_:=oC Fh (jM (gI 1099511627776) λ_=>ke (gI 8) (iX r9))
theorem IY:km tx:=(C2.seq λ_=>pT).map _
theorem IZ:km uk:=((ue _).seq λ_=>pT).map _
def BJ(r:Row):Prop:=¬(0<=r.key/\r.key<=1099511627776)
theorem b_c:mf tx uk BJ:=by
 unfold tx uk
 have a1:=(A9 1099511627776).seq (f:=λ_=>jF) (g:=λ_=>jF) (λ_=>Jo) (λ_=>pT) (λ_=>pT)
 refine a1.map Iz λx h=>?_
 rcases h with h|h
 ·exact h
 ·exact h.elim
theorem Jl:km pa:=((y_ _).seq λn=>IY.many _).map _
theorem Jm:km r9:=((ue _).seq λn=>IZ.many _).map _
theorem cFt:mf pa r9 λC=>∃r∈C,BJ r:=by
 unfold pa r9 ke
 have a1:=(Dj 1000).seq (f:=λn=>iX tx n.toNat) (g:=λn=>iX uk n.toNat) (λn=>b_c.many IY IZ n.toNat) (λn=>IZ.many _) (λn=>IY.many _)
 refine a1.map Prod.snd λx h=>?_
 rcases h with h|h
 ·exact h.elim
 ·exact h
def J1(x:Int × List (List Row)):Prop:=¬(0<=x.1/\x.1<=1099511627776)\/∃C∈x.2,∃r∈C,BJ r
theorem SU:mf n4 oX J1:=by
 unfold n4 oX
 have c1:mf (ke (iN 8) (jK pa)) (ke (gI 8) (iX r9)) λx=>False\/∃C∈x.2,∃r∈C,BJ r:=(Dj 8).seq (λn=>cFt.jK Jl Jm n.toNat) (λn=>Jm.many _) (λn=>Jl.jK _)
 have mc:km (ke (iN 8) (jK pa)):=(y_ _).seq λn=>Jl.jK _
 have Iu:km (ke (gI 8) (iX r9)):=(ue _).seq λn=>Jm.many _
 have a1:=(A9 1099511627776).seq (f:=λ_=>ke (iN 8) (jK pa)) (g:=λ_=>ke (gI 8) (iX r9)) (λ_=>c1) (λ_=>Iu) (λ_=>mc)
 refine a1.map Fh λx h=>?_
 rcases h with h|h|h
 ·exact .inl h
 ·exact h.elim
 ·exact .inr h
theorem bI3{x:Int × List (List Row)}(h:lD x.1 x.2=true):¬J1 x:=by
 obtain⟨h1,h2⟩:=uh.1 h
 rintro (hv|⟨C,hC,r,hr,hv⟩)
 ·omega
 ·have:=(h2 C hC).rows r hr
  unfold BJ Df at *
  omega
def sI(l:List ie):Option (Int × List (List Row)):=
 let x:=n4 ⟨l,false⟩
 if x.2.bad=false/\x.2.l=[]/\lD x.1.1 x.1.2=true then some x.1 else none
def EY(l:List ie):Option (Int × List (List Row)):=
 let x:=oX ⟨l,false⟩
 if x.2.bad=false/\x.2.l=[]/\lD x.1.1 x.1.2=true then some x.1 else none
theorem SQ(l:List ie):EY l=sI l:=by
 unfold EY sI
 simp only
 cases hb:(oX ⟨l,false⟩).2.bad with
 | false=>rw[SU.same _ hb,hb]
 | true=>
  rw[if_neg (by simp),if_neg]
  rintro ⟨h1,_,h3⟩
  rcases SU.bad _ hb with h|h
  ·rw[h]at h1;cases h1
  ·exact bI3 h3 h
def l7(b:List UInt8):Option (Int × List (List Row)):=match lj b with
 | .error _=>none
 | .ok (p,n)=>if n=b.length then (match lL p with
  | .error _=>none
  | .ok l=>sI l) else none
theorem PB{b:List UInt8}{x:Int × List (List Row)}(h:l7 b=some x):lD x.1 x.2=true:=by
 unfold l7 at h
 split at h
 ·cases h
 ·split at h
  ·split at h
   ·cases h
   ·unfold sI at h
    simp only at h
    split at h
    ·rename_i hc;cases h;exact hc.2.2
    ·cases h
  ·cases h
theorem b_b{r:Row}{l:List ie}:tx ⟨uH r++l,false⟩=(r,⟨l,false⟩):=rfl
theorem cFr{C:List Row}{l:List ie}(h:C.length<=1000):pa ⟨p8 C++l,false⟩=(C,⟨l,false⟩):=by
 unfold pa ke oC jM p8
 rw[List.cons_append,z' (by omega)]
 simp only[Int.toNat_natCast]
 rw[Tp C l λr _ l=>b_b]
theorem bw6{aI:Int}{ts:List (List Row)}(h:lD aI ts=true):n4 ⟨pq aI ts,false⟩=((aI,ts),⟨[],false⟩):=by
 obtain⟨h1,h2⟩:=uh.1 h
 have e0:pq aI ts=iF aI::(iF ts.length::((ts.map p8).flatten++[])):=by unfold pq;simp
 rw[e0]
 have e1:∀l,ko ⟨iF aI::l,false⟩=(aI,⟨l,false⟩):=λl=>rfl
 have e2:∀l,iN 8 ⟨iF ts.length::l,false⟩=((ts.length:Int),⟨l,false⟩):=λl=>z' (by omega)
 have e3:∀l,jK pa ts.length ⟨(ts.map p8).flatten++l,false⟩=(ts,⟨l,false⟩):=λl=>Fa ts l λC hC l=>cFr (h2 C hC).len
 unfold n4 ke oC jM Fh
 simp only[e1,e2,e3,Int.toNat_natCast]
theorem Gv{b p:List UInt8}{n:Nat}(ht:lj b= .ok (p,n))(hn:n=b.length){l:List ie}(hd:lL p= .ok l):l7 b=sI l:=by
 unfold l7
 rw[ht]
 simp only
 rw[if_pos hn,hd]
theorem bw5{l:List ie}{x:Int × List (List Row)}(h:n4 ⟨l,false⟩=(x,⟨[],false⟩))(hm:lD x.1 x.2=true):sI l=some x:=by
 unfold sI
 rw[h]
 simp only
 rw[if_pos ⟨trivial,trivial,hm⟩]
theorem XA{aI:Int}{ts:List (List Row)}(h:lD aI ts=true):l7 (ic (vL aI ts))=some (aI,ts):=by
 have hl:=SN h
 have h1:=(SO h).2
 have h2:=bw6 h
 generalize vL aI ts=p at *
 have ht:=Vb (p:=p) (r:=[]) (by omega)
 rw[List.append_nil]at ht
 exact (Gv ht (o7 p).symm h1).trans (bw5 h2 h)
structure g6 where
 file:Int
 first:Int
 size:Nat
 l:List (List UInt8)
structure w8 where
 file:Int
 oS:Int
 fresh:Bool
structure iq where
 bW:List g6
 base:Int
 size:Int
 iw:Option w8
def g6.next(s:g6):Int:=s.first+s.l.length
def c_(L:List g6):Int:=match L.getLast? with
 | none=>0
 | some s=>s.next-1
def jT(L:List g6):Int:=match L with
 | []=>1
 | s::_=>s.first
def lE:List g6->Int->Option (List UInt8)
 | [],_=>none
 | s::r,n=>if s.first<=n/\n<s.next then s.l[(n-s.first).toNat]? else lE r n
structure lY where
 file:Int
 fresh:Bool
 b:List UInt8
def ny(g:iq)(f:Int)(p:List UInt8):Except Int lY:=
 if g.base+4096<=f then .error 7 else .ok ⟨f,true,ic (j6 (c_ g.bW+1).toNat)++ic p⟩
def kd(g:iq)(off:Bool)(p:List UInt8):Except Int lY:=
 if 1048576<p.length then .error 1
 else if off=true then .error 8
 else if 1099511627776<=c_ g.bW then .error 7
 else match g.bW.getLast? with
  | none=>ny g g.base p
  | some s=>if s.l.length=0\/(s.size:Int)+(ic p).length<=g.size then .ok ⟨s.file,false,ic p⟩ else ny g (s.file+1) p
def ik(g:iq)(d:DS):(iq × DS) × Int:=match g.iw with
 | none=>((g,d),0)
 | some x=>(({g with iw:=if (if x.fresh=true then d.remove x.file else d.cut x.file x.oS).2=0 then none else some x},(if x.fresh=true then d.remove x.file else d.cut x.file x.oS).1),(if x.fresh=true then d.remove x.file else d.cut x.file x.oS).2)
def l5(L:List g6)(x:lY)(p:List UInt8):List g6:=
 let L:=if x.fresh=true then L++[⟨x.file,c_ L+1,0,[]⟩] else L
 L.dropLast++L.getLast?.toList.map λs=>{s with size:=s.size+x.b.length,l:=s.l++[p]}
def kn(g:iq)(d:DS)(p:List UInt8):(iq × DS) × (Int × Int):=match kd g d.off p with
 | .error e=>((g,d),(0,e))
 | .ok x=>
  let m:=ik g d
  if m.2≠0 then (m.1,(0,m.2)) else
  let a:=m.1.2.append x.file x.b
  if a.2≠0 then ((m.1.1,a.1),(0,a.2)) else
  let s:=a.1.sync x.file
  if s.2≠0 then ((m.1.1,s.1),(0,s.2)) else
  (({m.1.1 with bW:=l5 m.1.1.bW x p},s.1),(c_ (l5 m.1.1.bW x p),0))
def sJ(L:List g6):Int:=match L.getLast? with
 | none=>0
 | some s=>s.size
def jW(base:Int)(R:List PF):List Int:=(R.map PF.id).filter λf=>decide (base<=f/\f<base+4096)
def mA(L:List g6)(R:List PF)(f:Int)(last:Bool):(Bool × Bool) × List g6:=
 let b:=((iz PF.id R f).map PF.b).getD []
 match kf b with
 | none=>((false,last),L)
 | some (first,l,n)=>
  if (last=false/\(n≠b.length\/l.length=0))\/(0<L.length/\first≠c_ L+1)\/1099511627776<first+l.length-1 then ((true,false),L)
  else ((true,true),L++[⟨f,first,n,l⟩])
def m0(R:List PF):List Int->Option Int->List g6->Bool->Option (List g6 × Bool)
 | [],_,L,whole=>some (L,whole)
 | f::r,prev,L,whole=>
  let x:=mA L R f r.isEmpty
  if x.1.2=false then none else if (match prev with|none=>false|some g=>decide (f≠g+1))=true then none else m0 R r (some f) x.2 x.1.1
def lK(L:List g6)(d:DS)(ids:List Int)(whole:Bool):DS × Int:=match ids.getLast? with
 | none=>(d,0)
 | some f=>if whole=false then d.remove f else if sJ L<rn d.R f then d.cut f (sJ L) else (d,0)
def kV(d:DS)(base size:Int):DS × Except Int iq:=
 if base<0\/12288<base\/size<64\/65536<size then (d,.error 1)
 else if d.off=true then (d,.error 8)
 else match m0 d.R (jW base d.R) none [] true with
  | none=>(d,.error 3)
  | some (L,whole)=>if (lK L d (jW base d.R) whole).2≠0 then ((lK L d (jW base d.R) whole).1,.error (lK L d (jW base d.R) whole).2) else ((lK L d (jW base d.R) whole).1,.ok ⟨L,base,size,none⟩)
structure m_(s:g6)(N:Nat):Prop where
 f0:0<=s.file
 f1:s.file<=100000
 n0:1<=s.first
 n1:s.first<=1099511627776
 sz:s.size<=N
 ln:s.l.length<=N
 bl:∀b∈s.l,b.length<=1048576
structure iq.Ok(g:iq)(N:Nat):Prop where
 bW:∀s∈g.bW,m_ s N
 b0:0<=g.base
 b1:g.base<=12288
 s0:64<=g.size
 s1:g.size<=65536
 ln:g.bW.length<=N
theorem uP{L:List g6}{N:Nat}(h:∀s∈L,m_ s N):0<=c_ L/\c_ L<=1099511627776+N:=by
 unfold c_
 split
 ·omega
 ·rename_i s hs
  have:=h s (List.mem_of_getLast? hs)
  have h1:=this.n0;have h2:=this.n1;have h3:=this.ln
  simp only[g6.next]
  omega
section
variable {A:List PF} {x:PF}
theorem Xb(hs:ky PF.id (A++[x])):iW PF.id (A++[x]) x.id=A.length:=Gq hs (j:=A.length) (by simp) (by simp)
theorem S6(hs:ky PF.id (A++[x])):kq PF.id (A++[x]) x.id=true:=(E6 hs).2 ⟨x,by simp,rfl⟩
theorem Rl(hs:ky PF.id (A++[x])):iz PF.id (A++[x]) x.id=some x:=AJ hs (by simp)
theorem Ug(hs:ky PF.id (A++[x])){y:PF}(hy:y.id=x.id):mo PF.id (A++[x]) y=A++[y]:=by
 have h1:kq PF.id (A++[x]) y.id=true:=by rw[hy];exact S6 hs
 rw[Fq h1,hy,Xb hs];simp
theorem cF9(hs:ky PF.id (A++[x]))(g:PF->PF):oh (A++[x]) x.id g=A++[{g x with id:=x.id}]:=by
 unfold oh
 rw[Rl hs]
 exact Ug hs rfl
theorem Wd(hs:ky PF.id (A++[x]))(b:List UInt8):nV (A++[x]) x.id b=A++[⟨x.id,x.safe,x.b++b⟩]:=by
 unfold nV
 rw[Rl hs]
 exact Ug hs rfl
theorem We(hs:ky PF.id A){f:Int}(h:∀y∈A,y.id<f)(b:List UInt8):nV A f b=A++[⟨f,0,b⟩]:=by
 have h1:iz PF.id A f=none:=(GZ hs).2 λy hy=>by have:=h y hy;omega
 have h2:kq PF.id A f=false:=by
  cases e:kq PF.id A f with
  | false=>rfl
  | true=>obtain⟨y,hy,e⟩:=(E6 hs).1 e;have:=h y hy;omega
 have h3:iW PF.id A f=A.length:=by
  unfold iW
  rw[List.filter_eq_self.2 λy hy=>by simpa using h y hy]
 unfold nV
 rw[h1]
 unfold mo
 simp only[h2,h3]
 simp[oD]
end
def tB(f:Int)(R:List PF):Prop:=∀i (h:i<R.length),R[i].id=f+i
theorem tB.sorted{f:Int}{R:List PF}(h:tB f R):ky PF.id R:=by
 unfold ky
 rw[List.pairwise_iff_getElem]
 intro i j hi hj vC
 rw[h i hi,h j hj];omega
theorem tB.mem{f:Int}{R:List PF}(h:tB f R){x:PF}(hx:x∈R):f<=x.id/\x.id<f+R.length:=by
 obtain⟨i,hi,rfl⟩:=List.mem_iff_getElem.1 hx
 rw[h i hi];omega
theorem tB.snoc{f:Int}{R:List PF}(h:tB f R){x:PF}(hx:x.id=f+R.length):tB f (R++[x]):=by
 intro i hi
 by_cases hl:i<R.length
 ·rw[List.getElem_append_left hl];exact h i hl
 ·have:i=R.length:=by simp at hi;omega
  subst this
  simp[hx]
def nD(s:g6):List UInt8:=mR (j6 s.first.toNat::s.l)
def mG(s:g6):PF:=⟨s.file,(nD s).length,nD s⟩
def lO:Int->Int->List g6->Prop
 | _,_,[]=>True
 | f,n,s::r=>s.file=f/\s.first=n/\s.size=(nD s).length/\(∀p∈s.l,p.length<=1048576)/\(r≠[]->s.l≠[])/\lO (f+1) (n+s.l.length) r
def iY(L:List g6):List (List UInt8):=(L.map g6.l).flatten
theorem xq(s:g6)(L:List g6):iY (s::L)=s.l++iY L:=by simp[iY]
theorem BY(A B:List g6):iY (A++B)=iY A++iY B:=by simp[iY]
theorem lO.app:∀{f n:Int} {A B:List g6},lO f n (A++B)↔lO f n A/\(B≠[]->∀s∈A,s.l≠[])/\lO (f+A.length) (n+(iY A).length) B
 | f,n,[],B=>by simp[lO,iY]
 | f,n,s::A,B=>by
  have ih:=lO.app (f:=f+1) (n:=n+s.l.length) (A:=A) (B:=B)
  have e1:f+1+(A.length:Int)=f+((s::A).length:Int):=by simp;omega
  have e2:n+(s.l.length:Int)+((iY A).length:Int)=n+((iY (s::A)).length:Int):=by rw[xq,List.length_append];omega
  rw[e1,e2]at ih
  rw[List.cons_append]
  simp only[lO,ih]
  constructor
  ·rintro ⟨h1,h2,h3,h4,h5,h6,h7,h8⟩
   refine⟨⟨h1,h2,h3,h4,λhA=>h5 (by simp[hA]),h6⟩,λhB t ht=>?_,h8⟩
   rcases List.mem_cons.1 ht with rfl|ht
   ·exact h5 (by simp[hB])
   ·exact h7 hB t ht
  ·rintro ⟨⟨h1,h2,h3,h4,h5,h6⟩,h7,h8⟩
   refine⟨h1,h2,h3,h4,λh=>?_,h6,λhB t ht=>h7 hB t (.tail _ ht),h8⟩
   by_cases hA:A=[]
   ·subst hA;exact h7 (by simpa using h) s (.head _)
   ·exact h5 hA
theorem lO.Aw:∀{f n:Int} {L:List g6},lO f n L->tB f (L.map mG)
 | f,n,[],_=>λi h=>by simp at h
 | f,n,s::L,h=>by
  obtain⟨h1,_,_,_,_,h6⟩:=h
  have ih:=h6.Aw
  intro i hi
  cases i with
  | zero=>simpa [mG] using h1
  | succ i=>
   have:=ih i (by simpa using hi)
   simp only[List.map_cons,List.getElem_cons_succ]
   rw[this];push_cast;omega
theorem lO.head{f n:Int}{L:List g6}(h:lO f n L)(hL:L≠[]):c_ L=n+(iY L).length-1:=by
 obtain⟨A,s,rfl⟩:∃A s,L=A++[s]:=⟨L.dropLast,L.getLast hL,(List.dropLast_concat_getLast hL).symm⟩
 obtain⟨_,_,h3⟩:=lO.app.1 h
 obtain⟨_,h4,_⟩:=h3
 unfold c_
 rw[List.getLast?_concat,BY]
 simp only[g6.next,h4,List.length_append]
 simp[iY];omega
theorem lO.low{f n:Int}{L:List g6}(h:lO f n L)(hL:L≠[]):jT L=n:=by
 cases L with
 | nil=>exact absurd rfl hL
 | cons s L=>exact h.2.1
theorem lO.read:∀{f n:Int} {L:List g6},lO f n L->∀i,lE L i=if n<=i then (iY L)[(i-n).toNat]? else none
 | f,n,[],_,i=>by simp[lE,iY]
 | f,n,s::L,h,i=>by
  obtain⟨_,h2,_,_,_,h6⟩:=h
  have ih:=h6.read i
  subst h2
  rw[lE,ih,xq]
  have rW:s.next=s.first+s.l.length:=rfl
  by_cases h1:s.first<=i
  ·rw[if_pos (c:=s.first<=i) h1]
   by_cases h3:i<s.next
   ·rw[if_pos (c:=s.first<=i/\i<s.next) ⟨h1,h3⟩,List.getElem?_append_left (by omega)]
   ·rw[if_neg (c:=s.first<=i/\i<s.next) (by omega),if_pos (by omega),List.getElem?_append_right (by omega)]
    congr 1;omega
  ·rw[if_neg (c:=s.first<=i/\i<s.next) (by omega),if_neg (by omega),if_neg h1]
theorem lO.bl:∀{f n:Int} {L:List g6},lO f n L->∀s∈L,s.size=(nD s).length/\∀p∈s.l,p.length<=1048576
 | f,n,[],_,s,hs=>by cases hs
 | f,n,t::L,h,s,hs=>by
  obtain⟨_,_,h3,h4,_,h6⟩:=h
  rcases List.mem_cons.1 hs with rfl|hs
  ·exact⟨h3,h4⟩
  ·exact h6.bl s hs
theorem aR0(n:Nat):(j6 n).length<=1048576:=by rw[vy];omega
theorem b9y{n:Nat}{l:List (List UInt8)}(h1:1<=n)(h2:n<=1099511627776)(hl:∀p∈l,p.length<=1048576):kf (mR (j6 n::l))=some ((n:Int),l,(mR (j6 n::l)).length):=by
 have:=cwp (j6 n::l) [] (λp hp=>by rcases List.mem_cons.1 hp with rfl|hp;exact aR0 n;exact hl p hp) ⟨2,Va⟩
 rw[List.append_nil]at this
 unfold kf
 rw[this]
 simp only[aR1 h1 h2,Option.map_some]
abbrev kC:=List (List Row)
def lz(ts:kC)(t:Int):List Row:=if t<0 then [] else (ts[t.toNat]?).getD []
def mJ(ts:kC)(c:iy):kC:=ts.set c.table.toNat (nC (lz ts c.table) c)
def jS(ts:kC)(l:List iy):kC:=l.foldl mJ ts
def kJ(n:Nat)(c:iy):Bool:=decide (0<=c.table/\c.table<(n:Int))
def pr(ts:kC)(l:List iy):Bool:=l.all (kJ ts.length) && (jS ts l).all λC=>decide (C.length<=1000)
theorem xd(ts:kC)(c:iy):(mJ ts c).length=ts.length:=List.length_set
theorem uy(ts:kC):∀l:List iy,(jS ts l).length=ts.length:=λl=>by
 unfold jS
 induction l generalizing ts with
 | nil=>rfl
 | cons c l ih=>rw[List.foldl_cons,ih,xd]
theorem Wo(ts:kC)(l m:List iy):jS ts (l++m)=jS (jS ts l) m:=List.foldl_append
theorem F8(ts:kC)(l:List iy)(c:iy):jS ts (l++[c])=mJ (jS ts l) c:=by rw[Wo];rfl
theorem rB(ts:kC)(t:Nat)(h:t<ts.length):lz ts t=ts[t]:=by
 unfold lz
 rw[if_neg (by omega),Int.toNat_natCast,List.getElem?_eq_getElem h];rfl
theorem FE{ts:kC}{t:Int}(h:0<=t/\t<ts.length):lz ts t∈ts:=by
 obtain⟨n,rfl⟩:∃n:Nat,t=n:=⟨t.toNat,by omega⟩
 rw[rB ts n (by omega)];exact List.getElem_mem _
structure sk(C:List Row):Prop where
 sorted:kB C
 rows:∀r∈C,Df r
theorem sk.app{C:List Row}(h:sk C){c:iy}{k:Int}(hc:ma c k=true):sk (nC C c):=by
 have hm:=wN.1 hc
 unfold nC
 split
 ·exact⟨U0 h.sorted _,λr hr=>h.rows r (TD hr)⟩
 ·refine⟨Jb h.sorted _,λr hr=>?_⟩
  rcases TE hr with rfl|hr
  ·exact⟨by show 1<=c.key;omega,by show c.key<=_;omega,by show c.val.size<=_;omega⟩
  ·exact h.rows r hr
theorem Ut:sk []:=⟨List.Pairwise.nil,by simp⟩
theorem b97(C:List Row)(c:iy):(nC C c).length<=C.length+1:=by
 unfold nC
 split
 ·have:=Td C c.key;omega
 ·exact Iq C _
theorem Iw{ts:kC}{c:iy}{C:List Row}(h:C∈mJ ts c):C∈ts\/C=nC (lz ts c.table) c:=by
 unfold mJ at h
 exact List.mem_or_eq_of_mem_set h
theorem Wb{ts:kC}(h:∀C∈ts,sk C){c:iy}{k:Int}(hc:ma c k=true)(ht:kJ ts.length c=true):∀C∈mJ ts c,sk C:=λC hC=>by
 rcases Iw hC with hC|rfl
 ·exact h C hC
 ·exact (h _ (FE (of_decide_eq_true ht))).app hc
theorem F7{k:Int}:∀{l:List iy} {ts:kC},(∀C∈ts,sk C)->(∀c∈l,ma c k=true)->(∀c∈l,kJ ts.length c=true)->∀C∈jS ts l,sk C
 | [],ts,h,_,_=>h
 | c::l,ts,h,h1,h2=>by
  show ∀C∈jS (mJ ts c) l,sk C
  refine F7 (Wb h (h1 c (.head _)) (h2 c (.head _))) (λx hx=>h1 x (.tail _ hx)) λx hx=>?_
  rw[xd];exact h2 x (.tail _ hx)
theorem Ap(N:Nat):∀{l:List iy} {ts:kC},(∀C∈ts,C.length<=N)->(∀c∈l,kJ ts.length c=true)->∀C∈jS ts l,C.length<=N+l.length
 | [],ts,h,_=>h
 | c::l,ts,h,h2=>by
  intro C hC
  have hA:∀C∈mJ ts c,C.length<=N+1:=λC hC=>by
   rcases Iw hC with hC|rfl
   ·have:=h C hC;omega
   ·have h1:=b97 (lz ts c.table) c
    have h3:=h _ (FE (of_decide_eq_true (h2 c (.head _))))
    omega
  have:=Ap (N+1) (l:=l) hA (λx hx=>by rw[xd];exact h2 x (.tail _ hx)) C hC
  rw[List.length_cons];omega
structure g_ where
 g:iq
 d:DS
 ts:kC
 kx:Int
 image:Int
def lU(R:List PF)(n:Nat)(f:Int):Option (Int × kC):=match iz PF.id R f with
 | none=>none
 | some x=>match l7 x.b with
  | none=>none
  | some y=>if y.2.length=n then some y else none
abbrev sh:=Int × Int × kC
def jX(R:List PF)(n:Nat)(f:Int)(x:sh):sh:=match lU R n f with
 | none=>x
 | some y=>if 0<=x.1/\y.1<=x.2.1 then x else (f,y.1,y.2)
def pR(R:List PF)(n:Nat):sh:=jX R n 1 (jX R n 0 (-1,0,List.replicate n []))
def oG(n:Nat)(image:Int):List (List UInt8)->Int->kC->Option kC
 | [],_,ts=>some ts
 | b::r,aI,ts=>match mw b with
  | .error _=>none
  | .ok t=>if t.aI=aI/\(∀c∈t.changes,c.table<(n:Int)) then oG n image r (aI+1) (if image<aI then jS ts t.changes else ts) else none
def sL(d:DS)(k6 size:Int):DS × Except Int g_:=
 if k6<1\/8<k6 then (d,.error 1)
 else match kV d 16 size with
  | (d',.error e)=>(d',.error e)
  | (d',.ok g)=>
   let x:=pR d'.R k6.toNat
   match oG k6.toNat x.2.1 (iY g.bW) (jT g.bW) x.2.2 with
   | none=>(d',.error 3)
   | some ts=>if x.2.1<=c_ g.bW/\jT g.bW<=x.2.1+1 then (d',.ok ⟨g,d',ts,x.1,x.2.1⟩) else (d',.error 3)
abbrev mv:=pZ
def g_.lP(k:g_)(t:gW):g_ × (Int × Int):=
 if k.d.off=true then (k,(0,8))
 else if pr k.ts t.changes=false\/1099511627776<=c_ k.g.bW then (k,(0,7))
 else
  let r:=kn k.g k.d (mv {t with aI:=c_ k.g.bW+1})
  if r.2.2=0 then ({k with g:=r.1.1,d:=r.1.2,ts:=jS k.ts t.changes},(c_ k.g.bW+1,0)) else ({k with g:=r.1.1,d:=r.1.2},(0,r.2.2))
def g_.nx(k:g_)(sg:List ByteArray)(l:List iy):g_ × (Int × Int):=
 if ji ⟨1,1,l,sg,0⟩=true/\(∀c∈l,c.table<(k.ts.length:Int)) then k.lP ⟨1,1,l,sg,0⟩ else (k,(0,1))
def g_.lV(k:g_)(kind mark:Int):g_ × (Int × Int):=
 if (kind=2\/kind=3)/\ji ⟨1,kind,[],[],mark⟩=true then k.lP ⟨1,kind,[],[],mark⟩ else (k,(0,1))
def g_.kf(k:g_)(aI:Int):Except Int gW:=match lE k.g.bW aI with
 | none=>.error 5
 | some b=>mw b
def oy(C:List Row)(key:Int)(n:Int):List Row:=(C.filter λr=>decide (key<r.key)).take n.toNat
def g_.s6(k:g_)(t key n:Int):List Row:=oy (lz k.ts t) key n
structure ir where
 n:Int
 state:Int
 mark:Int
 after:Int
 id:Int
 table:Int
 rows:List Row
 iJ:Int
 last:Bool
abbrev m9(n:Int):ir:=⟨n,0,0,0,0,0,[],0,false⟩
def ir.uW(w:ir)(mark id table after:Int):Prop:=w.state≠0\/mark<1\/1099511627776<mark\/id<1\/64<id\/table<0\/8<=table\/after<0\/1099511627776<after
instance (w:ir) (mark id table after:Int):Decidable (w.uW mark id table after):=by unfold ir.uW;infer_instance
def ir.oE(w:ir)(mark id table after:Int):ir:=if w.uW mark id table after then w else ⟨w.n,1,mark,after,id,table,[],0,false⟩
def np:Int->List Row->Bool
 | _,[]=>true
 | k,r::C=>decide (k<r.key/\r.key<=1099511627776) && np r.key C
def mQ(after:Int)(C:List Row):Int:=(C.getLast?.map (·.key)).getD after
def ir.vo(w:ir)(C:List Row):Prop:=w.state≠1\/w.n<C.length\/np w.after C=false
instance (w:ir) (C:List Row):Decidable (w.vo C):=by unfold ir.vo;infer_instance
def ir.fill(w:ir)(C:List Row):ir:=if w.vo C then w else {w with state:=2,rows:=C,iJ:=mQ w.after C,last:=decide ((C.length:Int)<w.n)}
def ir.shut(w:ir):ir:=if w.state=2 then {w with state:=3} else w
def ir.waits(w:ir)(kind mark:Int):Bool:=decide (kind=2/\mark=w.mark/\(w.state=1\/w.state=2))
def ir.low(w:ir)(mark:Int):ir:=if w.state=3/\mark=w.mark then {w with state:=4} else w
def lg(t:Int)(l:List iy)(r:Row):Bool:=l.any λc=>decide (c.table=t/\c.key=r.key)
def ir.tA(w:ir)(l:List iy):ir:=if w.state=4 then {w with rows:=w.rows.filter λr=>!lg w.table l r} else w
def ir.tT(w:ir)(mark aI:Int):Prop:=w.state≠4\/mark≠w.mark\/aI<1\/1099511627776<aI
instance (w:ir) (mark aI:Int):Decidable (w.tT mark aI):=by unfold ir.tT;infer_instance
def kZ(w:ir)(aI:Int):List pU:=w.rows.map λr=>⟨aI,w.table,r.key,false,r.val⟩
def wQ(w:ir):rF:=⟨2,w.id,0,0,0,w.iJ,w.last⟩
def ir.high(w:ir)(mark aI:Int):ir × Option si:=if w.tT mark aI then (w,none) else (m9 w.n,some ⟨aI,kZ w aI,[wQ w]⟩)
structure il where
 l:List (Int × Int)
 at_:Int
 left:Int
abbrev nW:il:=⟨[],-1,0⟩
def vK(d:il)(id:Int):Option Nat:=d.l.findIdx? λm=>decide (m.1=id)
def il.add(d:il)(id weight:Int):il:=
 if id<1\/64<id\/weight<1\/8<weight then d else match vK d id with
 | some _=>d
 | none=>{d with l:=d.l++[(id,weight)]}
def il.del(d:il)(id:Int):il:=match vK d id with
 | none=>d
 | some i=>⟨d.l.eraseIdx i,if (i:Int)<=d.at_ then d.at_-1 else d.at_,if (i:Int)=d.at_ then 0 else d.left⟩
def il.place(d:il):Int:=if d.left=0 then (if (d.l.length:Int)<=d.at_+1 then 0 else d.at_+1) else d.at_
def il.mB(d:il):Int × Int:=(d.l[d.place.toNat]?).getD (0,0)
def il.next(d:il):il × Int:=if d.l=[] then (d,0) else (⟨d.l,d.place,(if d.left=0 then d.mB.2 else d.left)-1⟩,d.mB.1)
structure il.Ok(d:il):Prop where
 mO : -1<=d.at_
 xe:d.at_<d.l.length
 C4:0<=d.left
 C5:d.left<=8
 neg:d.at_ = -1->d.left=0
 w:∀m∈d.l,1<=m.1/\m.1<=64/\1<=m.2/\m.2<=8
 nd:(d.l.map Prod.fst).Nodup
def mS:List UInt8:=[115,110,97,112,115,104,111,116,32]
def r6:List UInt8->Option (Int × Int)
 | [d]=>if 48<=d.toNat/\d.toNat<=55 then some ((d.toNat:Int)-48,1) else none
 | [d,s,e]=>if (48<=d.toNat/\d.toNat<=55)/\s.toNat=32/\49<=e.toNat/\e.toNat<=56 then some ((d.toNat:Int)-48,(e.toNat:Int)-48) else none
 | _=>none
def uX(s:ByteArray):Option (Int × Int):=if s.data.toList.take 9=mS then r6 (s.data.toList.drop 9) else none
structure h_ where
 tables:Int
 late:Int
 at_:Int
 reqs:List Rq
 cF:ir
def tq(tables late chunk aI:Int)(L:List Rq):Prop:=tables<1\/8<tables\/late<0\/2 ^ tables.toNat<=late\/aI<0\/1099511627776<aI\/chunk<1\/64<chunk\/¬kW L\/∃r∈L,tables<=r.table\/aI<r.at_
def h_.captured(m:h_)(t:Int):Bool:=decide (0<=t/\t<m.tables) && (decide (O_ m.late t=0) || m.reqs.any λr=>decide (r.table=t))
def h_.accept(m:h_)(s:ByteArray)(aI:Int):List Rq × List rF:=match uX s with
 | none=>(m.reqs,[])
 | some g=>if m.tables<=g.1 then (m.reqs,[]) else match sn m.reqs g.1 g.2 aI with
  | none=>(m.reqs,[])
  | some L=>(L,[⟨1,L.length,g.1,g.2,aI,0,false⟩])
def h_.jP(m:h_)(aI:Int):List ByteArray->h_ × List rF
 | []=>(m,[])
 | s::l=>let r:=m.accept s aI;let x:=h_.jP {m with reqs:=r.1} aI l;(x.1,r.2++x.2)
def nk(m:h_)(aI:Int)(l:List iy):List pU:=(l.filter λc=>m.captured c.table).map λc=>⟨aI,c.table,c.key,c.gone,c.val⟩
def h_.vm(m:h_)(t:gW):h_ × si:=
 let x:=m.jP t.aI t.signals
 ({x.1 with cF:=x.1.cF.tA t.changes},⟨t.aI,nk x.1 t.aI t.changes,x.2⟩)
def h_.high(m:h_)(t:gW):h_ × si:=match m.cF.high t.mark t.aI with
 | (_,none)=>(m,⟨t.aI,[],[]⟩)
 | (w,some x)=>match oA m.reqs m.cF.id m.cF.iJ m.cF.last with
  | none=>({m with cF:=w},{x with notes:=[]})
  | some L=>({m with cF:=w,reqs:=L},x)
def h_.take(m:h_)(t:gW):h_ × (si × Int):=
 if ji t=false then (m,(⟨0,[],[]⟩,1))
 else if t.aI≠m.at_+1\/m.cF.waits t.kind t.mark=true then (m,(⟨0,[],[]⟩,10))
 else if t.kind=1 then let r:=({m with at_:=t.aI}:h_).vm t;(r.1,(r.2,0))
 else if t.kind=3 then let r:=({m with at_:=t.aI}:h_).high t;(r.1,(r.2,0))
 else ({m with at_:=t.aI,cF:=m.cF.low t.mark},(⟨t.aI,[],[]⟩,0))
def kQ(L:List Rq):List Rq:=L.filter λr=>!r.done
structure ig where
 k:g_
 m:h_
 d:il
 n:Int
def uY(m:h_):Bool:=decide (m.cF.state=1\/m.cF.state=2\/(m.cF.state=0/\kQ m.reqs≠[]))
def nP(d:il)(L:List Rq):il:=(kQ L).foldl (λd r=>d.add r.id r.weight) ((L.filter (·.done)).foldl (λd r=>d.del r.id) d)
def vU(L:List Rq)(id:Int):Option Rq:=if id<1 then none else L[(id-1).toNat]?
def ig.vM(p:ig)(r:Rq):ig × (Int × Int):=
 if (p.k.lV 2 (c_ p.k.g.bW+1)).2.2≠0 then ({p with k:=(p.k.lV 2 (c_ p.k.g.bW+1)).1},(0,(p.k.lV 2 (c_ p.k.g.bW+1)).2.2))
 else ({p with k:=(p.k.lV 2 (c_ p.k.g.bW+1)).1,m:={p.m with cF:=p.m.cF.oE (c_ p.k.g.bW+1) r.id r.table r.iJ}},(3,0))
def ig.ug(p:ig)(x:il × Int):ig × (Int × Int):=match vU p.m.reqs x.2 with
 | none=>({p with d:=x.1},(0,0))
 | some r=>({p with d:=x.1}:ig).vM r
def ig.wM(p:ig):ig × (Int × Int):=p.ug (nP p.d p.m.reqs).next
def ig.xL(p:ig):ig × (Int × Int):=
 let y:=p.k.lV 3 p.m.cF.mark
 if y.2.2≠0 then ({p with k:=y.1},(0,y.2.2)) else ({p with k:=y.1,m:={p.m with cF:=p.m.cF.shut}},(5,0))
def ig.step(p:ig):ig × (Int × Int):=
 if uY p.m=false then (p,(0,0))
 else if p.m.cF.state=0 then p.wM
 else if p.m.cF.state=1 then ({p with m:={p.m with cF:=p.m.cF.fill (p.k.s6 p.m.cF.table p.m.cF.after p.n)}},(4,0))
 else p.xL
theorem bIm{R:List PF}{L0:List g6}{f n:Int}{s:g6}{last:Bool}{x:PF}(hx:iz PF.id R f=some x)(hb:x.b=nD s)(h1:s.file=f)(h2:s.first=n)(h3:s.size=(nD s).length)(h4:∀p∈s.l,p.length<=1048576)
  (n1:1<=n) (n2:n+s.l.length<=1099511627776) (hl:last=false->s.l≠[]) (h0:L0=[]\/c_ L0+1=n):mA L0 R f last=((true,true),L0++[s]):=by
 unfold mA
 rw[hx]
 simp only[Option.map_some,Option.getD_some,hb]
 have hr:kf (nD s)=some (s.first,s.l,(nD s).length):=by
  have:=b9y (n:=s.first.toNat) (l:=s.l) (by omega) (by omega) h4
  unfold nD
  rw[this]
  congr 2;omega
 rw[hr]
 have hs:(⟨f,s.first,(nD s).length,s.l⟩:g6)=s:=by
  obtain⟨a,b,c,d⟩:=s
  simp only at h1 h3
  simp[<- h1,<- h3]
 simp only
 rw[if_neg,hs]
 rintro (⟨e1,e2⟩|⟨e1,e2⟩|e)
 ·rcases e2 with e2|e2
  ·exact e2 rfl
  ·exact hl e1 (List.eq_nil_of_length_eq_zero e2)
 ·rcases h0 with rfl|h0
  ·simp at e1
  ·omega
 ·omega
def vq(prev:Option Int)(f:Int):Bool:=match prev with
 | none=>false
 | some g=>decide (f≠g+1)
theorem C7(R:List PF)(f:Int)(r:List Int)(prev:Option Int)(L:List g6)(wh:Bool):m0 R (f::r) prev L wh =
  if (mA L R f r.isEmpty).1.2=false then none else if vq prev f=true then none else m0 R r (some f) (mA L R f r.isEmpty).2 (mA L R f r.isEmpty).1.1:=rfl
theorem Tk(R:List PF):∀(r:List g6) (f n:Int) (L0:List g6) (prev:Option Int) (ids:List Int) (wh:Bool),lO f n r->(∀s∈r,∃x,iz PF.id R s.file=some x/\x.b=nD s)->(L0=[]\/c_ L0+1=n)->(prev=none\/prev=some (f-1))->1<=n->n+(iY r).length<=1099511627776->(ids≠[]->∀s∈r,s.l≠[]) ->
  m0 R (r.map g6.file++ids) prev L0 wh=m0 R ids (if r=[] then prev else some (f+r.length-1)) (L0++r) (if r=[] then wh else true)
 | [],f,n,L0,prev,ids,wh,_,_,_,_,_,_,_=>by simp
 | s::r,f,n,L0,prev,ids,wh,hc,hg,h0,hp,n1,n2,hi=>by
  obtain⟨h1,h2,h3,h4,h5,h6⟩:=hc
  obtain⟨x,hx,hb⟩:=hg s (.head _)
  rw[xq,List.length_append]at n2
  have pz:mA L0 R s.file (r.map g6.file++ids).isEmpty=((true,true),L0++[s]):=by
   refine bIm hx hb rfl h2 h3 h4 n1 (by omega) (λhl=>?_) h0
   by_cases hr:r=[]
   ·subst hr
    refine hi (λe=>?_) s (.head _)
    subst e;simp at hl
   ·exact h5 hr
  rw[List.map_cons,List.cons_append,C7]
  simp only[pz]
  rw[if_neg (by simp),if_neg ?_]
  ·rw[Tk R r (f+1) (n+s.l.length) (L0++[s]) (some s.file) ids true h6 (λt ht=>hg t (.tail _ ht)) (.inr ?_) (.inr (by rw[h1];congr 1;omega)) (by omega) (by omega) (λhd t ht=>hi hd t (.tail _ ht))]
   ·rw[if_neg (by simp:¬(s::r=[])),if_neg (by simp:¬(s::r=[])),List.append_assoc]
    by_cases hr:r=[]
    ·subst hr;simp[h1]
    ·rw[if_neg hr,if_neg hr]
     congr 2
     simp;omega
   ·unfold c_
    rw[List.getLast?_concat]
    simp only[g6.next];omega
  ·rcases hp with rfl|rfl
   ·simp[vq]
   ·simp[vq,h1]
theorem bwt{R:List PF}{f base:Int}(h:tB f R)(h1:base<=f)(h2:f+R.length<=base+4096):jW base R=R.map PF.id:=by
 unfold jW
 rw[List.filter_eq_self]
 intro a ha
 obtain⟨x,hx,rfl⟩:=List.mem_map.1 ha
 have:=h.mem hx
 simp only[decide_eq_true_eq];omega
theorem aFj{f n:Int}{L:List g6}{R:List PF}(hR:tB f R)(hs:∀s∈L,mG s∈R):∀s∈L,∃x,iz PF.id R s.file=some x/\x.b=nD s:=λs h=>⟨mG s,AJ hR.sorted (hs s h),rfl⟩
theorem bI0(L:List g6):(L.map mG).map PF.id=L.map g6.file:=by rw[List.map_map];rfl
theorem bWm{d:DS}{L:List g6}{f n base size:Int}(hc:lO f n L)(hR:d.R=L.map mG)(tW:d.off=false)(b0:0<=base)(b1:base<=12288)(s0:64<=size)(s1:size<=65536)(hf:base<=f)(hf2:f+L.length<=base+4096)
  (n1:1<=n) (n2:n+(iY L).length<=1099511627776):kV d base size=(d,.ok ⟨L,base,size,none⟩):=by
 have AP:=hc.Aw
 have Ct:jW base d.R=L.map g6.file:=by
  rw[hR,bwt AP hf (by rw[List.length_map];exact hf2),bI0]
 have hl:=Tk d.R L f n [] none [] true hc (aFj (f:=f) (n:=n) (by rw[hR];exact AP) (λs hs=>by rw[hR];exact List.mem_map.2 ⟨s,hs,rfl⟩)) (.inl rfl) (.inl rfl) n1 n2 (λh=>absurd rfl h)
 rw[List.append_nil]at hl
 unfold kV
 rw[if_neg (by omega),if_neg (by simp[tW]),Ct,hl]
 simp only[m0,List.nil_append]
 have hb:lK L d (L.map g6.file) (if L=[] then true else true)=(d,0):=by
  unfold lK
  rcases List.eq_nil_or_concat L with rfl|⟨A,s,rfl⟩
  ·rfl
  ·simp only[List.concat_eq_append,List.map_append,List.map_cons,List.map_nil,List.getLast?_concat]
   rw[if_neg (by simp),if_neg]
   have nM:=(hc.bl s (by simp)).1
   have:iz PF.id d.R s.file=some (mG s):=by
    rw[hR]
    exact AJ (x:=mG s) AP.sorted (by simp)
   unfold rn sJ
   rw[this,List.getLast?_concat]
   simp only[mG,nM];omega
 rw[hb]
 simp
theorem lO.E7:∀{f n:Int} {L:List g6},lO f n L->L.length<=(iY L).length+1
 | f,n,[],_=>by simp
 | f,n,[s],_=>by simp
 | f,n,s::t::L,h=>by
  obtain⟨_,_,_,_,h5,h6⟩:=h
  have:=h6.E7
  have h0:s.l.length≠0:=λe=>h5 (by simp) (List.eq_nil_of_length_eq_zero e)
  rw[xq,List.length_append,List.length_cons]
  omega
structure tC(g:iq)(d:DS)(f n:Int)(es:List (List UInt8)):Prop where
 chain:lO f n g.bW
 oP:iY g.bW=es
 files:d.R=g.bW.map mG
 nil:g.bW=[]->f=g.base/\n=1
 base:g.base<=f
 b0:0<=g.base
 b1:g.base<=12288
 s0:64<=g.size
 s1:g.size<=65536
 n1:1<=n
 fi:f+es.length+2<=g.base+4096
 off:d.off=false
 iw:g.iw=none
theorem tC.head{g:iq}{d:DS}{f n:Int}{es:List (List UInt8)}(h:tC g d f n es):c_ g.bW=n+es.length-1:=by
 by_cases hL:g.bW=[]
 ·have:=h.nil hL
  have e:=h.oP
  rw[hL]at e ⊢
  rw[<- e,this.2];rfl
 ·rw[h.chain.head hL,h.oP]
structure Al(g:iq)(f n:Int)(es:List (List UInt8))(p:List UInt8)(x:lY)(A:List g6)(l0:List (List UInt8))(pre:List UInt8):Prop where
 chain:lO f n A
 full:∀s∈A,s.l≠[]
 file:x.file=f+A.length
 oP:iY A++l0=es
 bl:∀q∈l0,q.length<=1048576
 all:pre++x.b=mR (j6 (n+(iY A).length).toNat::(l0++[p]))
 b8b:l0=[]\/pre=mR (j6 (n+(iY A).length).toNat::l0)
 app:∀t,nV (g.bW.map mG) x.file t=A.map mG++[⟨x.file,pre.length,pre++t⟩]
 put:lO f n (l5 g.bW x p)
 Ub:iY (l5 g.bW x p)=es++[p]
 b8e:(l5 g.bW x p).map mG=A.map mG++[⟨x.file,(pre++x.b).length,pre++x.b⟩]
 o5:l5 g.bW x p≠[]
 b8d:∀s∈l5 g.bW x p,s.l≠[]
 pos:0<x.b.length
 len:x.b.length<=27+p.length
 fresh:x.fresh=true->g.bW=A/\pre=[]
 tu:x.fresh=false->g.bW.map mG=A.map mG++[⟨x.file,pre.length,pre⟩]/\sJ g.bW=pre.length
theorem bW9{g:iq}{d:DS}{f n:Int}{es:List (List UInt8)}(h:tC g d f n es){p:List UInt8}(hp:p.length<=1048576)(hn:n+es.length<=100000):∃x A l0 pre,kd g false p= .ok x/\Al g f n es p x A l0 pre:=by
 have hh:=h.head
 have hc:=h.chain
 have hle:=hc.E7
 rw[h.oP]at hle
 have vA:=h.fi
 have xT:=h.n1
 have HM:=hc.Aw.sorted
 have R2:∀F:Int,F=f+g.bW.length->(∀s∈g.bW,s.l≠[])->∃x A l0 pre,ny g F p= .ok x/\Al g f n es p x A l0 pre:=by
  intro F hF Hh
  have e1:(c_ g.bW+1).toNat=(n+(iY g.bW).length).toNat:=by rw[hh,h.oP];congr 1;omega
  have nK:l5 g.bW ⟨F,true,ic (j6 (c_ g.bW+1).toNat)++ic p⟩ p=g.bW++[⟨F,c_ g.bW+1,(ic (j6 (c_ g.bW+1).toNat)++ic p).length,[p]⟩]:=by
   unfold l5
   simp
  have iD:ic (j6 (c_ g.bW+1).toNat)++ic p=mR (j6 (n+(iY g.bW).length).toNat::[p]):=by rw[e1,Fu,Fu];simp[mR]
  refine⟨⟨F,true,ic (j6 (c_ g.bW+1).toNat)++ic p⟩,g.bW,[],[],?_,hc,Hh,hF,by rw[List.append_nil];exact h.oP,by simp,?_,.inl rfl,λt=>?_,?_,?_,?_,?_,?_,?_,?_,λ_=>⟨rfl,rfl⟩,λe=>by cases e⟩
  ·unfold ny
   rw[if_neg (by omega)]
  ·exact iD
  ·refine We HM (λy hy=>?_) t
   have:=hc.Aw.mem hy
   rw[List.length_map]at this
   show y.id<F
   omega
  ·rw[nK]
   refine lO.app.2 ⟨hc,λ_=>Hh,hF,?_,?_,by simpa using hp,λh=>absurd rfl h,trivial⟩
   ·show c_ g.bW+1=_
    rw[hh,h.oP];omega
   ·show (ic (j6 (c_ g.bW+1).toNat)++ic p).length=(nD _).length
    unfold nD
    rw[iD,e1]
  ·rw[nK,BY,h.oP];simp[iY]
  ·rw[nK,List.map_append,List.nil_append]
   congr 1
   simp only[List.map_cons,List.map_nil,mG,nD]
   rw[iD,e1]
  ·rw[nK];simp
  ·rw[nK]
   intro s hs
   rcases List.mem_append.1 hs with hs|hs
   ·exact Hh s hs
   ·rw[List.mem_singleton.1 hs];simp
  ·show 0<(ic (j6 (c_ g.bW+1).toNat)++ic p).length
   rw[List.length_append,o7];omega
  ·show (ic (j6 (c_ g.bW+1).toNat)++ic p).length<=_
   rw[List.length_append,o7,o7,vy];omega
 unfold kd
 rw[if_neg (by omega),if_neg (by simp),if_neg (by omega)]
 rcases List.eq_nil_or_concat g.bW with hL|⟨A,s,hL⟩
 ·have CG:=h.nil hL
  rw[hL]
  simp only[List.getLast?_nil]
  exact R2 g.base (by rw[hL];simp;omega) (by rw[hL];simp)
 ·rw[List.concat_eq_append]at hL
  have hLg:g.bW.getLast?=some s:=by rw[hL,List.getLast?_concat]
  rw[hLg]
  simp only
  rw[hL]at hc
  obtain⟨h1,h2,c1,c2,c3,c4,c5,c6⟩:=lO.app.1 hc
  have Eu:=h2 (by simp)
  by_cases AQ:s.l.length=0\/(s.size:Int)+(ic p).length<=g.size
  ·rw[if_pos AQ]
   have nK:l5 g.bW ⟨s.file,false,ic p⟩ p=A++[{s with size:=s.size+(ic p).length,l:=s.l++[p]}]:=by
    unfold l5
    rw[if_neg (by simp)]
    simp only[hL,List.dropLast_concat,List.getLast?_concat]
    rfl
   have iD:nD s++ic p=mR (j6 (n+(iY A).length).toNat::(s.l++[p])):=by
    unfold nD
    rw[c2,<- List.cons_append,Up]
   have Ru:nD {s with size:=s.size+(ic p).length,l:=s.l++[p]}=nD s++ic p:=by
    unfold nD
    rw[<- List.cons_append,Up]
   refine⟨⟨s.file,false,ic p⟩,A,s.l,nD s,rfl,h1,Eu,c1,?_,c4,iD,.inr (by unfold nD;rw[c2]),λt=>?_,?_,?_,?_,?_,?_,?_,?_,λe=>(by cases e),λ_=>⟨?_,?_⟩⟩
   ·rw[<- h.oP,hL,BY];simp[iY]
   ·rw[hL,List.map_append]at HM ⊢
    exact Wd (x:=mG s) HM t
   ·rw[nK]
    refine lO.app.2 ⟨h1,λ_=>Eu,c1,c2,?_,λq hq=>?_,λh=>absurd rfl h,trivial⟩
    ·rw[Ru,List.length_append,<- c3]
    ·rcases List.mem_append.1 hq with hq|hq
     ·exact c4 q hq
     ·rw[List.mem_singleton.1 hq];exact hp
   ·rw[nK,BY,<- h.oP,hL,BY];simp[iY]
   ·rw[nK,List.map_append]
    simp only[List.map_cons,List.map_nil,mG,Ru]
   ·rw[nK];simp
   ·rw[nK]
    intro t ht
    rcases List.mem_append.1 ht with ht|ht
    ·exact Eu t ht
    ·rw[List.mem_singleton.1 ht];simp
   ·show 0<(ic p).length
    rw[o7];omega
   ·show (ic p).length<=_
    rw[o7];omega
   ·rw[hL,List.map_append];rfl
   ·unfold sJ;rw[hL,List.getLast?_concat];show ((s.size:Nat):Int)=_;rw[c3]
  ·rw[if_neg AQ]
   refine R2 (s.file+1) (by rw[hL,c1];simp;omega) (by
    intro t ht
    rw[hL]at ht
    rcases List.mem_append.1 ht with ht|ht
    ·exact Eu t ht
    ·rw[List.mem_singleton.1 ht]
     intro e
     exact AQ (.inl (by rw[e];rfl)))
def J0(d:DS)(f n:Int)(es:List (List UInt8))(p:List UInt8)(whole:Bool):Prop:=∃A l0 pre k,
 lO f n A/\(∀s∈A,s.l≠[])/\iY A++l0=es/\(∀q∈l0++[p],q.length<=1048576)/\(l0=[]\/pre=(mR (j6 (n+(iY A).length).toNat::l0)).length)/\pre<=k/\k<=(mR (j6 (n+(iY A).length).toNat::(l0++[p]))).length /\
 (whole=false->k<(mR (j6 (n+(iY A).length).toNat::(l0++[p]))).length)/\d.R=A.map mG++[⟨f+A.length,pre,(mR (j6 (n+(iY A).length).toNat::(l0++[p]))).take k⟩]
theorem Al.iw{g:iq}{f n:Int}{es:List (List UInt8)}{p:List UInt8}{x:lY}{A:List g6}{l0:List (List UInt8)}{pre:List UInt8}(h:Al g f n es p x A l0 pre)(hp:p.length<=1048576){d:DS}{m:Nat}{whole:Bool}(hm:m<=x.b.length)(hw:whole=false->m<x.b.length)
  (hR:d.R=nV (g.bW.map mG) x.file (x.b.take m)):J0 d f n es p whole:=by
 have iD:=h.all
 have hl:(mR (j6 (n+(iY A).length).toNat::(l0++[p]))).length=pre.length+x.b.length:=by rw[<- iD,List.length_append]
 refine⟨A,l0,pre.length,pre.length+m,h.chain,h.full,h.oP,λq hq=>?_,?_,by omega,by omega,λe=>by have:=hw e;omega,?_⟩
 ·rcases List.mem_append.1 hq with hq|hq
  ·exact h.bl q hq
  ·rw[List.mem_singleton.1 hq];exact hp
 ·rcases h.b8b with h1|h1
  ·exact .inl h1
  ·exact .inr (by rw[h1])
 ·rw[hR,h.app,<- iD,List.take_length_add_append,h.file]
theorem Al.may{g:iq}{d:DS}{f n:Int}{es:List (List UInt8)}{p:List UInt8}{x:lY}{A:List g6}{l0:List (List UInt8)}{pre:List UInt8}(h:Al g f n es p x A l0 pre)(hi:tC g d f n es){d':DS}(ho:d'.off=false):may d' x.file=0/\0<=x.file/\x.file<16384:=by
 have h1:=h.chain.E7
 have h2:(iY A).length+l0.length=es.length:=by rw[<- h.oP,List.length_append]
 have:=hi.fi
 have:=hi.base
 have:=hi.b0
 have:=hi.b1
 have h3:=h.file
 refine⟨?_,by omega,by omega⟩
 unfold Go.Proofs.YtfenmffiidchcaaGreat.may
 rw[if_neg (by simp[ho]),if_neg (by omega)]
theorem F6{g:iq}{d a s:DS}{p:List UInt8}{x:lY}{e1 e2:Int}(hp:kd g d.off p= .ok x)(hm:ik g d=((g,d),0))(ha:d.append x.file x.b=(a,e1))(hs:a.sync x.file=(s,e2)):
  kn g d p=if e1≠0 then ((g,a),(0,e1)) else if e2≠0 then ((g,s),(0,e2)) else (({g with bW:=l5 g.bW x p},s),(c_ (l5 g.bW x p),0)):=by
 unfold kn
 rw[hp]
 simp only[hm]
 rw[if_neg (by decide),ha]
 simp only[hs]
theorem append_eq{d:DS}{f:Int}{b:List UInt8}(hm:may d f=0):d.append f b=({d.g7 with R:=nV d.R f b},d.g7.err):=by
 unfold DS.append
 rw[if_neg (by simp[hm])]
theorem Wm{g:iq}{d:DS}{f n:Int}{es:List (List UInt8)}(h:tC g d f n es){p:List UInt8}(hp:p.length<=1048576)(hn:n+es.length<=100000)(vA:f+es.length+3<=g.base+4096)(ha:0<=d.arm):
  (∃g' d',kn g d p=((g',d'),(n+es.length,0))/\tC g' d' f n (es++[p])/\d'.ops=d.ops+2/\0<=d'.arm/\(d.arm=0->d'.arm=0)/\g'.base=g.base/\g'.size=g.size/\(∀s∈g'.bW,s.l≠[])/\d.arm≠1/\d.arm≠2) \/
  (∃d',kn g d p=((g,d'),(0,8))/\J0 d' f n es p true/\d'.off=true/\d'.ops<=d.ops+2/\d.arm≠0):=by
 obtain⟨x,A,l0,pre,j7,hr⟩:=bW9 h hp hn
 have tW:=h.off
 have hm:ik g d=((g,d),0):=by unfold ik;rw[h.iw]
 obtain⟨CF,f0,f1⟩:=hr.may h tW
 have uO:=append_eq (b:=x.b) CF
 by_cases h1:d.arm=1
 ·right
  have e:d.g7.off=true:=by simp[DS.g7,h1]
  refine⟨{d.g7 with R:=nV d.R x.file x.b},?_,hr.iw hp (m:=x.b.length) (Nat.le_refl _) (λe=>by cases e) (by rw[List.take_length,h.files]),e,by simp[DS.g7],by omega⟩
  have e2:d.g7.err=8:=by unfold DS.err;rw[e];rfl
  rw[F6 (by rw[tW];exact j7) hm uO rfl,e2]
  rfl
 ·have e:d.g7.off=false:=by simp[DS.g7,h1]
  have e2:d.g7.err=0:=by unfold DS.err;rw[e];rfl
  have RK:=hr.app x.b
  rw[<- h.files]at RK
  let d1:DS:={d.g7 with R:=nV d.R x.file x.b}
  have AP:tB f (A.map mG++[⟨x.file,pre.length,pre++x.b⟩]):=hr.chain.Aw.snoc (by rw[List.length_map];exact hr.file)
  have l9:d1.R=A.map mG++[⟨x.file,pre.length,pre++x.b⟩]:=RK
  have R1:d1.find x.file=0:=by
   unfold DS.find
   rw[if_neg (by rw[(hr.may h (d':=d1) e).1];simp)]
   have hs:=AP.sorted
   rw[l9,if_pos (S6 (x:=⟨x.file,pre.length,pre++x.b⟩) hs)]
  rw[e2]at uO
  by_cases h2:d.arm=2
  ·right
   have e3:d1.g7.off=true:=by simp[DS.g7,d1,h2]
   have HP:d1.sync x.file=(d1.g7,8):=by
    unfold DS.sync
    rw[if_neg (by simp[R1]),if_pos e3]
   rw[F6 (by rw[tW];exact j7) hm uO HP]
   refine⟨d1.g7,rfl,hr.iw hp (m:=x.b.length) (Nat.le_refl _) (λe=>by cases e) (by rw[List.take_length,<- h.files];rfl),e3,by simp[DS.g7,d1],by omega⟩
  ·left
   have RM:d1.arm=if 0<d.arm then d.arm-1 else d.arm:=rfl
   have e3:d1.g7.off=false:=decide_eq_false (by rw[RM];split<;>omega)
   have d_3:0<=d1.arm:=by rw[RM];split<;>omega
   have HP:d1.sync x.file=({d1.g7 with R:=oh d1.R x.file λy=>{y with safe:=y.b.length}},0):=by
    unfold DS.sync
    rw[if_neg (by simp[R1]),if_neg (by simp[e3])]
   rw[F6 (by rw[tW];exact j7) hm uO HP]
   have nJ:=hr.put
   have hup:oh d1.R x.file (λy=>{y with safe:=y.b.length})=(l5 g.bW x p).map mG:=by
    rw[l9,cF9 (x:=⟨x.file,pre.length,pre++x.b⟩) AP.sorted,hr.b8e]
   refine⟨{g with bW:=l5 g.bW x p},{d1.g7 with R:=oh d1.R x.file λy=>{y with safe:=y.b.length}},?_,⟨nJ,hr.Ub,hup,λe=>absurd e hr.o5,h.base,h.b0,h.b1,h.s0,h.s1,h.n1,?_,e3,h.iw⟩,by simp[DS.g7,d1],?_,λh0=>by simp[DS.g7,d1,h0],rfl,rfl,hr.b8d,h1,h2⟩
   ·have:c_ (l5 g.bW x p)=n+es.length:=by
     rw[nJ.head hr.o5,hr.Ub,List.length_append]
     simp;omega
    rw[if_neg (by decide),if_neg (by decide),this]
   ·show f+((es++[p]).length:Int)+2<=g.base+4096
    rw[List.length_append]
    simp;omega
   ·show 0<=if 0<d1.arm then d1.arm-1 else d1.arm
    split<;>omega
theorem Ua{g:iq}{off:Bool}{p:List UInt8}{x:lY}(h:kd g off p= .ok x):x.b.length<=27+p.length:=by
 have hf:∀F,ny g F p= .ok x->x.b.length<=27+p.length:=λF h=>by
  unfold ny at h
  split at h
  ·cases h
  ·cases h
   simp only[List.length_append,o7,vy];omega
 unfold kd at h
 split at h
 ·cases h
 ·split at h
  ·cases h
  ·split at h
   ·cases h
   ·split at h
    ·exact hf _ h
    ·split at h
     ·cases h
      simp only[o7];omega
     ·exact hf _ h
theorem Iy{g:iq}{d:DS}{N:Nat}(h:d.Ok N):(ik g d).1.2.Ok N:=by
 unfold ik
 split
 ·exact h
 ·simp only
  split
  ·exact h.remove _
  ·exact h.cut _ _
theorem Wj{g:iq}{d:DS}{N:Nat}(h:d.Ok N)(p:List UInt8):(kn g d p).1.2.Ok (N+(27+p.length)):=by
 unfold kn
 split
 ·exact h.mono (by omega)
 ·rename_i x hx
  have hl:=Ua hx
  have hm:=Iy (g:=g) h
  simp only
  split
  ·exact hm.mono (by omega)
  ·have ha:=(hm.append x.file x.b).mono (M:=N+(27+p.length)) (by omega)
   split
   ·exact ha
   ·have hs:=ha.sync x.file
    split
    ·exact hs
    ·exact hs
theorem Ga{L:List g6}{d:DS}{ids:List Int}{wh:Bool}{N:Nat}(h:d.Ok N):(lK L d ids wh).1.Ok N:=by
 unfold lK
 split
 ·exact h
 ·split
  ·exact h.remove _
  ·split
   ·exact h.cut _ _
   ·exact h
theorem T2{d:DS}{base size:Int}{N:Nat}(h:d.Ok N):(kV d base size).1.Ok N:=by
 unfold kV
 split
 ·exact h
 ·split
  ·exact h
  ·split
   ·exact h
   ·split
    ·exact Ga h
    ·exact Ga h
theorem m_.mono{s:g6}{N M:Nat}(h:m_ s N)(hm:N<=M):m_ s M:=⟨h.f0,h.f1,h.n0,h.n1,Nat.le_trans h.sz hm,Nat.le_trans h.ln hm,h.bl⟩
theorem iq.Ok.mono{g:iq}{N M:Nat}(h:g.Ok N)(hm:N<=M):g.Ok M:=⟨λs hs=>(h.bW s hs).mono hm,h.b0,h.b1,h.s0,h.s1,Nat.le_trans h.ln hm⟩
theorem iq.Ok.congr{g g':iq}{N:Nat}(h:g.Ok N)(h1:g'.bW=g.bW)(h2:g'.base=g.base)(h3:g'.size=g.size):g'.Ok N:=
 ⟨by rw[h1];exact h.bW,by rw[h2];exact h.b0,by rw[h2];exact h.b1,by rw[h3];exact h.s0,by rw[h3];exact h.s1,by rw[h1];exact h.ln⟩
theorem wP(g:iq)(d:DS):(ik g d).1.1.bW=g.bW/\(ik g d).1.1.base=g.base/\(ik g d).1.1.size=g.size:=by
 unfold ik;split<;>exact⟨rfl,rfl,rfl⟩
theorem Ix{g:iq}{d:DS}{N:Nat}(h:g.Ok N):(ik g d).1.1.Ok N:=let ⟨a,b,c⟩:=wP g d;h.congr a b c
structure Ao(g:iq)(p:List UInt8)(x:lY):Prop where
 pl:p.length<=1048576
 hd:c_ g.bW<1099511627776
 tu:x.fresh=false->∃s,g.bW.getLast?=some s/\x.file=s.file
 f0:x.fresh=true->0<=x.file/\x.file<=100000
 bl:x.b.length<=27+p.length
 pos:8<=x.b.length
theorem IQ{g:iq}{N:Nat}(h:g.Ok N){off:Bool}{p:List UInt8}{x:lY}(hx:kd g off p= .ok x):Ao g p x:=by
 have hb:=Ua hx
 have h0:=h.b0
 have h1:=h.b1
 have hp:p.length<=1048576:=by
  unfold kd at hx
  split at hx
  ·cases hx
  ·omega
 have xI:∀F,0<=F->c_ g.bW<1099511627776->ny g F p= .ok x->Ao g p x:=λF hF hd hx=>by
  unfold ny at hx
  split at hx
  ·cases hx
  ·cases hx
   exact⟨hp,hd,λe=>(by cases e),λ_=>⟨hF,by show F<=100000;omega⟩,hb,by show 8<=(ic _++ic p).length;rw[List.length_append,o7];omega⟩
 unfold kd at hx
 rw[if_neg (by omega)]at hx
 split at hx
 ·cases hx
 ·split at hx
  ·cases hx
  ·rename_i hd
   have hd:c_ g.bW<1099511627776:=by omega
   split at hx
   ·exact xI _ h0 hd hx
   ·rename_i s hs
    split at hx
    ·cases hx
     exact⟨hp,hd,λ_=>⟨s,hs,rfl⟩,λe=>(by cases e),hb,by show 8<=(ic p).length;rw[o7];omega⟩
    ·have:=(h.bW s (List.mem_of_getLast? hs)).f0
     exact xI _ (by omega) hd hx
def tm(L:List g6)(x:lY):List g6:=if x.fresh=true then L++[⟨x.file,c_ L+1,0,[]⟩] else L
def tD(s:g6)(n:Nat)(p:List UInt8):g6:={s with size:=s.size+n,l:=s.l++[p]}
theorem Bh(L:List g6)(x:lY)(p:List UInt8){A:List g6}{s:g6}(h:tm L x=A++[s]):l5 L x p=A++[tD s x.b.length p]:=by
 unfold l5
 have:(if x.fresh=true then L++[⟨x.file,c_ L+1,0,[]⟩] else L)=A++[s]:=h
 rw[this]
 simp only[List.dropLast_concat,List.getLast?_concat]
 rfl
theorem Fk{g:iq}{p:List UInt8}{x:lY}(h:Ao g p x):∃A s,tm g.bW x=A++[s]:=by
 unfold tm
 cases hf:x.fresh with
 | true=>exact⟨_,_,rfl⟩
 | false=>
  obtain⟨s,hs,_⟩:=h.tu hf
  obtain⟨A,hA⟩:=List.getLast?_eq_some_iff.1 hs
  exact⟨A,s,by rw[if_neg (by decide)];exact hA⟩
theorem IB{g:iq}{N:Nat}(hg:g.Ok N){p:List UInt8}{x:lY}(h:Ao g p x):∀s∈tm g.bW x,m_ s N:=by
 intro s hs
 unfold tm at hs
 split at hs
 ·rename_i hf
  rcases List.mem_append.1 hs with hs|hs
  ·exact hg.bW s hs
  ·rw[List.mem_singleton.1 hs]
   have:=uP hg.bW
   have:=h.hd
   exact⟨(h.f0 hf).1,(h.f0 hf).2,by show 1<=c_ g.bW+1;omega,by show c_ g.bW+1<=_;omega,Nat.zero_le _,Nat.zero_le _,λb hb=>by cases hb⟩
 ·exact hg.bW s hs
theorem bRg(L:List g6)(x:lY):(tm L x).length<=L.length+1:=by
 unfold tm;split<;>simp
theorem IS{g:iq}{N:Nat}(hg:g.Ok N){p:List UInt8}{x:lY}(h:Ao g p x):(∀s∈l5 g.bW x p,m_ s (N+(28+p.length)))/\(l5 g.bW x p).length<=N+1:=by
 obtain⟨A,s,hA⟩:=Fk h
 have cR:=IB hg h
 have hl:=bRg g.bW x
 have hn:=hg.ln
 rw[Bh _ _ _ hA]
 rw[hA]at cR hl
 refine⟨λt ht=>?_,by simp at hl ⊢;omega⟩
 rcases List.mem_append.1 ht with ht|ht
 ·exact (cR t (List.mem_append_left _ ht)).mono (by omega)
 ·rw[List.mem_singleton.1 ht]
  have hs:=cR s (by simp)
  have:=hs.sz
  have:=hs.ln
  have:=h.bl
  refine⟨hs.f0,hs.f1,hs.n0,hs.n1,by show s.size+x.b.length<=_;omega,by show (s.l++[p]).length<=_;simp;omega,λb hb=>?_⟩
  rcases List.mem_append.1 hb with hb|hb
  ·exact hs.bl b hb
  ·rw[List.mem_singleton.1 hb];exact h.pl
structure j2(lo hi:Int)(A B M:List PF):Prop where
 a:∀x∈A,x.id<lo
 m:∀x∈M,lo<=x.id/\x.id<hi
 b:∀x∈B,hi<=x.id
def lh(A B:List PF)(d:DS):DS:={d with R:=A++d.R++B}
section
variable {lo hi:Int} {A B M:List PF}
theorem j2.g7(h:j2 lo hi A B M){f:Int}(h1:lo<=f)(h2:f<hi):iW PF.id (A++M++B) f=A.length+iW PF.id M f:=by
 have eA:A.filter (λx=>decide (PF.id x<f))=A:=List.filter_eq_self.2 λx hx=>decide_eq_true (by have:=h.a x hx;omega)
 have eB:B.filter (λx=>decide (PF.id x<f))=[]:=List.filter_eq_nil_iff.2 λx hx=>by have:=h.b x hx;simp;omega
 unfold iW
 rw[List.filter_append,List.filter_append,eA,eB,List.append_nil,List.length_append]
theorem j2.at_(h:j2 lo hi A B M)(c:Nat)(hc:c<=M.length):(A++M++B)[A.length+c]?=if c<M.length then M[c]? else B[0]?:=by
 rw[List.append_assoc,List.getElem?_append_right (by omega),show A.length+c-A.length=c by omega]
 split
 ·rw[List.getElem?_append_left (by omega)]
 ·rw[List.getElem?_append_right (by omega),show c-M.length=0 by omega]
theorem j2.is(h:j2 lo hi A B M){f:Int}(h1:lo<=f)(h2:f<hi):kq PF.id (A++M++B) f=kq PF.id M f:=by
 unfold kq
 rw[h.g7 h1 h2,h.at_ _ (Au M f)]
 by_cases hc:iW PF.id M f<M.length
 ·rw[if_pos hc]
 ·rw[if_neg hc,List.getElem?_eq_none (l:=M) (by omega)]
  cases hB:B[0]? with
  | none=>rfl
  | some y=>
   have:=h.b y (List.mem_of_getElem? hB)
   simp;omega
theorem j2.get(h:j2 lo hi A B M){f:Int}(h1:lo<=f)(h2:f<hi):iz PF.id (A++M++B) f=iz PF.id M f:=by
 unfold iz
 rw[h.is h1 h2]
 split
 ·rename_i hi
  obtain⟨hl,_⟩:=th hi
  rw[h.g7 h1 h2,h.at_ _ (by omega),if_pos hl]
 ·rfl
theorem j2.put(h:j2 lo hi A B M){x:PF}(h1:lo<=x.id)(h2:x.id<hi):mo PF.id (A++M++B) x=A++mo PF.id M x++B:=by
 have hc:=Au (key:=PF.id) M x.id
 unfold mo
 rw[h.is h1 h2,h.g7 h1 h2]
 have e1:(A++M++B).take (A.length+iW PF.id M x.id)=A++M.take (iW PF.id M x.id):=by
  rw[List.append_assoc,List.take_length_add_append,List.take_append_of_le_length hc]
 rw[e1]
 split
 ·rename_i hi
  obtain⟨hl,_⟩:=th hi
  rw[List.append_assoc A M B,Nat.add_assoc,List.drop_length_add_append,List.drop_append_of_le_length (by omega)]
  simp only[List.append_assoc]
 ·rw[List.append_assoc A M B,List.drop_length_add_append,List.drop_append_of_le_length hc]
  simp only[List.append_assoc]
theorem j2.del(h:j2 lo hi A B M){f:Int}(h1:lo<=f)(h2:f<hi):nI PF.id (A++M++B) f=A++nI PF.id M f++B:=by
 unfold nI
 rw[h.is h1 h2]
 split
 ·rename_i hi
  obtain⟨hl,_⟩:=th hi
  rw[h.g7 h1 h2,List.append_assoc,List.eraseIdx_append_of_length_le (by omega),show A.length+iW PF.id M f-A.length=iW PF.id M f by omega,List.eraseIdx_append_of_lt_length hl,List.append_assoc]
 ·rfl
theorem j2.app(h:j2 lo hi A B M){f:Int}(h1:lo<=f)(h2:f<hi)(b:List UInt8):nV (A++M++B) f b=A++nV M f b++B:=by
 unfold nV
 rw[h.get h1 h2,h.put (x:=⟨f,_,_⟩) h1 h2]
theorem j2.u7(h:j2 lo hi A B M){f:Int}(h1:lo<=f)(h2:f<hi)(g:PF->PF):oh (A++M++B) f g=A++oh M f g++B:=by
 unfold oh
 rw[h.get h1 h2]
 split
 ·rw[h.put (x:={g _ with id:=f}) h1 h2]
 ·rfl
theorem j2.len(h:j2 lo hi A B M){f:Int}(h1:lo<=f)(h2:f<hi):rn (A++M++B) f=rn M f:=by
 unfold rn;rw[h.get h1 h2]
theorem j2.JB{M':List PF}(h:j2 lo hi A B M)(hm:∀x∈M',lo<=x.id/\x.id<hi):j2 lo hi A B M':=⟨h.a,hm,h.b⟩
theorem j2.dWy(h:j2 lo hi A B M){f:Int}(h1:lo<=f)(h2:f<hi)(b:List UInt8):j2 lo hi A B (nV M f b):=h.JB λx hx=>by
 rcases C9 hx with rfl|hx
 ·exact⟨h1,h2⟩
 ·exact h.m x hx
theorem j2.Vw(h:j2 lo hi A B M){f:Int}(h1:lo<=f)(h2:f<hi)(g:PF->PF):j2 lo hi A B (oh M f g):=h.JB λx hx=>by
 rcases Fg hx with hx|⟨y,_,_,rfl⟩
 ·exact h.m x hx
 ·exact⟨h1,h2⟩
theorem j2.dWz(h:j2 lo hi A B M)(f:Int):j2 lo hi A B (nI PF.id M f):=h.JB λx hx=>h.m x (Ff hx)
end
section
variable {lo hi:Int} {A B:List PF} {d:DS}
theorem SY(f:Int):may (lh A B d) f=may d f:=rfl
theorem Ik(h:j2 lo hi A B d.R){f:Int}(h1:lo<=f)(h2:f<hi):(lh A B d).find f=d.find f:=by
 unfold DS.find
 rw[SY,show (lh A B d).R=A++d.R++B from rfl,h.is h1 h2]
theorem bw8(h:j2 lo hi A B d.R){f:Int}(h1:lo<=f)(h2:f<hi)(b:List UInt8):(lh A B d).append f b=(lh A B (d.append f b).1,(d.append f b).2)/\j2 lo hi A B (d.append f b).1.R:=by
 unfold DS.append
 rw[SY]
 split
 ·exact⟨rfl,h⟩
 ·rw[show (lh A B d).R=A++d.R++B from rfl,h.app h1 h2]
  exact⟨rfl,h.dWy h1 h2 b⟩
theorem bw9(h:j2 lo hi A B d.R){f:Int}(h1:lo<=f)(h2:f<hi):(lh A B d).sync f=(lh A B (d.sync f).1,(d.sync f).2)/\j2 lo hi A B (d.sync f).1.R:=by
 unfold DS.sync
 rw[Ik h h1 h2]
 split
 ·exact⟨rfl,h⟩
 ·rw[show (lh A B d).g7.off=d.g7.off from rfl]
  split
  ·exact⟨rfl,h⟩
  ·rw[show (lh A B d).R=A++d.R++B from rfl,h.u7 h1 h2]
   exact⟨rfl,h.Vw h1 h2 _⟩
theorem SX(h:j2 lo hi A B d.R){f:Int}(h1:lo<=f)(h2:f<hi)(n:Int):(lh A B d).cut f n=(lh A B (d.cut f n).1,(d.cut f n).2)/\j2 lo hi A B (d.cut f n).1.R:=by
 unfold DS.cut
 rw[Ik h h1 h2,show (lh A B d).R=A++d.R++B from rfl,h.len h1 h2]
 split
 ·exact⟨rfl,h⟩
 ·split
  ·exact⟨rfl,h⟩
  ·rw[show (lh A B d).g7.off=d.g7.off from rfl]
   split
   ·exact⟨rfl,h⟩
   ·rw[h.u7 h1 h2]
    exact⟨rfl,h.Vw h1 h2 _⟩
theorem SZ(h:j2 lo hi A B d.R){f:Int}(h1:lo<=f)(h2:f<hi):(lh A B d).remove f=(lh A B (d.remove f).1,(d.remove f).2)/\j2 lo hi A B (d.remove f).1.R:=by
 unfold DS.remove
 rw[Ik h h1 h2]
 split
 ·exact⟨rfl,h⟩
 ·rw[show (lh A B d).g7.off=d.g7.off from rfl]
  split
  ·exact⟨rfl,h⟩
  ·rw[show (lh A B d).R=A++d.R++B from rfl,h.del h1 h2]
   exact⟨rfl,h.dWz f⟩
structure Ah(lo hi:Int)(g:iq):Prop where
 b0:lo<=g.base
 b1:g.base+4096<=hi
 bW:∀s∈g.bW,g.base<=s.file/\s.file<g.base+4096
 iw:∀x,g.iw=some x->g.base<=x.file/\x.file<g.base+4096
theorem bW8{g:iq}(h:Ah lo hi g){off:Bool}{p:List UInt8}{x:lY}(hx:kd g off p= .ok x):g.base<=x.file/\x.file<g.base+4096:=by
 have hf:∀f,g.base<=f->ny g f p= .ok x->g.base<=x.file/\x.file<g.base+4096:=λf hb hf=>by
  unfold ny at hf
  split at hf
  ·cases hf
  ·cases hf;exact⟨hb,by dsimp only;omega⟩
 unfold kd at hx
 split at hx
 ·cases hx
 ·split at hx
  ·cases hx
  ·split at hx
   ·cases hx
   ·split at hx
    ·exact hf _ (Int.le_refl _) hx
    ·rename_i s hs
     have hs:=h.bW s (List.mem_of_getLast? hs)
     split at hx
     ·cases hx;exact hs
     ·exact hf _ (by omega) hx
theorem bI9{g:iq}(hg:Ah lo hi g)(h:j2 lo hi A B d.R):ik g (lh A B d)=(((ik g d).1.1,lh A B (ik g d).1.2),(ik g d).2)/\j2 lo hi A B (ik g d).1.2.R/\Ah lo hi (ik g d).1.1:=by
 unfold ik
 cases ht:g.iw with
 | none=>exact⟨rfl,h,hg⟩
 | some x=>
  have hx:=hg.iw x ht
  have h1:=hg.b0
  have h2:=hg.b1
  simp only
  split
  ·obtain⟨e,hw⟩:=SZ h (f:=x.file) (by omega) (by omega)
   rw[e]
   refine⟨rfl,hw,hg.b0,hg.b1,hg.bW,λy hy=>?_⟩
   simp only at hy
   split at hy
   ·cases hy
   ·cases hy;exact hx
  ·obtain⟨e,hw⟩:=SX h (f:=x.file) (by omega) (by omega) x.oS
   rw[e]
   refine⟨rfl,hw,hg.b0,hg.b1,hg.bW,λy hy=>?_⟩
   simp only at hy
   split at hy
   ·cases hy
   ·cases hy;exact hx
theorem b8g{L:List g6}{x:lY}{p:List UInt8}{P:Int->Prop}(hL:∀s∈L,P s.file)(hx:P x.file):∀s∈l5 L x p,P s.file:=by
 unfold l5
 have h1:∀s∈(if x.fresh=true then L++[⟨x.file,c_ L+1,0,[]⟩] else L),P s.file:=by
  split
  ·intro s hs
   rcases List.mem_append.1 hs with hs|hs
   ·exact hL s hs
   ·rw[List.mem_singleton.1 hs];exact hx
  ·exact hL
 intro s hs
 simp only at hs
 rcases List.mem_append.1 hs with hs|hs
 ·exact h1 s (List.dropLast_subset _ hs)
 ·obtain⟨y,hy,rfl⟩:=List.mem_map.1 hs
  exact h1 y (List.mem_of_getLast? (by simpa using hy))
theorem Wl{g:iq}(hg:Ah lo hi g)(h:j2 lo hi A B d.R)(p:List UInt8):kn g (lh A B d) p=(((kn g d p).1.1,lh A B (kn g d p).1.2),(kn g d p).2)/\j2 lo hi A B (kn g d p).1.2.R/\Ah lo hi (kn g d p).1.1:=by
 unfold kn
 rw[show (lh A B d).off=d.off from rfl]
 cases hp:kd g d.off p with
 | error e=>exact⟨rfl,h,hg⟩
 | ok x=>
  have hx:=bW8 hg hp
  have h1:=hg.b0
  have h2:=hg.b1
  obtain⟨em,hm,uQ⟩:=bI9 hg h
  simp only
  rw[em]
  simp only
  split
  ·exact⟨rfl,hm,uQ⟩
  ·obtain⟨ea,ha⟩:=bw8 hm (f:=x.file) (by omega) (by omega) x.b
   rw[ea]
   simp only
   split
   ·exact⟨rfl,ha,uQ⟩
   ·obtain⟨es,hs⟩:=bw9 ha (f:=x.file) (by omega) (by omega)
    rw[es]
    simp only
    split
    ·exact⟨rfl,hs,uQ⟩
    ·refine⟨rfl,hs,uQ.b0,uQ.b1,?_,uQ.iw⟩
     have Hc:(ik g d).1.1.base=g.base:=(wP g d).2.1
     show ∀s∈l5 (ik g d).1.1.bW x p,(ik g d).1.1.base<=s.file/\s.file<(ik g d).1.1.base+4096
     exact b8g (P:=λf=>(ik g d).1.1.base<=f/\f<(ik g d).1.1.base+4096) uQ.bW (by rw[Hc];exact hx)
theorem bwu{M:List PF}{base:Int}(h:j2 base (base+4096) A B M):jW base (A++M++B)=jW base M:=by
 have eA:(A.map PF.id).filter (λf=>decide (base<=f/\f<base+4096))=[]:=List.filter_eq_nil_iff.2 λf hf=>by
  obtain⟨x,hx,rfl⟩:=List.mem_map.1 hf
  have:=h.a x hx;simp;omega
 have eB:(B.map PF.id).filter (λf=>decide (base<=f/\f<base+4096))=[]:=List.filter_eq_nil_iff.2 λf hf=>by
  obtain⟨x,hx,rfl⟩:=List.mem_map.1 hf
  have:=h.b x hx;simp;omega
 unfold jW
 rw[List.map_append,List.map_append,List.filter_append,List.filter_append,eA,eB,List.nil_append,List.append_nil]
theorem bIo{M:List PF}{L:List g6}{f:Int}{last:Bool}(h:j2 lo hi A B M)(h1:lo<=f)(h2:f<hi):mA L (A++M++B) f last=mA L M f last:=by
 unfold mA;rw[h.get h1 h2]
theorem Tj{M:List PF}(h:j2 lo hi A B M):∀(ids:List Int) (prev:Option Int) (L:List g6) (wh:Bool),(∀f∈ids,lo<=f/\f<hi)->m0 (A++M++B) ids prev L wh=m0 M ids prev L wh
 | [],_,_,_,_=>rfl
 | f::r,prev,L,wh,hi=>by
  unfold m0
  rw[bIo h (hi f (.head _)).1 (hi f (.head _)).2]
  simp only
  rw[Tj h r _ _ _ λf hf=>hi f (.tail _ hf)]
theorem SJ{M:List PF}{base f:Int}(h:f∈jW base M):base<=f/\f<base+4096:=by
 unfold jW at h
 exact of_decide_eq_true (List.mem_filter.1 h).2
theorem Wy{L:List g6}{base:Int}{ids:List Int}{wh:Bool}(h:j2 base (base+4096) A B d.R)(hi:∀f∈ids,base<=f/\f<base+4096):lK L (lh A B d) ids wh=(lh A B (lK L d ids wh).1,(lK L d ids wh).2)/\j2 base (base+4096) A B (lK L d ids wh).1.R:=by
 unfold lK
 cases hl:ids.getLast? with
 | none=>exact⟨rfl,h⟩
 | some f=>
  obtain⟨h1,h2⟩:=hi f (List.mem_of_getLast? hl)
  simp only
  split
  ·exact SZ h h1 h2
  ·rw[show (lh A B d).R=A++d.R++B from rfl,h.len h1 h2]
   split
   ·exact SX h h1 h2 _
   ·exact⟨rfl,h⟩
theorem bWi{base size:Int}(h:j2 base (base+4096) A B d.R):kV (lh A B d) base size=(lh A B (kV d base size).1,(kV d base size).2)/\j2 base (base+4096) A B (kV d base size).1.R:=by
 unfold kV
 split
 ·exact⟨rfl,h⟩
 ·rw[show (lh A B d).off=d.off from rfl,show (lh A B d).R=A++d.R++B from rfl,bwu h,Tj h _ _ _ _ λf hf=>SJ hf]
  split
  ·exact⟨rfl,h⟩
  ·split
   ·exact⟨rfl,h⟩
   ·rename_i L wh _
    obtain⟨e,hw⟩:=Wy (L:=L) (wh:=wh) h λf hf=>SJ hf
    rw[e]
    simp only
    split
    ·exact⟨rfl,hw⟩
    ·exact⟨rfl,hw⟩
end
def lG(n:Nat)(l:List gW):kC:=(List.range n).map λt:Nat=>wx (t:Int) l
theorem u6(n:Nat)(l:List gW):(lG n l).length=n:=by unfold lG;simp
theorem Jk{n:Nat}(l:List gW)(t:Nat)(h:t<n):lz (lG n l) t=wx (t:Int) l:=by
 rw[rB _ t (by rw[u6];exact h)]
 unfold lG;simp
theorem cFo{ts:kC}{c:iy}(h:kJ ts.length c=true)(t:Nat)(ht:t<ts.length):lz (mJ ts c) t=wj t (lz ts t) c:=by
 have hc:0<=c.table/\c.table<(ts.length:Int):=of_decide_eq_true h
 rw[rB _ t (by rw[xd];exact ht)]
 unfold mJ wj
 rw[List.getElem_set]
 by_cases e:c.table=t
 ·rw[if_pos (by omega),if_pos e,e];rfl
 ·rw[if_neg (by omega),if_neg e,rB ts t ht]
theorem U':∀{l:List iy} {ts:kC},(∀c∈l,kJ ts.length c=true)->∀t:Nat,t<ts.length->lz (jS ts l) t=l.foldl (wj t) (lz ts t)
 | [],ts,_,t,_=>rfl
 | c::l,ts,h,t,ht=>by
  show lz (jS (mJ ts c) l) t=_
  rw[U' (λx hx=>by rw[xd];exact h x (.tail _ hx)) t (by rw[xd];exact ht),cFo (h c (.head _)) t ht]
  rfl
theorem cFv{a b:kC}(hl:a.length=b.length)(h:∀t:Nat,t<a.length->lz a t=lz b t):a=b:=
 List.ext_getElem hl λt h1 h2=>by have:=h t h1;rw[rB a t h1,rB b t h2]at this;exact this
theorem FF{n:Nat}{l:List gW}{t:gW}(h:∀c∈t.changes,kJ n c=true):jS (lG n l) t.changes=lG n (l++[t]):=by
 have hl:=u6 n l
 have h':∀c∈t.changes,kJ (lG n l).length c=true:=λc hc=>by rw[hl];exact h c hc
 refine cFv (by rw[uy,u6,u6]) λi hi=>?_
 rw[uy,hl]at hi
 rw[U' h' i (by rw[hl];exact hi),Jk l i hi,Jk _ i hi]
 unfold wx
 simp
theorem Jn(n:Nat):lG n []=List.replicate n []:=by
 unfold lG wx
 refine List.ext_getElem (by simp) λi h1 h2=>by simp
structure DD(n:Nat)(all:List gW):Prop where
 may:∀t∈all,ji t=true
 aI:∀i (h:i<all.length),all[i].aI=(i:Int)+1
 ch:∀t∈all,∀c∈t.changes,kJ n c=true
theorem WJ{t:gW}(h:ji t=true):mw (mv t)= .ok t:=Pd h
theorem Ur{n:Nat}{all:List gW}(h:DD n all)(m:Nat):∀(k j:Nat),j+k=all.length->oG n m ((all.drop j).map mv) ((j:Int)+1) (lG n (all.take (max j m)))=some (lG n (all.take (max all.length m)))
 | 0,j,hj=>by
  rw[List.drop_eq_nil_of_le (by omega),show j=all.length by omega];rfl
 | k+1,j,hj=>by
  have hl:j<all.length:=by omega
  have ih:=Ur h m k (j+1) (by omega)
  have hm:=h.may _ (List.getElem_mem hl)
  have nY:=h.ch _ (List.getElem_mem hl)
  rw[List.drop_eq_getElem_cons hl,List.map_cons,oG,WJ hm]
  simp only
  rw[if_pos ⟨h.aI j hl,λc hc=>(of_decide_eq_true (nY c hc)).2⟩]
  have e:(if (m:Int)<(j:Int)+1 then jS (lG n (all.take (max j m))) all[j].changes else lG n (all.take (max j m)))=lG n (all.take (max (j+1) m)):=by
   split
   ·rw[show max j m=j by omega,show max (j+1) m=j+1 by omega,FF nY,List.take_succ_eq_append_getElem hl]
   ·rw[show max j m=m by omega,show max (j+1) m=m by omega]
  rw[e,show (j:Int)+1+1=((j+1:Nat):Int)+1 by omega]
  exact ih
theorem U_{n:Nat}:∀(k:Nat) (l:List gW),l.length=k->(∀t∈l,ji t=true)->(∀t∈l,∀c∈t.changes,kJ n c=true)->(∀C∈lG n l,sk C)
 | 0,l,hl,_,_=>by
  rw[List.eq_nil_of_length_eq_zero hl,Jn]
  intro C hC
  rw[List.eq_of_mem_replicate hC];exact Ut
 | k+1,l,hl,h1,h2=>by
  have jJ:l≠[]:=λe=>by rw[e]at hl;cases hl
  obtain⟨l',t,rfl⟩:∃l' t,l=l'++[t]:=⟨l.dropLast,l.getLast jJ,(List.dropLast_concat_getLast jJ).symm⟩
  have nY:=h2 t (by simp)
  rw[List.length_append,List.length_singleton]at hl
  rw[<- FF nY]
  exact F7 (k:=8) (U_ k l' (by omega) (λx hx=>h1 x (by simp[hx])) λx hx=>h2 x (by simp[hx])) (λc hc=>(nB (h1 t (by simp))).2.2.2.2.2.1 c hc) λc hc=>by rw[u6];exact nY c hc
theorem cFu{n:Nat}{l:List gW}(h1:∀t∈l,ji t=true)(h2:∀t∈l,∀c∈t.changes,kJ n c=true):∀C∈lG n l,sk C:=U_ l.length l rfl h1 h2
structure Laid(g:iq)(d:DS)(f n:Int)(es:List (List UInt8)):Prop where
 chain:lO f n g.bW
 oP:iY g.bW=es
 files:d.R=g.bW.map mG
 nil:g.bW=[]->f=g.base/\n=1
 base:g.base<=f
 b0:0<=g.base
 b1:g.base<=12288
 s0:64<=g.size
 s1:g.size<=65536
 n1:1<=n
 fi:f+es.length+2<=g.base+4096
 iw:g.iw=none
theorem tC.laid{g:iq}{d:DS}{f n:Int}{es:List (List UInt8)}(h:tC g d f n es):Laid g d f n es:=⟨h.chain,h.oP,h.files,h.nil,h.base,h.b0,h.b1,h.s0,h.s1,h.n1,h.fi,h.iw⟩
theorem Laid.inv{g:iq}{d:DS}{f n:Int}{es:List (List UInt8)}(h:Laid g d f n es)(ho:d.off=false):tC g d f n es:=⟨h.chain,h.oP,h.files,h.nil,h.base,h.b0,h.b1,h.s0,h.s1,h.n1,h.fi,ho,h.iw⟩
def Wx(n:Nat)(x:PF):Prop:=∀y,l7 x.b=some y->y.2.length≠n
structure v_(n:Nat)(all:List gW)(I:List PF)(kx:Int)(m:Nat):Prop where
 sorted:ky PF.id I
 ids:∀x∈I,x.id=0\/x.id=1
 safe:∀x∈I,x.safe=x.b.length
 none_:kx = -1->m=0
 new:kx = -1\/kx=0\/kx=1
 le:m<=all.length
 some_:kx≠-1->∃x∈I,x.id=kx/\x.b=ic (vL m (lG n (all.take m)))
 other:∀x∈I,x.id≠kx->Wx n x\/∃y,l7 x.b=some y/\y.1<m/\kx≠-1
theorem bw1{R:List PF}(hs:ky PF.id R){n:Nat}{f:Int}:lU R n f=none\/∃x∈R,x.id=f/\∃y,l7 x.b=some y/\y.2.length=n/\lU R n f=some y:=by
 unfold lU
 cases hg:iz PF.id R f with
 | none=>exact .inl rfl
 | some x=>
  have hx:=uJ hg
  simp only
  cases hd:l7 x.b with
  | none=>exact .inl rfl
  | some y=>
   simp only
   by_cases hl:y.2.length=n
   ·exact .inr ⟨x,hx.1,hx.2,y,hd,hl,by rw[if_pos hl]⟩
   ·exact .inl (if_neg hl)
theorem bw2{R:List PF}(hs:ky PF.id R){n:Nat}{x:PF}(hx:x∈R){y:Int × kC}(hd:l7 x.b=some y)(hl:y.2.length=n):lU R n x.id=some y:=by
 unfold lU
 rw[AJ hs hx]
 simp only[hd]
 rw[if_pos hl]
theorem v_.load{n:Nat}{all:List gW}{I:List PF}{kx:Int}{m:Nat}(h:v_ n all I kx m)(hm:∀j,j<=all.length->lD j (lG n (all.take j))=true):pR I n=(kx,(m:Int),lG n (all.take m)):=by
 have hn:kx≠-1->lU I n kx=some ((m:Int),lG n (all.take m)):=λjJ=>by
  obtain⟨x,hx,hf,hb⟩:=h.some_ jJ
  rw[<- hf]
  exact bw2 h.sorted hx (by rw[hb];exact XA (hm m h.le)) (u6 _ _)
 have ho:∀f,f≠kx->lU I n f=none\/∃y,lU I n f=some y/\y.1<m/\kx≠-1:=λf hf=>by
  rcases bw1 h.sorted (n:=n) (f:=f) with e|⟨x,hx,ET,y,h1,h2,h3⟩
  ·exact .inl e
  ·rcases h.other x hx (by rw[ET];exact hf) with hb|⟨z,hz,h4,h5⟩
   ·exact absurd h2 (hb y h1)
   ·rw[h1]at hz;cases hz
    exact .inr ⟨y,h3,h4,h5⟩
 unfold pR
 rcases h.new with e|e|e
 ·have Sh:=h.none_ e
  have o0:lU I n 0=none:=by
   rcases ho 0 (by rw[e];decide) with h1|⟨_,_,_,h1⟩
   ·exact h1
   ·exact absurd e h1
  have o1:lU I n 1=none:=by
   rcases ho 1 (by rw[e];decide) with h1|⟨_,_,_,h1⟩
   ·exact h1
   ·exact absurd e h1
  unfold jX
  rw[o0,o1,e,Sh]
  simp only[List.take_zero,Jn]
  rfl
 ·have hn:=hn (by rw[e];decide)
  rw[e]at hn
  have h0:jX I n 0 (-1,0,List.replicate n [])=(0,(m:Int),lG n (all.take m)):=by
   unfold jX;rw[hn];simp
  rw[h0,e]
  unfold jX
  rcases ho 1 (by rw[e];decide) with h1|⟨y,h1,h2,_⟩
  ·rw[h1]
  ·rw[h1]
   simp only
   rw[if_pos ⟨by decide,by omega⟩]
 ·have hn:=hn (by rw[e];decide)
  rw[e]at hn
  rcases ho 0 (by rw[e];decide) with h1|⟨y,h1,h2,_⟩
  ·have h0:jX I n 0 (-1,0,List.replicate n [])=(-1,0,List.replicate n []):=by unfold jX;rw[h1]
   rw[h0,e]
   unfold jX;rw[hn];simp
  ·have h0:jX I n 0 (-1,0,List.replicate n [])=(0,y.1,y.2):=by unfold jX;rw[h1];simp
   rw[h0,e]
   unfold jX;rw[hn]
   simp only
   rw[if_neg (by omega)]
def JM(n:Nat)(all:List gW):Prop:=∀j,j<=all.length->lD j (lG n (all.take j))=true
structure w_(n:Nat)(k:g_)(all:List gW)(tr:Nat)(I:List PF)(d0:DS)(f:Int)(lo m:Nat):Prop where
 PM:k.d=lh I [] d0
 cF:j2 16 4112 I [] d0.R
 log:Laid k.g d0 f ((lo:Int)+1) ((all.drop lo).map mv)
 base:k.g.base=16
 Ij:v_ n all I k.kx m
 image:k.image=m
 lom:lo<=m
 eF7:lo<=tr
 ts:k.ts=lG n all
 file:f<=16+lo
theorem v_.mono{n:Nat}{all:List gW}{I:List PF}{kx:Int}{m:Nat}(h:v_ n all I kx m)(l:List gW):v_ n (all++l) I kx m:=
 ⟨h.sorted,h.ids,h.safe,h.none_,h.new,by have:=h.le;rw[List.length_append];omega,λhn=>by rw[List.take_append_of_le_length h.le];exact h.some_ hn,h.other⟩
theorem bIp{I M:List PF}(hI:∀x∈I,x.id=0\/x.id=1)(hM:∀x∈M,16<=x.id)(n:Nat):pR (I++M++[]) n=pR I n:=by
 have hw:j2 0 16 [] M I:=⟨by simp,λx hx=>by rcases hI x hx with h|h<;>omega,hM⟩
 have hg:∀f:Int,0<=f->f<16->lU (I++M++[]) n f=lU I n f:=λf h0 h1=>by
  unfold lU
  have:=hw.get h0 h1
  rw[List.nil_append]at this
  rw[List.append_nil,this]
 unfold pR jX
 rw[hg 0 (by decide) (by decide),hg 1 (by decide) (by decide)]
theorem b90{n:Nat}{all:List gW}(h:DD n all){lo m:Nat}(h1:lo<=m)(h2:m<=all.length):oG n m ((all.drop lo).map mv) ((lo:Int)+1) (lG n (all.take m))=some (lG n all):=by
 have:=Ur h m (all.length-lo) lo (by omega)
 rw[show max lo m=m by omega,show max all.length m=all.length by omega,List.take_length]at this
 exact this
theorem bWk{n:Nat}(n1:1<=n)(n8:n<=8){all:List gW}(ht:DD n all)(hi:JM n all){I:List PF}{d1 d2:DS}{g:iq}{size:Int}(ho:kV d1 16 size=(d2,.ok g))(hw:j2 16 4112 I [] d1.R){f kx:Int}{lo m tr:Nat}
  (hl:tC g d2 f ((lo:Int)+1) ((all.drop lo).map mv)) (hb:g.base=16) (s_:v_ n all I kx m) (Sf:lo<=m) (iZ:lo<=tr) (hf:f<=16+lo) :
  sL (lh I [] d1) n size=(lh I [] d2,.ok ⟨g,lh I [] d2,lG n all,kx,m⟩)/\w_ n ⟨g,lh I [] d2,lG n all,kx,m⟩ all tr I d2 f lo m:=by
 obtain⟨e,A7⟩:=bWi (base:=16) (size:=size) (A:=I) (B:=[]) (d:=d1) hw
 rw[ho]at e A7
 have rV:pR (lh I [] d2).R n=(kx,(m:Int),lG n (all.take m)):=by
  show pR (I++d2.R++[]) n=_
  rw[bIp s_.ids λx hx=>(A7.m x hx).1]
  exact s_.load hi
 have tU:=s_.le
 have ra:=hl.head
 rw[List.length_map,List.length_drop]at ra
 have wI:jT g.bW=(lo:Int)+1:=by
  by_cases hs:g.bW=[]
  ·rw[hs]
   have:=(hl.nil hs).2
   show (1:Int)=_
   omega
  ·exact hl.chain.low hs
 refine⟨?_,⟨rfl,A7,hl.laid,hb,s_,rfl,Sf,iZ,rfl,hf⟩⟩
 unfold sL
 rw[if_neg (by omega),e]
 simp only[Int.toNat_natCast]
 rw[rV,hl.oP,wI]
 simp only
 rw[b90 ht Sf tU]
 simp only
 rw[if_pos ⟨by omega,by omega⟩]
theorem Laid.aFz{g:iq}{d:DS}{f n:Int}{es:List (List UInt8)}(h:Laid g d f n es)(hb:g.base=16):Ah 16 4112 g:=by
 have hle:=h.chain.E7
 rw[h.oP]at hle
 have vA:=h.fi
 have hba:=h.base
 refine⟨by omega,by omega,λs hs=>?_,λx hx=>by rw[h.iw]at hx;cases hx⟩
 have:=h.chain.Aw.mem (x:=mG s) (List.mem_map_of_mem hs)
 rw[List.length_map]at this
 have h1:(mG s).id=s.file:=rfl
 omega
theorem XU{t:gW}(h:ji t=true):(mv t).length<=2000:=Nat.le_trans (DQ h) (by decide)
theorem w_.head{n:Nat}{k:g_}{all:List gW}{tr:Nat}{I:List PF}{d0:DS}{f:Int}{lo m:Nat}(h:w_ n k all tr I d0 f lo m)(ho:k.d.off=false):c_ k.g.bW=all.length:=by
 have hl:=h.log.inv (by have:=h.PM;rw[this]at ho;exact ho)
 have hm:=h.Ij.le
 have:=h.lom
 rw[hl.head,List.length_map,List.length_drop];omega
theorem Il:∀(C:List Row) (c:Row) (i:Nat),i<=C.length->(∀j (h:j<C.length),j<i->C[j].key<c.key)->(∀h:i<C.length,c.key<=C[i].key) ->
  kE C c=C.take i++[c]++C.drop (if ∃h:i<C.length,C[i].key=c.key then i+1 else i)
 | [],c,i,hi,_,_=>by
  have:i=0:=by simpa using hi
  subst this;simp[kE]
 | x::C,c,0,_,_,h2=>by
  have hx:=h2 (by simp)
  simp only[List.getElem_cons_zero]at hx
  have:¬x.key<c.key:=by omega
  by_cases he:x.key=c.key
  ·simp[kE,he]
  ·simp[kE,this,he]
 | x::C,c,i+1,hi,h1,h2=>by
  have hx:x.key<c.key:=h1 0 (by simp) (by omega)
  have ih:=Il C c i (by simpa using hi) (λj h hj=>by have:=h1 (j+1) (by simpa using h) (by omega);simpa using this) (λh=>by have:=h2 (by simpa using h);simpa using this)
  simp only[kE,hx,if_true,ih,List.length_cons,List.getElem_cons_succ,Nat.add_lt_add_iff_right]
  split<;>simp
theorem Gy:∀(C:List Row) (k:Int) (i:Nat) (h:i<C.length),(∀j (h:j<C.length),j<i->C[j].key≠k)->C[i].key=k->mj C k=C.take i++C.drop (i+1)
 | x::C,k,0,_,_,h2=>by simp at h2;simp[mj,h2]
 | x::C,k,i+1,h,h1,h2=>by
  have hx:x.key≠k:=h1 0 (by simp) (by omega)
  have ih:=Gy C k i (by simpa using h) (λj h hj=>by have:=h1 (j+1) (by simpa using h) (by omega);simpa using this) (by simpa using h2)
  simp[mj,hx,ih]
theorem Gz:∀(C:List Row) (k:Int),(∀j (h:j<C.length),C[j].key≠k)->mj C k=C
 | [],k,_=>rfl
 | x::C,k,h=>by
  have hx:x.key≠k:=h 0 (by simp)
  simp[mj,hx,Gz C k (λj hj=>by have:=h (j+1) (by simpa using hj);simpa using this)]
theorem qT(H:bw)(v:Value)(C:List Row)(key:Int)(hC:fW H 2 v C.length (C.map iu).flatten)(hn:C.length<=1000000):
  SP 168 [v,.int .i64 key] [.mem H] (λr post=>∃(u:Value) (b:Bool) (H':bw),H.le H'/\r= .tuple #[u,.bool b]/\fW H' 2 u (mj C key).length ((mj C key).map iu).flatten/\post=[.mem H']):=by
 intro W F w hS;apply cWj;delta K0 aF a_ ai dw;(try simp only[app]at hS)
 refine⟨λus w=>∃i:Nat,us=[.int .i64 i]/\i<=C.length/\(∀j (h:j<C.length),j<i->C[j].key≠key)/\SL W (.mem H::F) w,λus _=>match us with|[.int _ i]=>(C.length-i).toNat|_=>0,⟨0,rfl,by omega,λj h hj=>by omega,hS⟩,?_⟩
 clear hS
 rintro v6 w ⟨i,dR,hi,jJ,hS⟩
 cases dR
 refine zn hC ?_
 refine b9 (λh=>?_) (λh=>?_)
 ·have b8:i<C.length:=by omega
  refine zA hS Xh jG hC (x:=C[i]) (by simp[b8]) b8 (i:=0) rfl ?_
  refine b9 (λhe=>?_) (λhe=>?_)
  ·refine yK hS ?_
   clear hS;intro w hS
   refine qi hC hi (λv23 jA=>?_)
   rw[sA jG]at jA
   refine Gp ?_
   refine Qm hC (k:=i+1) (by omega) (λv28 B6=>?_)
   rw[rN jG]at B6
   refine zD hS (cells:=[]) rfl ?_
   clear hS;intro b1 w hS
   have hS:=bI.full (n:=0) (sz:=2) rfl hS
   refine zy (n:=0) (m:=i) hS Xr (o_ hS Xh jA) (by rw[l8 jG,List.length_take];omega) rfl (pD xo _) (by omega) (by omega) ?_
   clear hS;intro u1 w hS
   refine zy (n:=0+i) (m:=C.length-(i+1)) hS Xr (o_ hS Xh B6) (by rw[l8 jG,List.length_drop]) rfl (pD xo _) (by omega) (by omega) ?_
   clear hS;intro u2 w hS
   have hd:=Gy C key i b8 jJ he
   have hl:(mj C key).length=0+i+(C.length-(i+1)):=by rw[hd];simp only[List.length_append,List.length_take,List.length_drop];omega
   have hf:[]++((C.take i).map iu).flatten++((C.drop (i+1)).map iu).flatten=((mj C key).map iu).flatten:=by rw[hd];simp
   rw[hf,<- hl]at hS
   obtain⟨H2,f',hR,hS⟩:=zu (H:=H) (v:=u2) hS Xp
   exact⟨_,⟨u2,true,H2,f',rfl,hR,rfl⟩,aR hS⟩
  ·refine Gp ?_
   refine⟨⟨i+1,rfl,by omega,λj h hj=>?_,hS⟩,by dsimp only;omega⟩
   rcases Nat.lt_or_ge j i with ll|ll
   ·exact jJ j h ll
   ·obtain rfl:j=i:=by omega
    exact he
 ·have hd:=Gz C key (λj hj=>jJ j hj (by omega))
  rw[hd]
  exact⟨_,⟨v,false,H,bw.le_refl H,rfl,hC,rfl⟩,hS⟩
theorem qU(H:bw)(v:Value)(C:List Row)(key:Int)(val:ByteArray)(hC:fW H 2 v C.length (C.map iu).flatten)(hn:C.length<=1000000):
  SP 169 [v,.int .i64 key,.string val] [.mem H] (λr post=>∃(u:Value) (b:Bool) (H':bw),H.le H'/\r= .tuple #[u,.bool b]/\fW H' 2 u (kE C ⟨key,val⟩).length ((kE C ⟨key,val⟩).map iu).flatten/\post=[.mem H']):=by
 intro W F w hS;apply cWk;delta K1 aF a_ ai dw;(try simp only[app]at hS)
 refine⟨λus w=>∃i:Nat,us=[.int .i64 i]/\i<=C.length/\(∀j (h:j<C.length),j<i->C[j].key<key)/\(∀h:i<C.length,key<=C[i].key)/\SL W (.mem H::F) w,?_,?_⟩
 ·refine⟨λus w=>∃i:Nat,us=[.int .i64 i]/\i<=C.length/\(∀j (h:j<C.length),j<i->C[j].key<key)/\SL W (.mem H::F) w,λus _=>match us with|[.int _ i]=>(C.length-i).toNat|_=>0,⟨0,rfl,by omega,λj h hj=>by omega,hS⟩,?_⟩
  clear hS
  rintro v8 w ⟨i,dR,hi,iZ,hS⟩
  cases dR
  refine zn hC ?_
  refine Gp ?_
  refine za (λh=>?_) (λh=>⟨i,rfl,hi,iZ,λh=>by omega,hS⟩)
  have b8:i<C.length:=by omega
  refine zA hS Xh jG hC (x:=C[i]) (by simp[b8]) b8 (i:=0) rfl ?_
  refine Gp ?_
  refine za (λhe=>?_) (λhe=>⟨i,rfl,hi,iZ,λh=>by omega,hS⟩)
  refine Gp ?_
  refine⟨⟨i+1,rfl,by omega,λj h hj=>?_,hS⟩,by dsimp only;omega⟩
  rcases Nat.lt_or_ge j i with ll|ll
  ·exact iZ j h ll
  ·obtain rfl:j=i:=by omega
   exact he
 ·clear hS
  rintro v8 w ⟨i,dR,hi,iZ,wG,hS⟩
  cases dR
  have AU:=Il C ⟨key,val⟩ i hi iZ wG
  refine zD hS (cells:=[]) rfl ?_
  clear hS;intro b1 w hS
  have hS:=bI.full (n:=0) (sz:=2) rfl hS
  refine qi hC hi (λv28 B6=>?_)
  rw[sA jG]at B6
  refine zy (n:=0) (m:=i) hS Xr (o_ hS Xh B6) (by rw[l8 jG,List.length_take];omega) rfl (pD xo _) (by omega) (by omega) ?_
  clear hS;intro u1 w hS
  refine Gm λb w hS=>?_
  refine zy (n:=0+i) (m:=1) hS Xr (lX (cs:=iu ⟨key,val⟩) hS .hd rfl) rfl rfl (xo _) (by omega) (by omega) ?_
  clear hS;intro u2 w hS
  refine zn hC ?_
  refine Gp ?_
  have kX:∀(j:Nat) (v':Value) (b:Bool) (w:World),j<=C.length->kE C ⟨key,val⟩=C.take i++[⟨key,val⟩]++C.drop j->fW H 2 v' (C.length-j) ((C.drop j).map iu).flatten ->
    SL W (.ob (bI u2 52 2 (0+i+1) ([]++((C.take i).map iu).flatten++iu ⟨key,val⟩))::.mem H::F) w ->
    zr 2 24 [.int .i64 0,.string ⟨#[]⟩] 52 u2 v' w λFJ Jz=>∃post,(∃(u:Value) (b':Bool) (H':bw),H.le H'/\(.tuple #[FJ,.bool b]:Value)= .tuple #[u,.bool b']/\fW H' 2 u (kE C ⟨key,val⟩).length ((kE C ⟨key,val⟩).map iu).flatten/\post=[.mem H'])/\SL W (app post F) Jz:=by
   intro j v' b w hj hI oW hS
   refine zy (n:=0+i+1) (m:=C.length-j) hS Xr (o_ hS Xh oW) (by rw[l8 jG,List.length_drop]) rfl (pD xo _) (by omega) (by omega) ?_
   clear hS;intro u3 w hS
   have hl:(kE C ⟨key,val⟩).length=0+i+1+(C.length-j):=by rw[hI];simp only[List.length_append,List.length_take,List.length_drop,List.length_singleton];omega
   have hf:[]++((C.take i).map iu).flatten++iu ⟨key,val⟩++((C.drop j).map iu).flatten=((kE C ⟨key,val⟩).map iu).flatten:=by rw[hI];simp
   rw[hf,<- hl]at hS
   obtain⟨H2,f',hR,hS⟩:=zu (H:=H) (v:=u3) hS Xp
   exact⟨_,⟨u3,b,H2,f',rfl,hR,rfl⟩,aR hS⟩
  refine za (λh=>?_) (λh=>?_)
  ·have b8:i<C.length:=by omega
   refine zA hS Xh jG hC (x:=C[i]) (by simp[b8]) b8 (i:=0) rfl ?_
   refine b9 (λhe=>?_) (λhe=>?_)
   ·rw[if_pos ⟨b8,he⟩]at AU
    refine Gp ?_
    refine Qm hC (k:=i+1) (by omega) (λv53 wA=>?_)
    rw[rN jG]at wA
    exact kX (i+1) v53 false w (by omega) AU wA (aR hS)
   ·rw[if_neg (λx=>he x.2)]at AU
    refine Qm hC (k:=i) (by omega) (λv53 wA=>?_)
    rw[rN jG]at wA
    exact kX i v53 true w (by omega) AU wA (aR hS)
  ·rw[if_neg (λx=>by obtain⟨h9,_⟩:=x;omega)]at AU
   refine Qm hC (k:=i) (by omega) (λv53 wA=>?_)
   rw[rN jG]at wA
   exact kX i v53 true w (by omega) AU wA (aR hS)
def mT(H:bw)(vs:List Value)(ts:List (List Row)):Prop:=vs.length=ts.length/\∀(i:Nat) (v:Value) (C:List Row),vs[i]?=some v->ts[i]?=some C->fW H 2 v C.length (C.map iu).flatten
theorem mT.mono{H H':bw}{vs:List Value}{ts:List (List Row)}(hh:H.le H')(h:mT H vs ts):mT H' vs ts:=⟨h.1,λi v C h1 h2=>(h.2 i v C h1 h2).mono hh⟩
theorem mT.set{H:bw}{vs:List Value}{ts:List (List Row)}(h:mT H vs ts){t:Nat}{v:Value}{C:List Row}(hv:fW H 2 v C.length (C.map iu).flatten):mT H (vs.set t v) (ts.set t C):=by
 refine⟨by simpa using h.1,λi v' C' h1 h2=>?_⟩
 rw[List.getElem?_set]at h1 h2
 split at h1
 ·split at h1
  ·cases h1;rename_i e hl;simp only[e,if_true]at h2;split at h2
   ·cases h2;exact hv
   ·cases h2
  ·cases h1
 ·rename_i e;simp only[e,if_false]at h2;exact h.2 i v' C' h1 h2
def w9(H:bw)(r:Nat)(ts:List (List Row)):zE:=nr λx:Nat × List Value=>zU (mT H x.2 ts/\ts.length<=8)
 [.pt r [.slice (some ⟨x.1,0,none⟩) ts.length ts.length] 157,.pt x.1 x.2 53]
theorem w9.iff{W w:World}{H:bw}{r:Nat}{ts:List (List Row)}{l:List Chunk}:SL W (.ob (w9 H r ts)::l) w↔∃(bv:Nat) (vs:List Value),(mT H vs ts/\ts.length<=8) /\
  SL W (.pt r [.slice (some ⟨bv,0,none⟩) ts.length ts.length] 157::.pt bv vs 53::l) w:=by
 unfold w9
 simp only[SL.ex,SL.fact,List.cons_append,List.nil_append]
 constructor
 ·rintro ⟨⟨bv,vs⟩,h1,h2⟩;exact⟨bv,vs,h1,h2⟩
 ·rintro ⟨bv,vs,h1,h2⟩;exact⟨⟨bv,vs⟩,h1,h2⟩
theorem bRr(H:bw)(n:Nat)(h1:1<=n)(h2:n<=8):SP 75 [.int .i64 n] [] (λv post=>∃r:Nat,v= .pointer (some ⟨r,0,none⟩)/\post=[.ob (w9 H r (List.replicate n []))]):=by
 intro W F w hS;apply dR8;delta Oh aF ai gw bR;(try simp only[app]at hS)
 refine Gp ?_
 refine za (λh=>by omega) (λ_=>?_)
 refine Gp ?_
 refine za (λh=>by omega) (λ_=>?_)
 refine I8 hS (by omega) (by omega) (by omega) ?_
 clear hS;intro bv w hS
 refine Gp ?_
 refine⟨_,rfl,zI hS ?_⟩
 clear hS;intro r w hS
 have hz:cW [.slice none 0 0] n=List.replicate n (.slice none 0 0:Value):=by simp[cW]
 rw[hz]at hS
 have hS:SL W (.ob (w9 H r (List.replicate n []))::F) w:=w9.iff.2 ⟨bv,List.replicate n (.slice none 0 0),⟨⟨by simp,λi v C h1 h2=>by
  rw[List.getElem?_replicate]at h1 h2
  split at h1
  ·cases h1;split at h2
   all_goals first|(cases h2;exact fW.nil H 2)|(cases h2)
  ·cases h1⟩,by simpa using h2⟩,by rw[List.length_replicate];exact hS⟩
 exact⟨_,⟨r,rfl,rfl⟩,hS⟩
structure AtR(C:List Row)(key:Int)(i:Nat):Prop where
 le:i<=C.length
 lo:∀j (h:j<C.length),j<i->C[j].key<key
 hi:∀h:i<C.length,key<=C[i].key
def n_(C:List Row)(key:Int)(i:Nat):Bool:=decide (∃h:i<C.length,C[i].key=key)
theorem AtR.gt{C:List Row}{key:Int}{i:Nat}(h:AtR C key i)(hs:kB C):∀j (hj:j<C.length),i<j->key<C[j].key:=λj hj vC=>by
 have h1:=h.hi (by omega)
 have:=List.pairwise_iff_getElem.1 hs i j (by omega) hj vC
 omega
theorem AtR.up{C:List Row}{key:Int}{i:Nat}(h:AtR C key i)(hs:kB C)(hn:n_ C key i=false):∀j (hj:j<C.length),i<=j->key<C[j].key:=λj hj vC=>by
 rcases Nat.lt_or_ge i j with h1|h1
 ·exact h.gt hs j hj h1
 ·obtain rfl:j=i:=by omega
  have h1:=h.hi hj
  have h2:¬C[j].key=key:=λe=>of_decide_eq_false hn ⟨hj,e⟩
  omega
theorem AtR.ins{C:List Row}{key:Int}{i:Nat}(h:AtR C key i)(v:ByteArray):kE C ⟨key,v⟩=if n_ C key i=true then C.set i ⟨key,v⟩ else C.take i++[⟨key,v⟩]++C.drop i:=by
 rw[Il C ⟨key,v⟩ i h.le h.lo h.hi]
 by_cases hk:∃h:i<C.length,C[i].key=key
 ·rw[if_pos hk,if_pos (show n_ C key i=true from decide_eq_true hk)]
  rw[List.set_eq_take_append_cons_drop,if_pos hk.1];simp
 ·rw[if_neg hk,if_neg (by simpa [n_] using hk)]
theorem AtR.del{C:List Row}{key:Int}{i:Nat}(h:AtR C key i)(hs:kB C):mj C key=if n_ C key i=true then C.take i++C.drop (i+1) else C:=by
 cases hk:n_ C key i with
 | true=>
  obtain⟨hi,e⟩:=of_decide_eq_true hk
  rw[if_pos rfl]
  exact Gy C key i hi (λj hj ll=>by have:=h.lo j hj ll;omega) e
 | false=>
  rw[if_neg (by decide)]
  refine Gz C key λj hj=>?_
  rcases Nat.lt_or_ge j i with h1|h1
  ·have:=h.lo j hj h1;omega
  ·have:=h.up hs hk j hj h1;omega
theorem AtR.get{C:List Row}{key:Int}{i:Nat}(h:AtR C key i)(hs:kB C):(jV C key).isSome=n_ C key i/\∀hi:i<C.length,C[i].key=key->jV C key=some C[i].val:=by
 have h2:∀hi:i<C.length,C[i].key=key->jV C key=some C[i].val:=λhi e=>by
  unfold jV
  have:C.find? (λc=>decide (c.key=key))=some C[i]:=by
   rw[List.find?_eq_some_iff_getElem]
   refine⟨by simpa using e,i,hi,rfl,λj hj=>?_⟩
   have:=h.lo j (by omega) hj
   simp;omega
  rw[this];rfl
 refine⟨?_,h2⟩
 cases hk:n_ C key i with
 | true=>
  obtain⟨hi,e⟩:=of_decide_eq_true hk
  rw[h2 hi e];rfl
 | false=>
  unfold jV
  have:C.find? (λc=>decide (c.key=key))=none:=by
   rw[List.find?_eq_none]
   intro x hx
   obtain⟨j,hj,rfl⟩:=List.getElem_of_mem hx
   rcases Nat.lt_or_ge j i with h1|h1
   ·have:=h.lo j hj h1;simp;omega
   ·have:=h.up hs hk j hj h1;simp;omega
  rw[this];rfl
theorem GP:∀(C:List Row) (key:Int) (k:Nat),(∀j (h:j<C.length),j<k->C[j].key<=key)->(∀j (h:j<C.length),k<=j->key<C[j].key)->C.filter (λr=>decide (key<r.key))=C.drop k
 | [],key,k,_,_=>by simp
 | x::C,key,0,_,h2=>by
  rw[List.drop_zero,List.filter_eq_self]
  intro y hy
  obtain⟨j,hj,rfl⟩:=List.getElem_of_mem hy
  exact decide_eq_true (h2 j hj (Nat.zero_le _))
 | x::C,key,k+1,h1,h2=>by
  have hx:x.key<=key:=h1 0 (by simp) (by omega)
  rw[List.filter_cons,if_neg (by simp;omega),List.drop_succ_cons]
  exact GP C key k (λj h hj=>by have:=h1 (j+1) (by simpa using h) (by omega);simpa using this) (λj h hj=>by have:=h2 (j+1) (by simpa using h) (by omega);simpa using this)
theorem AtR.after{C:List Row}{key:Int}{i:Nat}(h:AtR C key i)(hs:kB C)(n:Int):oy C key n=(C.drop (if n_ C key i=true then i+1 else i)).take n.toNat:=by
 unfold oy
 cases hk:n_ C key i with
 | true=>
  obtain⟨hi,e⟩:=of_decide_eq_true hk
  rw[if_pos rfl,GP C key (i+1) (λj hj ll=>?_) (λj hj ll=>h.gt hs j hj (by omega))]
  rcases Nat.lt_or_ge j i with h1|h1
  ·have:=h.lo j hj h1;omega
  ·obtain rfl:j=i:=by omega
   omega
 | false=>
  rw[if_neg (by decide),GP C key i (λj hj ll=>by have:=h.lo j hj ll;omega) (λj hj ll=>h.up hs hk j hj ll)]
def pS(C:List Row)(l:List Row):List Row:=l.foldl kE C
theorem S2:∀(C:List Row) (r:Row),(∀x∈C,x.key<r.key)->kE C r=C++[r]
 | [],r,_=>rfl
 | x::C,r,h=>by
  unfold kE
  rw[if_pos (h x (.head _)),S2 C r λy hy=>h y (.tail _ hy)];rfl
theorem Uf:∀(l C:List Row),kB (C++l)->pS C l=C++l
 | [],C,_=>by simp[pS]
 | r::l,C,h=>by
  have h1:kE C r=C++[r]:=S2 C r λx hx=>(List.pairwise_append.1 h).2.2 x hx r (.head _)
  show pS (kE C r) l=_
  rw[h1,Uf l (C++[r]) (by simpa using h)];simp
theorem b8j{l:List Row}(h:kB l):pS [] l=l:=Uf l [] h
theorem Ue:∀(l:List Row) {C:List Row},kB C->kB (pS C l)
 | [],C,h=>h
 | r::l,C,h=>Ue l (C:=kE C r) (Jb h r)
theorem Ud:∀(l:List Row) (C:List Row),(pS C l).length<=C.length+l.length
 | [],C=>by simp[pS]
 | r::l,C=>by
  have h1:=Ud l (kE C r)
  have h2:=Iq C r
  show (pS (kE C r) l).length<=_
  rw[List.length_cons];omega
theorem b8k{l:List Row}{i:Nat}(h:i<l.length)(C:List Row):pS C (l.take (i+1))=kE (pS C (l.take i)) l[i]:=by
 unfold pS
 rw[List.take_succ_eq_append_getElem h,List.foldl_append];rfl
end Go.Proofs.YtfenmffiidchcaaGreat
