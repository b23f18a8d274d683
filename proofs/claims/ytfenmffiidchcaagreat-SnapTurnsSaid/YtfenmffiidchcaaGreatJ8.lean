/-
  Texts of the proof, joined: Lib3, LawS, FldS3, SegS, SegS2, R01S, R01S2, BatchE, ItemR, BatchD, BatchR, TxnM, ImgM, WalM, WalP, SrcM, WinM, WalP2, WalP3, WalP4, WalM2, FrameM, SrcP, WalP5, SrcI, SrcK, SrcT, RefFS, IdxM.
-/
import Derived.Test.YtfenmffiidchcaaGreatJ7
import Derived.ProofKit
import Derived.OpenShut
import Derived.SizedLaws
import Derived.Deep.Slices
import Derived.JoinedCond
import Derived.Test.YtfenmffiidchcaaGreatQVcM
import Derived.Test.YtfenmffiidchcaaGreatQVcF
namespace Go.Proofs.YtfenmffiidchcaaGreat
set_option linter.unusedVariables false
open Go.RowKit Go.ChangeShapes Go.WideShapes Go.ChangeAt
def wI:gm Unit:=.plain 0 (λ_=>[]) (λ_=>rfl) (λ_ u hu=>by cases hu)
def kq{α β:Type}(S:gm α)(T:gm β):gm (α × β) where
 n:=S.n+T.n
 rd:=λw M x cs=>∃c1 c2,cs=c1++c2/\S.rd w M x.1 c1/\T.rd w M x.2 c2
 len:=λ⟨c1,c2,h,h1,h2⟩=>by rw[h,List.length_append,S.len h1,T.len h2]
 one:=λ⟨c1,c2,h,h1,h2⟩ u hu=>by
  subst h
  rcases List.mem_append.1 hu with hu|hu
  ·exact S.one h1 u hu
  ·exact T.one h2 u hu
 jY:=λ⟨c1,c2,h,h1,h2⟩ hf hM=>⟨c1,c2,h,S.jY h1 hf hM,T.jY h2 hf hM⟩
def gm.via{α β:Type}(T:gm α)(f:β->α):gm β where
 n:=T.n
 rd:=λw M y cs=>T.rd w M (f y) cs
 len:=λh=>T.len h
 one:=λh=>T.one h
 jY:=λh=>T.jY h
def Small{H:Type}(P:Program)(t:TypeId)(d:DataW H):Prop:=(d.weights P t).all (·<=reachBytes)=true
def lT{α:Type}(P:Program)(t:TypeId)(T:gm α)(ok:α->Prop):Prop:=
 P.cellsOf t=T.n/\∀{H:Type} (enc:TypeId × Value->H) (w:World) (sp:Nat->Bool) (hd:Bool) (fuel:Nat) (cs:List Value) (x:DataW H × List MemPlace),
  DataW.trod enc P w 0 sp hd fuel t cs=some x->Small P t x.1->∃a,T.rd w jn a cs/\ok a
def se(k:IntKind)(n:Int):Prop:=(Lit.int k n).wf=true
theorem Ps{n:Int}(h:se .i64 n): -9223372036854775808<=n/\n<=9223372036854775807:=by
 simpa [se,Lit.wf,IntKind.min,IntKind.max,IntKind.signed,IntKind.bits] using h
theorem b9e{n:Int}(h:se .u8 n):0<=n/\n<=255:=by
 simpa [se,Lit.wf,IntKind.min,IntKind.max,IntKind.signed,IntKind.bits] using h
theorem tm{P:Program}{t:TypeId}{k:IntKind}(ht:P.underlying t=some (.int k))(hc:P.cellsOf t=1):lT P t (nR k) (se k):=
 ⟨hc,λenc w sp hd fuel cs x h _=>by
  obtain⟨n,rfl,rfl,hw⟩:=DataW.trod_int ht h
  exact⟨n,rfl,hw⟩⟩
theorem ZZ{P:Program}{t:TypeId}(ht:P.underlying t=some .bool)(hc:P.cellsOf t=1):lT P t G7 (λ_=>True):=
 ⟨hc,λenc w sp hd fuel cs x h _=>by
  obtain⟨n,rfl,rfl⟩:=DataW.trod_bool ht h
  exact⟨n,rfl,trivial⟩⟩
def Rv(s:ByteArray):Prop:=s.size<=140737488351232
theorem Zy{P:Program}{t:TypeId}(ht:P.underlying t=some .string)(hc:P.cellsOf t=1):lT P t wH Rv:=
 ⟨hc,λenc w sp hd fuel cs x h hs=>by
  obtain⟨n,rfl,rfl,hw⟩:=DataW.trod_string ht h
  refine⟨n,rfl,?_⟩
  simp[Small,DataW.weights,reachBytes]at hs
  exact (of_decide_eq_true hs:n.size<=140737488351232)⟩
def aw7{α:Type}(b:Nat)(ok:α->Prop)(xs:List α):Prop:=xs.length*b<=140737488351232/\∀x∈xs,ok x
theorem S'{H:Type}{P:Program}{e:TypeId}{n:Nat}:∀{l:List (DataW H)},(DataW.weightsAll P e l).all (·<=n)=true->∀d∈l,(d.weights P e).all (·<=n)=true
 | [],_,_,h=>by cases h
 | x::r,h,d,hd=>by
  simp only[DataW.weightsAll,List.all_append,Bool.and_eq_true]at h
  rcases List.mem_cons.1 hd with rfl|hd
  ·exact h.1
  ·exact S' h.2 d hd
theorem Mo{α:Type}{p:Nat->α->Prop}:∀(n:Nat),(∀i,i<n->∃y,p i y)->∃ys:List α,ys.length=n/\∀i (h:i<ys.length),p i ys[i]
 | 0,_=>⟨[],rfl,λi h=>by simp at h⟩
 | n+1,h=>by
  obtain⟨ys,hl,hy⟩:=Mo n (λi hi=>h i (by omega))
  obtain⟨y,XJ⟩:=h n (by omega)
  refine⟨ys++[y],by simp[hl],λi hi=>?_⟩
  by_cases dZ:i<ys.length
  ·rw[List.getElem_append_left dZ];exact hy i dZ
  ·have:i=n:=by simp at hi;omega
   subst this
   rw[List.getElem_append_right (by omega)]
   simpa [hl] using XJ
theorem RD{α:Type}{P:Program}{t e:TypeId}{T:gm α}{ok:α->Prop}{b:Nat}(h:lT P e T ok)(ht:P.underlying t=some (.slice e))(hc:P.cellsOf t=1)(hb:P.bytesOf e=b)(uI:0<T.n):lT P t (wG T) (aw7 b ok):=by
 refine⟨hc,λenc w sp hd fuel cs x hx hs=>?_⟩
 rcases Go.Deep.open_slice ht hx with ⟨rfl,rfl⟩|⟨a,len,cap,m,n,D,Pl,rfl,_,hl,hm,OS,rfl,mz⟩
 ·exact⟨[],⟨_,rfl,iq.nil T w jn⟩,by simp,λx hx=>by cases hx⟩
 ·have hle:len<=m:=by rw[OS];split<;>omega
  simp only[Small,DataW.weights,ht,hb,List.all_cons,List.all_append,Bool.and_eq_true,decide_eq_true_eq,List.length_map,List.length_range]at hs
  have Wn:∀i,i<len->∃y:α,ok y/\∃ny,T.rd w jn y ny/\At w jn a.block (a.off+i*T.n) ny/\a=⟨a.block,a.off,none⟩:=λi hi=>by
   obtain⟨ny,h1,h2⟩:=mz i (by omega)
   obtain⟨y,hy,b5⟩:=h.2 enc w sp hd n ny _ h2 (S' hs.2.1 _ (List.mem_map.2 ⟨i,by simpa using hi,rfl⟩))
   obtain⟨_,hlen,ix⟩:=World.cells?_some h1
   have pq:a.spot=none:=by
    have h0:=ix 0 (by rw[h.1];exact uI)
    rw[List.getElem?_eq_getElem (by rw[hlen,h.1];exact uI)]at h0
    cases pq:a.spot with
    | none=>rfl
    | some q=>
     exfalso
     by_cases vP:i*P.cellsOf e=0
     ·simp[Addr.add,vP,World.cell?,pq]at h0
      split at h0<;>cases h0
     ·have Eu:=mz 0 (by omega)
      obtain⟨cs0,oe,_⟩:=Eu
      obtain⟨_,Fa,Wa⟩:=World.cells?_some oe
      have BE:=Wa 0 (by rw[h.1];exact uI)
      rw[List.getElem?_eq_getElem (by rw[Fa,h.1];exact uI)]at BE
      simp[Addr.add,World.cell?,pq]at BE
      split at BE<;>cases BE
   obtain⟨ab,ao,asp⟩:=a
   simp only at pq
   subst pq
   refine⟨y,b5,ny,hy,⟨λ_ x=>x,λj u hu=>?_⟩,rfl⟩
   have hj:=(List.getElem?_eq_some_iff.1 hu).1
   have:=ix j (by omega)
   rw[Addr.add_lit,Addr.add_lit,hu,h.1]at this
   exact this
  obtain⟨ys,px,hy⟩:=Mo len Wn
  subst px
  refine⟨ys,⟨_,rfl,some a,cap,rfl,hl,λi hi=>?_⟩,?_,λx hx=>?_⟩
  ·obtain⟨_,ny,h1,h2,h3⟩:=hy i hi
   exact⟨a.block,a.off,ny,congrArg some h3,h1,h2⟩
  ·have:=hs.1
   simp only[reachBytes]at this
   rw[Nat.add_mul]at this
   omega
  ·obtain⟨i,hi,rfl⟩:=List.getElem_of_mem hx
   exact (hy i hi).1
def A1{α:Type}(P:Program)(fs:List Field)(o:Nat)(T:gm α)(ok:α->Prop):Prop:=
 ∀{H:Type} (enc:TypeId × Value->H) (w:World) (sp:Nat->Bool) (hd:Bool) (n:Nat) (cs:List Value) (xs:List (DataW H × List MemPlace)),xs.length=fs.length ->
  (∀(i:Nat) (f:Field),fs[i]?=some f->DataW.trod enc P w 0 sp hd n f.type ((cs.drop f.offset).take (P.cellsOf f.type))=xs[i]?) ->
  (DataW.weightsEach P (fs.map (·.type)) (xs.map (·.1))).all (·<=reachBytes)=true->cs.length=o+T.n->∃a,T.rd w jn a (cs.drop o)/\ok a
theorem Ee(P:Program)(o:Nat):A1 P [] o wI (λ_=>True):=λenc w sp hd n cs xs _ _ _ hl=>⟨(),by
 show cs.drop o=[]
 rw[List.drop_eq_nil_iff];have:wI.n=0:=rfl;omega,trivial⟩
theorem mO{α β:Type}{P:Program}{f:Field}{fs:List Field}{o:Nat}{S:gm α}{T:gm β}{Rt:α->Prop}{Ru:β->Prop}(h1:lT P f.type S Rt)(ho:f.offset=o)(h2:A1 P fs (o+S.n) T Ru):
  A1 P (f::fs) o (kq S T) (λx=>Rt x.1/\Ru x.2):=λenc w sp hd n cs xs hl hx hs hc=>by
 match xs,hl with
 | y::ys,hl=>
  have Oo:(kq S T).n=S.n+T.n:=rfl
  simp only[List.map_cons,DataW.weightsEach,List.all_append,Bool.and_eq_true]at hs
  have e0:=hx 0 f rfl
  rw[ho,h1.1]at e0
  obtain⟨a,ha,W8⟩:=h1.2 enc w sp hd n _ y e0 hs.1
  obtain⟨b,hb,W9⟩:=h2 enc w sp hd n cs ys (by simpa using hl) (λi g hg=>by simpa using hx (i+1) g (by simpa using hg)) hs.2 (by omega)
  refine⟨(a,b),⟨_,_,?_,ha,hb⟩,W8,W9⟩
  rw[<- List.drop_drop]
  exact (List.take_append_drop _ _).symm
theorem yM{α:Type}{P:Program}{t:TypeId}{fs:Array Field}{T:gm α}{ok:α->Prop}(ht:P.underlying t=some (.struct fs))(hc:P.cellsOf t=T.n)(h:A1 P fs.toList 0 T ok):lT P t T ok:=
 ⟨hc,λenc w sp hd fuel cs x hx hs=>by
  obtain⟨xs,n,_,rfl,hl,hlen,hf⟩:=DataW.trod_struct ht hx
  simp only[Small,DataW.weights,ht]at hs
  obtain⟨a,ha,b5⟩:=h enc w sp hd n cs xs (by simpa using hlen) (λi f hi=>hf i f (by simpa using hi)) hs (by omega)
  exact⟨a,by simpa using ha,b5⟩⟩
theorem Zz{α β:Type}{P:Program}{t:TypeId}{T:gm α}{ok:α->Prop}(f:β->α)(g:α->β)(hg:∀a,f (g a)=a)(h:lT P t T ok):lT P t (T.via f) (λb=>ok (f b)):=
 ⟨h.1,λenc w sp hd fuel cs x hx hs=>by
  obtain⟨a,ha,b5⟩:=h.2 enc w sp hd fuel cs x hx hs
  exact⟨g a,by show T.rd w jn (f (g a)) cs;rw[hg];exact ha,by show ok (f (g a));rw[hg];exact b5⟩⟩
theorem Z0{α:Type}{P:Program}{t:TypeId}{T:gm α}{ok Rs:α->Prop}(h:lT P t T ok)(hi:∀a,ok a->Rs a):lT P t T Rs:=
 ⟨h.1,λenc w sp hd fuel cs x hx hs=>let ⟨a,ha,b5⟩:=h.2 enc w sp hd fuel cs x hx hs;⟨a,ha,hi a b5⟩⟩
def b7e(P:Program)(f:FuncId)(args:Array Value)(w:World):Prop:=Calls P f args w λe w'=>e= .returned (.bool true)/\Fr jn w w'
theorem SX{H:Type}{enc:TypeId × Value->H}{P:Program}(hl:laidOutB P=true){W W':World}(hb:Below W.heap.size W W'):∀{ts:List TypeId} {vs:List Value} {ds:List (DataW H)} {ps:List MemPlace},
  (∀t∈ts,P.readableRec t=true/\t<P.types.size)->DataW.TrodAll enc P W 0 (λ_=>true) true ts vs ds ps->(∀x∈ps,x.block<W.heap.size)->DataW.TrodAll enc P W' 0 (λb=>decide (b<W.heap.size)) true ts vs ds ps
 | [],_,_,_,_,h,_=>by
  obtain⟨rfl,rfl,rfl⟩:=trodAll_nil h
  exact trodAll_mk0
 | t::ts,_,_,_,hr,h,dZ=>by
  obtain⟨v,vs1,d,U5,a,b,rfl,rfl,rfl,h1,h2⟩:=trodAll_cons h
  exact⟨a,b,Below.trod hl (hr t (by simp)).1 (hr t (by simp)).2 h1 hb (λx hx=>dZ x (by simp[hx])),SX hl hb (λt ht=>hr t (by simp[ht])) h2 (λx hx=>dZ x (by simp[hx])),rfl⟩
theorem b9j{H:Type}{enc:TypeId × Value->H}{P:Program}{f:Func}{s:ChangeSpec}{tb:TypeId}(hl:laidOutB P=true)(hr:∀t∈f.params.toList,P.readableRec t=true/\t<P.types.size)
  (O':s.vars=[]) (Xj:f.resultTypes = #[tb]) (hb:P.underlying tb=some .bool) (Wz:∀ds:List (DataW H),ds.length=f.params.size->(s.fn H ds).results=[.lit (.bool true)]/\(s.fn H ds).args=ds/\(s.fn H ds).vars=[])
  {W W':World} {args:Array Value} {ds gs:List (DataW H)} {before:List MemPlace} (hW:DataW.Whole enc P f.params.toList s.vars false W args.toList ds gs before) (Oe:Below W.heap.size W W') :
  s.post enc P f false true false false W args (.bool true) W':=by
 have dZ:=hW.lt
 have BJ:=hW
 obtain⟨p,q,hA,hV,rfl,hfz,_⟩:=hW
 rw[O']at hV
 obtain⟨rfl,rfl⟩:=trodVars_none hV
 have hlen:∀{ts:List TypeId} {vs:List Value} {ds:List (DataW H)} {ps:List MemPlace} {w:World} {base:Nat} {sp:Nat->Bool} {hd:Bool},DataW.TrodAll enc P w base sp hd ts vs ds ps->ds.length=ts.length:=by
  intro ts
  induction ts with
  | nil=>intro vs ds ps w base sp hd h;obtain⟨rfl,rfl,rfl⟩:=trodAll_nil h;rfl
  | cons t ts ih=>intro vs ds ps w base sp hd h;obtain⟨v,vs1,d,U5,a,b,rfl,rfl,rfl,_,h2⟩:=trodAll_cons h;simp[ih h2]
 obtain⟨e1,e2,e3⟩:=Wz ds (by simpa using hlen hA)
 refine⟨ds,[],p++[],[],p,[],BJ,?_,?_,?_,Oe.frame _,λh=>by cases h⟩
 ·rw[List.append_nil,e1,Xj]
  exact trodAll_mk1 (shut_bool hb true)
 ·rw[List.append_nil,e2]
  exact SX hl Oe hr hA (λx hx=>dZ x (by simp[hx]))
 ·rw[List.append_nil,e3,O']
  rfl
def PC:Option TypeDesc->Bool
 | some .bool|some (.int _)|some .string|some (.slice _)=>true
 | _=>false
theorem Vz{P:Program}{w:World}{r:Reach}{b0:Nat}{t:TypeId}{v:Value}(hf:PC (P.underlying t)=true)(lM:Value.okWide P w r b0 t v):v.cells.toList=[v]:=by
 unfold Value.okWide at lM
 cases hu:P.underlying t with
 | none=>rw[hu]at hf;cases hf
 | some d=>
  rw[hu]at hf lM
  cases d<;>first|(cases hf;done)|(unfold Cell.okWide Cell.ok at lM;rw[hu]at lM;cases v<;>first|rfl|(exfalso;simp_all))
theorem b7l{α:Type}{P:Program}{t:TypeId}{T:gm α}{ok:α->Prop}{H:Type}{enc:TypeId × Value->H}{W:World}{r:Reach}{b0:Nat}{v:Value}{d:DataW H}{ps:List MemPlace}{sp:Nat->Bool}{hd:Bool}
  (h:lT P t T ok) (hf:PC (P.underlying t)=true) (lM:Value.okWide P W r b0 t v) (h0:DataW.Trod enc P W 0 sp hd t v d ps) (hs:Small P t d):∃a,T.rd W jn a [v]/\ok a:=by
 obtain⟨fuel,hx⟩:=h0
 rw[Vz hf lM]at hx
 exact h.2 enc W sp hd fuel [v] _ hx hs
theorem b7k{α:Type}{P:Program}{t:TypeId}{fs:Array Field}{T:gm α}{ok:α->Prop}{H:Type}{enc:TypeId × Value->H}{W:World}{r:Reach}{b0:Nat}{v:Value}{d:DataW H}{ps:List MemPlace}{sp:Nat->Bool}{hd:Bool}
  (h:lT P t T ok) (ht:P.underlying t=some (.struct fs)) (lM:Value.okWide P W r b0 t v) (h0:DataW.Trod enc P W 0 sp hd t v d ps) (hs:Small P t d):∃a cs,v= .agg cs/\T.rd W jn a cs.toList/\ok a:=by
 obtain⟨fuel,hx⟩:=h0
 unfold Value.okWide at lM
 rw[ht]at lM
 obtain⟨cs,rfl,_⟩:=lM
 obtain⟨a,h1,h2⟩:=h.2 enc W sp hd fuel _ _ hx hs
 exact⟨a,cs,rfl,h1,h2⟩
open Go.RowKit
def Dc(P:Program)(f:FuncId)(args:List Value)(w:World):Prop:=zU P f args w λv w'=>v= .bool true/\Below w.heap.size w w'
theorem Y5{P:Program}{f:FuncId}{args:List Value}{w:World}(h:Spec P f args [.mem (aW.of w)] λv post=>v= .bool true/\∃H l,(aW.of w).le H/\post= .mem H::l):Dc P f args w:=by
 refine (h w [] w (SL.init w)).mono ?_
 rintro v w' ⟨post,⟨rfl,H,l,hH,rfl⟩,hS⟩
 exact⟨rfl,hS.below (.hd) hH⟩
theorem Dc.calls{P:Program}{f:FuncId}{args:List Value}{w:World}(h:Dc P f args w):Calls P f args.toArray w λe w'=>e= .returned (.bool true)/\Below w.heap.size w w':=
 Calls.mono h λe w' ⟨v,he,hv,hb⟩=>⟨by rw[he,hv],hb⟩
theorem iq.flat{α:Type}{T:gm α}{enc:α->List Value}{w:World}{xs:List α}{v:Value}(h:iq T w jn xs v)(he:∀{M x cs},T.rd w M x cs->cs=enc x)(hn:∀x,(enc x).length=T.n):
  dy (aW.of w) T.n v xs.length (xs.map enc).flatten:=by
 obtain⟨a,cap,rfl,hc,hx⟩:=h.out
 have hlen:(xs.map enc).flatten.length=xs.length*T.n:=by
  rw[Em (n:=T.n) _ (λx hx=>by obtain⟨y,_,rfl⟩:=List.mem_map.1 hx;exact hn y),List.length_map]
 refine⟨hlen,a,cap,rfl,hc,?_⟩
 rcases Nat.eq_zero_or_pos xs.length with h0|h0
 ·exact .inl h0
 ·right
  obtain⟨b,off,_,rfl,_,_⟩:=hx 0 h0
  refine⟨b,off,rfl,λj u hu=>?_⟩
  have hj:=(List.getElem?_eq_some_iff.1 hu).1
  rcases Nat.eq_zero_or_pos T.n with hz|hz
  ·rw[hlen,hz]at hj;omega
  have hi:j / T.n<xs.length:=by rw[hlen]at hj;exact (Nat.div_lt_iff_lt_mul hz).2 hj
  obtain⟨b',CB,cs,oq,hr,fD⟩:=hx (j / T.n) hi
  simp at oq
  obtain⟨rfl,rfl⟩:=oq
  have lH:=he hr
  subst lH
  have uC:j % T.n<(enc xs[j / T.n]).length:=by rw[hn];exact Nat.mod_lt _ hz
  have hg:=xl (n:=T.n) (xs.map enc) (λx hx=>by obtain⟨y,_,rfl⟩:=List.mem_map.1 hx;exact hn y) (j / T.n) (j % T.n) (by simpa using hi) ((enc xs[j / T.n])[j % T.n]'uC) (by simp[List.getElem?_eq_getElem uC])
  have EW:j / T.n*T.n+j % T.n=j:=by rw[Nat.mul_comm];exact Nat.div_add_mod j T.n
  rw[EW]at hg
  rw[hu]at hg
  have An:u=(enc xs[j / T.n])[j % T.n]:=Option.some.inj hg
  have:=fD.2 (j % T.n) u (by rw[An];exact List.getElem?_eq_getElem uC)
  rw[show off+j / T.n*T.n+j % T.n=off+j by omega]at this
  unfold World.cell? at this
  unfold aW.cell aW.of
  simp only at this ⊢
  split at this
  ·rename_i c t f nD;rw[nD];simpa using this
  ·cases this
theorem ud{α:Type}{enc:α->List Value}{n:Nat}{xs:List α}(hn:∀x,(enc x).length=n){j i:Nat}(hj:j<xs.length){u:Value}(hu:(enc xs[j])[i]?=some u):((xs.map enc).flatten)[j*n+i]?=some u:=
 xl (n:=n) (xs.map enc) (λx hx=>by obtain⟨y,_,rfl⟩:=List.mem_map.1 hx;exact hn y) j i (by simpa using hj) u (by simpa using hu)
set_option maxRecDepth 100000
structure mI(X:Chunk)(sz:Nat)(v:Value)(n:Nat)(cs:List Value):Prop where
 sl:∀{W w:World} {l:List Chunk},SL W l w->Has X l->∃a c,v= .slice a n c/\n<=c
 src:∀{W w:World} {l:List Chunk},SL W l w->Has X l->jy w sz v n cs
theorem mI.own{v:Value}{t:TypeId}{sz n:Nat}{cs:List Value}:mI (.ob (a7 v t sz n cs)) sz v n cs:=
 ⟨λh m=>by
  obtain⟨l2,r⟩:=m.rem
  rcases a7.open (h.perm r.perm) with ⟨⟨a',rfl⟩,rfl,_,_⟩|⟨b',pM,rest,rfl,hc,_⟩
  ·exact⟨a',0,rfl,Nat.le_refl _⟩
  ·exact⟨_,_,rfl,hc⟩,λh m=>nc h m⟩
theorem mI.pt{p n sz:Nat}{t:TypeId}{cs:List Value}(h:cs.length=n*sz):mI (.pt p cs t) sz (.slice (some ⟨p,0,none⟩) n n) n cs:=
 ⟨λ_ _=>⟨_,_,rfl,Nat.le_refl _⟩,λhS m=>iP hS m h⟩
section
variable {W w:World} {l:List Chunk} {X:Chunk} {v:Value} {sz n:Nat} {cs:List Value}
theorem ZD{K:Value->Prop}(hS:SL W l w)(m:Has X l)(hb:mI X sz v n cs)(k:K (.int .i64 n)):zd v K:=by
 obtain⟨a,c,rfl,_⟩:=hb.sl hS m
 exact yk k
theorem qr{α:Type}{enc:α->List Value}{xs:List α}{j:Nat}{kk:IntKind}{K:Value->Prop}(hS:SL W l w)(m:Has X l)(hb:mI X sz v n (xs.map enc).flatten)(he:∀x,(enc x).length=sz)(kH:0<sz)(hx:xs.length=n)(hj:j<n)
  (hK:K (.agg (enc (xs[j]'(by omega))).toArray)):zh sz v (.int kk (j:Int)) λp=>zj sz p w K:=by
 obtain⟨a,c,rfl,hc⟩:=hb.sl hS m
 have hs:=hb.src hS m
 have hlen:(xs.map enc).flatten.length=n*sz:=by
  rw[<- hx];clear hx hs hb hK hj hc
  induction xs with
  | nil=>simp
  | cons x xs ih=>simp[he,ih,Nat.add_mul];omega
 cases a with
 | none=>
  have e:(xs.map enc).flatten=[]:=hs.2
  have e2:(enc (xs[j]'(by omega))).length=0:=by
   rw[e]at hlen
   simp only[List.length_nil]at hlen
   rw[he]
   rcases Nat.eq_zero_or_pos sz with h|h
   ·exact h
   ·have:0<n*sz:=Nat.mul_pos (by omega) h
    omega
  rw[he]at e2;omega
 | some p=>
  refine⟨p,_,c,kk,j,rfl,rfl,hj,?_⟩
  refine⟨_,enc (xs[j]'(by omega)),rfl,he _,λi u hu=>?_,hK⟩
  rw[Dv]
  refine hs.2.2 (j*sz+i) u ?_
  exact ud he (by omega) hu
end
def nm(X:Chunk)(l:List dH)(u:Value)(post:List Chunk):Prop:=match lC l with
 | .error e=>u= .tuple #[.slice none 0 0,.int .i64 e]/\post=[X]
 | .ok b=>∃v,u= .tuple #[v,.int .i64 0]/\post=[.ob (a7 v 5 1 b.length (b.map cI)),X]
theorem nm.er{X:Chunk}{l:List dH}{e:Int}(h:lC l= .error e):nm X l (.tuple #[.slice none 0 0,.int .i64 e]) [X]:=by
 unfold nm;rw[h];exact⟨rfl,rfl⟩
theorem nm.ok{X:Chunk}{l:List dH}{b:List UInt8}(h:lC l= .ok b)(v:Value):nm X l (.tuple #[v,.int .i64 0]) [.ob (a7 v 5 1 b.length (b.map cI)),X]:=by
 unfold nm;rw[h];exact⟨v,rfl,rfl⟩
theorem U_{x:dH}(h:jM x=true):(eT x).length<=5000:=by
 unfold eT
 unfold jM at h
 by_cases h1:x.kind=1
 ·rw[if_pos h1];simp[i_]
 ·rw[if_neg h1]at h ⊢
  by_cases h2:x.kind=2
  ·rw[if_pos h2]at h
   have h3:x.s.size<=4096:=by
    rw[Bool.and_eq_true]at h
    exact of_decide_eq_true h.2
   have:x.s.data.toList.length=x.s.size:=rfl
   simp only[List.length_cons,List.length_append,i_];omega
  ·rw[if_neg h2]at h;cases h
theorem D':∀{l:List dH},l.all jM=true->(l.map eT).flatten.length<=l.length*5000
 | [],_=>by simp
 | x::l,h=>by
  rw[List.all_cons,Bool.and_eq_true]at h
  have h1:=U_ h.1
  have h2:=D' h.2
  simp only[List.map_cons,List.flatten_cons,List.length_append,List.length_cons];omega
theorem ZG(X:Chunk)(v:Value)(xs:List dH)(hx:mI X 3 v xs.length (xs.map ep).flatten)(hN:xs.length<=140737488355328):SP 228 [v] [X] (nm X xs):=by
 intro W F w hS;apply bI8;delta Jx aF a_ cF dc ai c_ bF;(try simp only[app]at hS)
 refine ZD hS .hd hx ?_
 refine bR (λh=>?_) (λh=>?_)
 ·exact⟨_,.er (by unfold lC;rw[if_pos (by omega)]),hS⟩
 ·refine ZD hS .hd hx ?_
  refine zM ?_
  rw[wrap_u64 (by omega) (by omega)]
  have hS:=a7.nil (t:=5) (sz:=1) hS
  have hS:SL W (.ob (a7 (.slice none 0 0) 5 1 ([]:List UInt8).length (([]:List UInt8).map cI))::X::F) w:=hS
  refine Cc (Zw [] (.slice none 0 0) xs.length 2 (by omega) (by simp)) ?_;clear hS
  rintro tG post rfl w hS;(try simp only[app]at hS)
  rw[List.nil_append]at hS
  refine ZD hS Xh hx ?_
  have hb:∀i,i<=xs.length->(xs.take i).all jM=true->(dS xs.length 2++((xs.take i).map eT).flatten).length<=200000000:=λi hi ha=>by
   have:=D' ha
   rw[List.length_append,i_]
   rw[List.length_take]at this
   omega
  refine⟨λvs w=>∃(i:Nat) (u:Value),i<=xs.length/\vs=[u,.int .i64 i]/\(xs.take i).all jM=true/\SL W (.ob (a7 u 5 1 (dS xs.length 2++((xs.take i).map eT).flatten).length ((dS xs.length 2++((xs.take i).map eT).flatten).map cI))::X::F) w,λvs _=>match vs with
   | [_,.int _ i]=>xs.length-i.toNat
   | _=>0,⟨0,tG,by omega,rfl,rfl,(by simpa using hS)⟩,?_⟩
  clear hS
  rintro u1 u2 w1 ⟨i,u,hi,hv,ha,hS⟩
  cases hv
  have V7:=hb i hi ha
  refine bR (λh=>?_) (λh=>?_)
  ·have hi:i<xs.length:=by omega
   refine qr hS Xh hx mu (by omega) rfl hi ?_
   have pw:xs[i]∈xs:=List.getElem_mem hi
   have ra:xs.take (i+1)=xs.take i++[xs[i]]:=by rw[List.take_add_one];simp[hi]
   generalize xs[i]=x at *
   unfold ep
   refine Gm λb w hS=>?_
   refine Cc (qh x) ?_;clear hS
   rintro v post ⟨rfl,rfl⟩ w hS;(try simp only[app]at hS)
   refine zO ?_
   cases hr:jM x with
   | false=>
    refine zw ?_
    refine⟨[X],.er ?_,aR hS⟩
    unfold lC
    rw[if_neg (by omega),if_neg]
    intro h
    have:=List.all_eq_true.1 h x pw
    rw[hr]at this;cases this
   | true=>
    refine zq ?_
    have uk:(xs.take (i+1)).all jM=true:=by rw[ra,List.all_append,ha];simp[hr]
    have kW:=hb (i+1) (by omega) uk
    have lI:((xs.take (i+1)).map eT).flatten=((xs.take i).map eT).flatten++eT x:=by rw[ra];simp
    rw[lI]at kW
    rw[List.length_append,List.length_append]at kW
    have hk:x.kind=1\/x.kind=2:=by
     unfold jM at hr
     by_cases h1:x.kind=1
     ·exact .inl h1
     ·rw[if_neg h1]at hr
      by_cases h2:x.kind=2
      ·exact .inr h2
      ·rw[if_neg h2]at hr;cases hr
    generalize hc:dS xs.length 2++((xs.take i).map eT).flatten=c at *
    have gj:c.length+(eT x).length<=200000000:=by rw[<- hc,List.length_append];omega
    refine Gp ?_
    refine zM ?_
    rw[wrap_u8]
    refine zy (cells:=[cI (fy x.kind)]) hS rfl ?_
    clear hS;intro p w hS
    refine zx (m:=1) (cs:=[cI (fy x.kind)]) hS Xr (iP hS .hd rfl) rfl rfl (by intro v hv;simp only[List.mem_singleton]at hv;subst hv;rfl) (by omega) (by omega) ?_
    clear hS;intro u' w hS
    refine Gp ?_
    have hS:SL W (.ob (a7 u' 5 1 (c++[fy x.kind]).length ((c++[fy x.kind]).map cI))::.pt b [.int .i64 x.kind,.int .i64 x.n,.string x.s] 174::X::F) w:=by
     simp only[List.length_append,List.length_cons,List.length_nil,List.map_append,List.map_cons,List.map_nil]
     exact aR hS
    refine za (λh1=>?_) (λh1=>?_)
    ·refine Gp ?_
     refine zM ?_
     have eu:IntKind.u64.wrap x.n=nh x.n:=rfl
     rw[eu]
     refine Cc (Zw (c++[fy x.kind]) u' (nh x.n) 8 (by omega) (by simp;omega)) ?_;clear hS
     rintro v36 post rfl w hS;(try simp only[app]at hS);refine Gp ?_
     refine⟨⟨i+1,v36,by omega,rfl,uk,?_⟩,?_⟩
     ·have e:dS xs.length 2++((xs.take (i+1)).map eT).flatten=c++[fy x.kind]++dS (nh x.n) 8:=by
       rw[lI,<- List.append_assoc,hc]
       have:eT x=fy x.kind::dS (nh x.n) 8:=by unfold eT;rw[if_pos h1]
       rw[this];simp
      rw[e]
      exact aR hS
     ·simp only[Int.toNat_natCast];omega
    ·have kH:x.s.size<=4096:=by
      unfold jM at hr
      rw[if_neg h1,if_pos (by omega),Bool.and_eq_true]at hr
      exact of_decide_eq_true hr.2
     have xL:eT x=fy x.kind::(dS x.s.size 2++x.s.data.toList):=by unfold eT;rw[if_neg h1]
     refine Gn λw hS=>?_
     refine zM ?_
     rw[wrap_u64 (by omega) (by omega)]
     refine Gp ?_
     refine Cc (Zw (c++[fy x.kind]) u' x.s.size 2 (by omega) (by simp;omega)) ?_;clear hS
     rintro v42 post rfl w hS;(try simp only[app]at hS);refine Gp ?_
     have B9:x.s.data.toList.length=x.s.size:=rfl
     have mz:(eT x).length=1+(2+x.s.size):=by rw[xL];simp only[List.length_cons,List.length_append,i_];omega
     refine zx (m:=x.s.size) (cs:=x.s.data.toList.map cI) hS Xr SA (by simp) rfl (j3 _) (by simp only[List.length_append,List.length_cons,List.length_nil,i_];omega) (by simp only[List.length_append,List.length_cons,List.length_nil,i_];omega) ?_
     clear hS;intro v45 w hS
     refine Gp ?_
     refine⟨⟨i+1,v45,by omega,rfl,uk,?_⟩,?_⟩
     ·have e:dS xs.length 2++((xs.take (i+1)).map eT).flatten=(c++[fy x.kind]++dS x.s.size 2)++x.s.data.toList:=by
       rw[lI,<- List.append_assoc,hc,xL];simp
      rw[e]
      generalize c++[fy x.kind]++dS x.s.size 2=A at *
      rw[List.length_append,List.map_append,B9]
      exact aR hS
     ·simp only[Int.toNat_natCast];omega
  ·obtain rfl:i=xs.length:=by omega
   rw[List.take_length]at hS ha
   exact⟨_,.ok (by unfold lC;rw[if_neg (by omega),if_pos ha]) u1,hS⟩
abbrev kO:=Value × List UInt8
def eV(x:kO):zC:=a7 x.1 5 1 x.2.length (x.2.map cI)
def eO(es:List kO):List Value:=es.map Prod.fst
def j5(es:List kO):List (List UInt8):=es.map Prod.snd
def HG(X:Chunk)(q:List UInt8)(r:Value)(post:List Chunk):Prop:=∃(u:Value) (es:List kO),j5 es=(ic q).1/\r= .tuple #[u,.int .i64 ((ic q).2:Nat)]/\post=[.ob (a7 u 62 1 es.length (eO es)),.ob (zf eV es),X]
theorem Q7(X:Chunk)(v:Value)(q:List UInt8)(hq:dN X v q)(hN:q.length<=10000000000):SP 279 [v] [X] (HG X q):=by
 intro W F w hS;apply bR6;delta J7 aF ai bF;(try simp only[app]at hS)
 have hS:=a7.nil (t:=62) (sz:=1) (zf.nil (A:=eV) hS)
 refine⟨λvs w=>∃(u:Value) (es:List kO) (at_:Nat),vs=[u,.int .i64 at_]/\at_<=q.length/\es.length*8<=at_/\j5 es++(ic (q.drop at_)).1=(ic q).1/\at_+(ic (q.drop at_)).2=(ic q).2 /\
   SL W (.ob (a7 u 62 1 es.length (eO es))::.ob (zf eV es)::X::F) w,λvs _=>match vs with
  | [_,.int _ i]=>q.length-i.toNat
  | _=>0,⟨_,[],0,rfl,Nat.zero_le _,Nat.le_refl _,rfl,by simp,hS⟩,?_⟩
 clear hS
 rintro u1 u2 w1 ⟨u,es,i,hv,hi,h8,h1,h2,hS⟩
 cases hv
 refine YR hS Xh hq hi ?_
 intro lu eh
 refine Cc (Yy X lu (q.drop i) eh (by rw[List.length_drop];omega)) ?_;clear hS
 intro tG post hQ w hS
 unfold nX at hQ
 cases ht:gN (q.drop i) with
 | error e=>
  rw[ht]at hQ
  obtain⟨rfl,rfl⟩:=hQ
  (try simp only[app]at hS);refine Gp ?_
  have he:=CX ht
  rw[AN ht]at h1 h2
  refine za (λ_=>?_) (λh=>by omega)
  refine⟨_,⟨u1,es,by simpa using h1,?_,rfl⟩,aR hS⟩
  rw[<- h2];rfl
 | ok x=>
  obtain⟨p,n⟩:=x
  rw[ht]at hQ
  obtain⟨y,rfl,rfl⟩:=hQ
  (try simp only[app]at hS);refine Gp ?_
  have hl:=u0 ht
  rw[CN ht]at h1 h2
  rw[List.length_drop]at hl
  refine za (λh=>absurd rfl h) (λ_=>?_)
  have iN:=hS.kL .hd
  obtain⟨ay,cy,ey,_⟩:=a7.at hS .hd
  subst ey
  refine zy (cells:=[.slice ay p.length cy]) hS rfl ?_
  clear hS;intro b w hS
  refine zx (m:=1) (cs:=[.slice ay p.length cy]) hS Xr (iP hS .hd rfl) rfl rfl (by intro v hv;simp only[List.mem_singleton]at hv;subst hv;rfl) (by omega) (by omega) ?_
  clear hS;intro u' w hS
  have hS:=zf.snoc (A:=eV) (xs:=es) (x:=(.slice ay p.length cy,p)) (SL.b6 hS (t:=.ob (zf eV es)::.ob (a7 (.slice ay p.length cy) 5 1 p.length (p.map cI))::.ob (a7 u' 62 1 (es.length+1) (eO es++[.slice ay p.length cy]))::X::F) Xi)
  refine yd (a:=i) (b:=n) (by omega) ?_
  refine⟨⟨u',es++[(.slice ay p.length cy,p)],i+n,rfl,by omega,by simp;omega,?_,?_,?_⟩,?_⟩
  ·rw[<- h1,<- List.drop_drop];simp[j5]
  ·rw[<- h2,<- List.drop_drop];simp only;omega
  ·rw[show (es++[((Value.slice ay p.length cy,p):kO)]).length=es.length+1 by simp,show eO (es++[((Value.slice ay p.length cy,p):kO)])=eO es++[.slice ay p.length cy] by simp[eO]]
   exact aR hS
  ·simp only[Int.toNat_natCast];omega
theorem MZ{n:Nat}(h:n<=1099511627776):lC [⟨1,n,⟨#[]⟩⟩]= .ok (fw n):=by
 have e:nh (n:Int)=(n:Int):=by unfold nh;omega
 unfold lC
 rw[if_neg (by simp),if_pos (by simp[jM])]
 show Except.ok (dS ((1:Nat):Int) 2++(eT ⟨1,n,⟨#[]⟩⟩++[]))=_
 unfold eT
 rw[if_pos rfl,e]
 show Except.ok ([fy ((1:Int).fdiv (2 ^ (8*1))),fy ((1:Int).fdiv (2 ^ (8*0)))]++(fy 1::dS n 8++[]))=_
 rw[List.append_nil]
 rfl
def vh(n:Int)(r:Value)(post:List Chunk):Prop:=if n<1\/1099511627776<n then r= .tuple #[.slice none 0 0,.int .i64 1]/\post=[] else ∃u,r= .tuple #[u,.int .i64 0]/\post=[.ob (a7 u 5 1 (dG (fw n.toNat)).length ((dG (fw n.toNat)).map cI))]
theorem YS(n:Int):SP 328 [.int .i64 n] [] (vh n):=by
 intro W F w hS;apply bW7;delta KC aF ai c_ bF;(try simp only[app]at hS)
 unfold vh
 refine bR (λh=>?_) (λh=>?_)
 ·exact⟨[],by rw[if_pos (.inl h)];exact⟨rfl,rfl⟩,hS⟩
 ·refine bR (λh2=>?_) (λh2=>?_)
  ·exact⟨[],by rw[if_pos (.inr h2)];exact⟨rfl,rfl⟩,hS⟩
  ·obtain⟨k,rfl⟩:=Int.eq_ofNat_of_zero_le (show 0<=n by omega)
   have hx:=MZ (n:=k) (by omega)
   refine yr (cells:=ep ⟨1,k,⟨#[]⟩⟩) rfl ?_
   refine zy (cells:=ep ⟨1,k,⟨#[]⟩⟩) hS rfl ?_
   clear hS;intro p w hS
   refine Cc (ZG (.pt p (ep ⟨1,k,⟨#[]⟩⟩) 174) _ [⟨1,k,⟨#[]⟩⟩] (mI.pt rfl) (by simp)) ?_;clear hS
   intro v post hQ w hS
   unfold nm at hQ
   rw[hx]at hQ
   obtain⟨u,rfl,rfl⟩:=hQ
   (try simp only[app]at hS);refine Gp ?_
   refine za (λh=>absurd rfl h) (λ_=>?_)
   refine Cc (qc (.ob (a7 u 5 1 (fw k).length ((fw k).map cI))) u (fw k) dN.own (by rw[rR];omega)) ?_;clear hS
   intro v post hQ w hS
   unfold nq at hQ
   rw[if_neg (by rw[rR];omega)]at hQ
   obtain⟨y,rfl,rfl⟩:=hQ
   (try simp only[app]at hS);refine Gp ?_
   refine⟨[.ob (a7 y 5 1 (dG (fw k)).length ((dG (fw k)).map cI))],?_,aR hS⟩
   rw[if_neg (by omega)]
   exact⟨y,rfl,rfl⟩
abbrev HF(rp:Nat)(lv:Value)(n f:Int)(es:List kO):List Chunk:=[.pt rp [lv,.int .i64 n,.int .i64 f] 371,.ob (a7 lv 62 1 es.length (eO es)),.ob (zf eV es)]
def xH(es:List kO):Option Int:=match es with
 | []=>none
 | e::_=>l6 e.2
theorem Ya(rp:Nat)(lv:Value)(n f:Int)(es:List kO):SP 280 [.pointer (some ⟨rp,0,none⟩)] (HF rp lv n f es) (dj (.bool (xH es).isSome) (HF rp lv n ((xH es).getD f) es)):=by
 intro W F w hS;apply bR8;delta J9 aF a_ dx df b7 ai;(try simp only[app]at hS)
 refine Gp ?_
 refine zr hS (t:=62) (sz:=1) (n:=es.length) (cells:=eO es) Xh ?_
 refine bR (λh=>?_) (λh=>?_)
 ·have:es=[]:=List.eq_nil_of_length_eq_zero (by omega)
  subst this
  exact⟨_,⟨rfl,rfl⟩,hS⟩
 ·obtain⟨e,es,rfl⟩:∃e t_,es=e::t_:=by
   cases es with
   | nil=>simp at h
   | cons e t_=>exact⟨e,t_,rfl⟩
  refine Gp ?_
  refine z7 (j:=0) hS (t:=62) (n:=(e::es).length) (cells:=eO (e::es)) Xh (by simp) (u:=e.1) rfl ?_
  have hS:=zf.take (t:=0) (x:=e) (SL.b6 hS (t:=.ob (zf eV (e::es))::.pt rp [lv,.int .i64 n,.int .i64 f] 371::.ob (a7 lv 62 1 (e::es).length (eO (e::es)))::F) Xi) rfl
  have jg:∀{w:World} {k:Int},SL W (.ob (eV e)::.ob (zf eV ((e::es).eraseIdx 0))::.pt rp [lv,.int .i64 n,.int .i64 k] 371::.ob (a7 lv 62 1 (e::es).length (eO (e::es)))::F) w ->
    SL W (.pt rp [lv,.int .i64 n,.int .i64 k] 371::.ob (a7 lv 62 1 (e::es).length (eO (e::es)))::.ob (zf eV (e::es))::F) w:=λ{w k} h=>by
   have h2:SL W (.ob (zf eV (e::es))::.pt rp [lv,.int .i64 n,.int .i64 k] 371::.ob (a7 lv 62 1 (e::es).length (eO (e::es)))::F) w:=zf.put h (by simp)
   exact SL.b6 h2 Xi
  have hR:dN (.ob (eV e)) e.1 e.2:=dN.own
  refine Cc (yT (.ob (eV e)) e.1 e.2 hR) ?_;clear hS
  intro v post hQ w hS
  unfold nk at hQ
  have hh:xH (e::es)=l6 e.2:=rfl
  rw[hh]
  unfold l6
  cases hd:h_ e.2 with
  | error k=>
   rw[hd]at hQ
   obtain⟨rfl,rfl⟩:=hQ
   (try simp only[app]at hS);refine Gp ?_
   have hk:k≠0:=by
    intro hk
    rw[xc]at hd
    split at hd
    ·cases hd
    ·rename_i h0
     cases hd;exact h0 hk
   refine za (λ_=>?_) (λh=>absurd hk h)
   exact⟨_,⟨rfl,rfl⟩,jg hS⟩
  | ok l=>
   rw[hd]at hQ
   obtain⟨y,rfl,rfl⟩:=hQ
   (try simp only[app]at hS);refine Gp ?_
   refine za (λh=>absurd rfl h) (λ_=>?_)
   refine zr hS (t:=174) (sz:=3) (n:=l.length) (cells:=(l.map ep).flatten) Xh ?_
   refine bR (λh1=>?_) (λh1=>?_)
   ·have:vO l=none:=by
     match l,h1 with
     | [],_=>rfl
     | [x],h1=>simp at h1
     | _::_::_,_=>rfl
    simp only[this]
    exact⟨_,⟨rfl,rfl⟩,jg (k:=f) (aR hS)⟩
   ·obtain⟨x,rfl⟩:∃x,l=[x]:=List.length_eq_one_iff.1 (by omega)
    have hx:vO [x]=if x.kind=1/\1<=x.n/\x.n<=1099511627776 then some x.n else none:=rfl
    simp only[hx]
    refine zD (j:=0) (i:=0) (x:=x) (xs:=[x]) hS (t:=174) (sz:=3) (n:=1) Xh mu rfl (by omega) (u:=.int .i64 x.kind) rfl ?_
    refine bR (λh2=>?_) (λh2=>?_)
    ·rw[if_neg (by omega)]
     exact⟨_,⟨rfl,rfl⟩,jg (k:=f) (aR hS)⟩
    ·refine zD (j:=0) (i:=1) (x:=x) (xs:=[x]) hS (t:=174) (sz:=3) (n:=1) Xh mu rfl (by omega) (u:=.int .i64 x.n) rfl ?_
     refine bR (λh3=>?_) (λh3=>?_)
     ·rw[if_neg (by omega)]
      exact⟨_,⟨rfl,rfl⟩,jg (k:=f) (aR hS)⟩
     ·refine zD (j:=0) (i:=1) (x:=x) (xs:=[x]) hS (t:=174) (sz:=3) (n:=1) Xh mu rfl (by omega) (u:=.int .i64 x.n) rfl ?_
      refine bR (λh4=>?_) (λh4=>?_)
      ·rw[if_neg (by omega)]
       exact⟨_,⟨rfl,rfl⟩,jg (k:=f) (aR hS)⟩
      ·rw[if_pos ⟨by omega,by omega,by omega⟩]
       refine zD (j:=0) (i:=1) (x:=x) (xs:=[x]) hS (t:=174) (sz:=3) (n:=1) Xh mu rfl (by omega) (u:=.int .i64 x.n) rfl ?_
       refine Gn λw hS=>?_
       exact⟨_,⟨rfl,rfl⟩,jg (k:=x.n) (aR hS)⟩
def rB(X:Chunk)(q:List UInt8)(r:Value)(post:List Chunk):Prop:=match fp q with
 | none=>r= .tuple #[.int .i64 0,.slice none 0 0,.int .i64 0,.int .i64 3]/\post=[X]
 | some (f,l,n)=>∃(u:Value) (es:List kO),j5 es=l/\r= .tuple #[.int .i64 f,u,.int .i64 (n:Nat),.int .i64 0]/\post=[.ob (dC u 62 1 es.length (eO es)),.ob (zf eV es),X]
def CF(es:List kO)(n:Nat):Option (Int × List (List UInt8) × Nat):=match es with
 | []=>none
 | e::t_=>(l6 e.2).map λk=>(k,j5 t_,n)
theorem RY{q:List UInt8}{es:List kO}(he:j5 es=(ic q).1):fp q=CF es (ic q).2:=by
 unfold fp
 rw[<- he]
 cases es with
 | nil=>rfl
 | cons e es=>rfl
theorem YT(X:Chunk)(v:Value)(q:List UInt8)(hq:dN X v q)(hN:q.length<=10000000000):SP 218 [v] [X] (rB X q):=by
 intro W F w hS;apply bIx;delta Jm bw cF df dc ai bF;(try simp only[app]at hS)
 refine Cc (Q7 X v q hq hN) ?_;clear hS
 rintro r post ⟨u,es,he,rfl,rfl⟩ w hS;(try simp only[app]at hS)
 have iN:=hS.kL .hd
 obtain⟨au,cu,eu,_⟩:=a7.at hS .hd
 subst eu
 refine Gp ?_
 refine⟨_,rfl,zI hS ?_⟩
 clear hS;intro rp w hS
 have hS:SL W (.pt rp [.slice au es.length cu,.int .i64 ((ic q).2:Nat),.int .i64 0] 371::.ob (a7 (.slice au es.length cu) 62 1 es.length (eO es))::.ob (zf eV es)::X::F) w:=hS
 refine Cc (Ya rp (.slice au es.length cu) ((ic q).2:Nat) 0 es) ?_;clear hS
 rintro v post ⟨rfl,rfl⟩ w hS;(try simp only[app]at hS)
 refine zO ?_
 have hr:=RY he
 cases hd:xH es with
 | none=>
  refine zw ?_
  refine⟨[X],?_,aR hS⟩
  unfold rB
  have:fp q=none:=by
   rw[hr]
   cases es with
   | nil=>rfl
   | cons e es=>have hd:l6 e.2=none:=hd;show (l6 e.2).map _=none;rw[hd];rfl
  rw[this];exact⟨rfl,rfl⟩
 | some k=>
  refine zq ?_
  cases es with
  | nil=>cases hd
  | cons e es=>
   have hd:l6 e.2=some k:=hd
   have hr:fp q=some (k,j5 es,(ic q).2):=by
    rw[hr];show (l6 e.2).map _=_;rw[hd];rfl
   rw[show (xH (e::es)).getD 0=k by show (l6 e.2).getD 0=k;rw[hd];rfl]at hS
   refine Gn λw hS=>?_
   have hS:=zf.take (t:=0) (x:=e) (SL.b6 hS (t:=.ob (zf eV (e::es))::.pt rp [.slice au (e::es).length cu,.int .i64 ((ic q).2:Nat),.int .i64 k] 371::.ob (a7 (.slice au (e::es).length cu) 62 1 (e::es).length (eO (e::es)))::X::F) Xi) rfl
   have hS:=dC.of (SL.b6 hS (t:=.ob (a7 (.slice au (e::es).length cu) 62 1 (e::es).length (eO (e::es)))::.pt rp [.slice au (e::es).length cu,.int .i64 ((ic q).2:Nat),.int .i64 k] 371::.ob (zf eV ((e::es).eraseIdx 0))::X::F) Xi)
   refine Qi (k:=1) hS (by simp) ?_
   clear hS;intro y hS
   have e1:(e::es).length-1=es.length:=by simp
   have e2:(eO (e::es)).drop (1*1)=eO es:=rfl
   have e3:(e::es).eraseIdx 0=es:=rfl
   rw[e1,e2,e3]at hS
   refine Gp ?_
   refine⟨[.ob (dC y 62 1 es.length (eO es)),.ob (zf eV es),X],?_,aR hS⟩
   unfold rB
   rw[hr]
   exact⟨y,es,rfl,rfl,rfl⟩
theorem Zf(X:Chunk)(s:Int)(v:Value)(b:List UInt8)(hb:dN X v b)(hN:b.length<=140737488355328):SP 187 [.int .u32 s,v] [X] (dj (.int .u32 (iY s b)) [X]):=by
 intro W F w hS;apply bIe;delta I5 aF ai;(try simp only[app]at hS)
 refine ZP ?_
 refine⟨λvs w=>∃i:Nat,i<=b.length/\vs=[.int .u32 ((b.take i).foldl AR (vw s)),.int .i64 i]/\SL W (X::F) w,λvs _=>match vs with
  | [_,.int _ i]=>b.length-i.toNat
  | _=>0,⟨0,by omega,rfl,hS⟩,?_⟩
 clear hS
 rintro v1 v2 w1 ⟨i,hi,hv,hS⟩
 cases hv
 refine zH hS .hd hb ?_
 refine bR (λh=>?_) (λh=>?_)
 ·have hi:i<b.length:=by omega
  have hx:=b[i].toNat_lt
  refine yF hS .hd hb hi ?_
  refine zM ?_
  rw[wrap_u32 (by omega) (by omega)]
  refine ZR ?_
  refine⟨λvs w=>∃k:Nat,k<=8/\vs=[.int .u32 (sJ k (u9 ((b.take i).foldl AR (vw s)) (b[i].toNat:Int))),.int .i64 k]/\SL W (X::F) w,λvs _=>match vs with
   | [_,.int _ k]=>8-k.toNat
   | _=>0,⟨0,by omega,rfl,hS⟩,?_⟩
  clear hS
  rintro u1 u2 w2 ⟨k,hk,hu,hS⟩
  cases hu
  refine bR (λh1=>?_) (λh1=>?_)
  ·have Od:∀c,sJ (k+1) c=tV (sJ k c):=λc=>rfl
   refine Qv ?_
   refine GU ?_
   refine Zs (n:=1) (by omega) ?_
   refine za (λh2=>?_) (λh2=>?_)
   ·refine ZR ?_
    refine Gp ?_
    refine⟨⟨k+1,by omega,?_,hS⟩,?_⟩
    ·rw[Od,tV,if_pos h2]
    ·simp only[Int.toNat_natCast];omega
   ·refine Gp ?_
    refine⟨⟨k+1,by omega,?_,hS⟩,?_⟩
    ·rw[Od,tV,if_neg h2]
    ·simp only[Int.toNat_natCast];omega
  ·obtain rfl:k=8:=by omega
   refine Gp ?_
   refine⟨⟨i+1,by omega,?_,hS⟩,?_⟩
   ·rw[show b.take (i+1)=b.take i++[b[i]] by rw[List.take_add_one];simp[hi],List.foldl_append];rfl
   ·simp only[Int.toNat_natCast];omega
 ·obtain rfl:i=b.length:=by omega
  refine ZP ?_
  rw[List.take_length]
  exact⟨_,⟨rfl,rfl⟩,hS⟩
theorem Yt(X:Chunk)(v:Value)(b:List UInt8)(hb:dN X v b)(hN:b.length<=140737488355328):SP 188 [v] [X] (dj (.int .u32 (iY 0 b)) [X]):=by
 intro W F w hS;apply bIf;unfold I6;(try simp only[app]at hS)
 refine Cg (Zf X 0 v b hb hN) λw hS=>?_
 exact⟨_,⟨rfl,rfl⟩,hS⟩
theorem yI(x:Int)(n:Nat)(hn:n<=8):SP 185 [.int .u64 x,.int .i64 n] [] (λu post=>post=[.ob (a7 u 5 1 (dS x n).length ((dS x n).map cI))]):=by
 intro W F w hS;apply bIc;delta I3 aF ai bF;(try simp only[app]at hS)
 refine Gp ?_
 have hS:=a7.nil (t:=5) (sz:=1) hS
 have hS:SL W (.ob (a7 (.slice none 0 0) 5 1 ([]:List UInt8).length (([]:List UInt8).map cI))::F) w:=hS
 refine⟨λvs w=>∃(u:Value) (c:List UInt8) (k:Nat),vs=[u,.int .i64 ((k:Int)-1)]/\k<=n/\c++dS x k=dS x n/\SL W (.ob (a7 u 5 1 c.length (c.map cI))::F) w,λvs _=>match vs with
  | [_,.int _ i]=>(i+1).toNat
  | _=>0,⟨_,[],n,rfl,Nat.le_refl _,rfl,hS⟩,?_⟩
 clear hS
 rintro u1 u2 w1 ⟨u,c,k,hv,hk,hc,hS⟩
 cases hv
 refine bR (λh=>?_) (λh=>?_)
 ·obtain⟨j,rfl⟩:∃j,k=j+1:=⟨k-1,by omega⟩
  have e0:((j+1:Nat):Int)-1=(j:Int):=by omega
  rw[e0]
  refine GV (by omega) ?_
  have e1:(8:Int)*(j:Int)=((8*j:Nat):Int):=by omega
  rw[e1]
  refine zM ?_
  rw[wrap_u64 (by omega) (by omega)]
  refine Sh (by omega) ?_
  refine zM ?_
  rw[wrap_u8]
  refine zy (cells:=[cI (fy (x.fdiv (2 ^ (8*j))))]) hS rfl ?_
  clear hS;intro p w hS
  have gj:c.length+(j+1)=n:=by
   have:=congrArg List.length hc
   simpa [i_] using this
  refine zx (m:=1) (cs:=[cI (fy (x.fdiv (2 ^ (8*j))))]) hS Xr (iP hS .hd rfl) rfl rfl (by intro v hv;simp only[List.mem_singleton]at hv;subst hv;rfl) (by omega) (by omega) ?_
  clear hS;intro u' w hS
  refine Gp ?_
  refine⟨⟨u',c++[fy (x.fdiv (2 ^ (8*j)))],j,rfl,by omega,?_,?_⟩,?_⟩
  ·rw[<- hc];simp[dS]
  ·simp only[List.length_append,List.length_cons,List.length_nil,List.map_append,List.map_cons,List.map_nil]
   exact aR hS
  ·show ((j:Int)-1+1).toNat<((j:Int)+1).toNat
   omega
 ·obtain rfl:k=0:=by omega
  have e:c=dS x n:=by simpa [dS] using hc
  rw[e]at hS
  exact⟨_,rfl,hS⟩
theorem a7d{x:Nat}{K:Value->Prop}(h:K (.int .u64 (((x*256) % 18446744073709551616:Nat):Int))):zc .shl (.int .u64 (x:Int)) (.int .u64 8) K:=by
 refine⟨.int .u64 (((x*256) % 18446744073709551616:Nat):Int),?_,h⟩
 show (if (8:Int)<0 then none else some (Value.int .u64 (IntKind.u64.wrap ((x:Int)*2 ^ (min (8:Int).toNat IntKind.u64.bits)))))=_
 rw[if_neg (by omega)]
 congr 2
theorem aW9{x:Nat}{c:UInt8}{K:Value->Prop}(h:K (.int .u64 (((x*256+c.toNat) % 18446744073709551616:Nat):Int))):
  zG .u64 (cI c) λy=>zc .or (.int .u64 (((x*256) % 18446744073709551616:Nat):Int)) y K:=by
 have hc:=c.toNat_lt
 refine zM ?_
 rw[wrap_u64 (by omega) (by omega)]
 refine⟨_,RH (by omega) (by omega),?_⟩
 have e:(x*256) % 18446744073709551616=((x*256) % 18446744073709551616 / 256) <<< 8:=by rw[Nat.shiftLeft_eq];omega
 have e2:(x*256) % 18446744073709551616 ||| c.toNat=(x*256+c.toNat) % 18446744073709551616:=by
  rw[e,<- Nat.shiftLeft_add_eq_or_of_lt (show c.toNat<2 ^ 8 by omega),Nat.shiftLeft_eq];omega
 rw[e2];exact h
theorem ye(X:Chunk)(v:Value)(b:List UInt8)(hb:dN X v b)(hN:b.length<=140737488355328):SP 300 [v] [X] (dj (.int .u64 (fu b:Nat)) [X]):=by
 intro W F w hS;apply bWq;delta Kp aF ai;(try simp only[app]at hS)
 refine⟨λvs w=>∃i:Nat,i<=b.length/\vs=[.int .u64 (fu (b.take i):Nat),.int .i64 i]/\SL W (X::F) w,λvs _=>match vs with
  | [_,.int _ i]=>b.length-i.toNat
  | _=>0,⟨0,by omega,rfl,hS⟩,?_⟩
 clear hS
 rintro v1 v2 w1 ⟨i,hi,hv,hS⟩
 cases hv
 refine zH hS Xh hb ?_
 refine bR (λh=>?_) (λh=>?_)
 ·have hi:i<b.length:=by omega
  refine a7d ?_
  refine yF hS Xh hb hi ?_
  refine aW9 ?_
  refine Gp ?_
  refine⟨⟨i+1,by omega,?_,hS⟩,?_⟩
  ·rw[DK hi]
  ·simp only[Int.toNat_natCast];omega
 ·have:b.take i=b:=List.take_of_length_le (by omega)
  rw[this]
  exact⟨_,⟨rfl,rfl⟩,hS⟩
theorem ZB(X:Chunk)(v:Value)(q:List UInt8)(hq:dN X v q)(hN:q.length<=140737488355328):SP 95 [v] [X] (nq X q):=by
 intro W F w hS;apply b6v;delta LA aF ai bF;(try simp only[app]at hS)
 refine zH hS .hd hq ?_
 refine bR (λh=>?_) (λh=>?_)
 ·exact⟨_,.L9 (by omega),hS⟩
 ·have q':q.length<=1048576:=by omega
  refine zH hS .hd hq ?_
  refine zM ?_
  rw[wrap_u64 (by omega) (by omega)]
  refine Cc (yI q.length 4 (by omega)) ?_;clear hS
  rintro lu post rfl w hS;(try simp only[app]at hS)
  rw[Ro]at hS
  have Ae:dN (.ob (a7 lu 5 1 (four q.length).length ((four q.length).map cI))) lu (four q.length):=dN.own
  refine Cc (Yt _ lu (four q.length) Ae (by rw[o8];omega)) ?_;clear hS
  rintro v post ⟨rfl,rfl⟩ w hS;(try simp only[app]at hS)
  refine Cc (Zf X (iY 0 (four q.length)) v q hq hN) ?_;clear hS
  rintro v post ⟨rfl,rfl⟩ w hS;(try simp only[app]at hS)
  have hs:iY (iY 0 (four q.length)) q=sumOf q:=rfl
  have O6:=Gd (iY 0 (four q.length)) q
  rw[hs]at O6 ⊢
  refine zM ?_
  rw[wrap_u64 (by omega) (by omega)]
  refine Cc (yI (sumOf q) 4 (by omega)) ?_;clear hS
  rintro v20 post rfl w hS;(try simp only[app]at hS)
  rw[Ro]at hS
  refine zx (t:=5) (sz:=1) (x:=lu) (n:=(four q.length).length) (cells:=(four q.length).map cI) (m:=(four (sumOf q)).length) (cs:=(four (sumOf q)).map cI) hS Xr (nc hS Xh) (by simp) rfl (j3 _) (by simp[o8]) (by simp[o8]) ?_
  clear hS;intro Hd w hS
  rw[<- List.map_append,<- List.length_append]at hS
  refine zx (t:=5) (sz:=1) (m:=q.length) (cs:=q.map cI) hS .hd (hq.src hS Xh) (by simp) rfl (j3 _) (by simp only[List.length_append,o8];omega) (by simp only[List.length_append,o8];omega) ?_
  clear hS;intro v24 w hS
  rw[<- List.map_append,<- List.length_append]at hS
  have e:four (q.length:Nat)++four (sumOf q)++q=dG q:=rfl
  rw[e]at hS
  exact⟨_,.ok q' v24,aR hS⟩
theorem Z6(X:Chunk)(v:Value)(q:List UInt8)(hq:dN X v q)(hN:q.length<=140737488355328):SP 243 [v] [X] (nX X q):=by
 intro W F w hS;apply bRl;delta JM aF ai bF;(try simp only[app]at hS)
 refine zH hS .hd hq ?_
 refine bR (λh=>?_) (λh=>?_)
 ·exact⟨_,.er (SQ (by omega)),hS⟩
 ·have h8:8<=q.length:=by omega
  refine ZQ (hi:=4) hS .hd hq (by omega) ?_
  intro v11 xu
  refine Cc (ye X v11 (q.take 4) xu (by rw[List.length_take];omega)) ?_;clear hS
  rintro v post ⟨rfl,rfl⟩ w hS;(try simp only[app]at hS)
  rw[L_ (by omega)]
  have dZ:=Rn q
  refine yx (by omega) ?_
  have Xy:=λ(p:List UInt8) hp=>a79 (q:=q) (p:=p) h8 hp
  have te2:=SR (q:=q) h8
  have te3:=SS (q:=q) h8
  have te4:=SU (q:=q) h8
  have tok:=SV (q:=q) h8
  generalize gT q=k at *
  refine bR (λh2=>?_) (λh2=>?_)
  ·exact⟨_,.er (te2 (by omega)),hS⟩
  ·refine zH hS .hd hq ?_
   refine bR (λh3=>?_) (λh3=>?_)
   ·exact⟨_,.er (te3 (by omega) (by omega)),hS⟩
   ·refine yd (a:=8) (b:=k) (by omega) ?_
    refine Z9 (lo:=8) (hi:=8+k) hS .hd hq (by omega) (by omega) ?_
    intro v44 sS
    rw[show 8+k-8=k by omega]at sS
    have x9:((q.drop 8).take k).length=k:=by rw[List.length_take,List.length_drop];omega
    generalize hp:(q.drop 8).take k=p at *
    refine Gn λw hS=>?_
    refine ZQ (hi:=4) hS .hd hq (by omega) ?_
    intro v26 VN
    refine Z9 (lo:=4) (hi:=8) hS Xh hq (by omega) (by omega) ?_
    intro v32 NG
    rw[show 8-4=4 from rfl]at NG
    refine Cc (Yt X v26 (q.take 4) VN (by rw[List.length_take];omega)) ?_;clear hS
    rintro v post ⟨rfl,rfl⟩ w hS;(try simp only[app]at hS)
    refine Cc (Zf X (iY 0 (q.take 4)) v44 p sS (by omega)) ?_;clear hS
    rintro v post ⟨rfl,rfl⟩ w hS;(try simp only[app]at hS)
    have O6:=Gd (iY 0 (q.take 4)) p
    refine zM ?_
    rw[wrap_u64 (by omega) (by omega)]
    refine Cc (ye X v32 ((q.drop 4).take 4) NG (by rw[List.length_take];omega)) ?_;clear hS
    rintro v post ⟨rfl,rfl⟩ w hS;(try simp only[app]at hS);refine Gp ?_
    rw[show decide (iY (iY 0 (q.take 4)) p≠((fu ((q.drop 4).take 4):Nat):Int))=decide (four (sumOf p)≠(q.drop 4).take 4) from Xy p x9]
    refine za (λh4=>?_) (λh4=>?_)
    ·exact⟨_,.er (te4 (by omega) (by omega) h4),aR hS⟩
    ·refine Gm λb w hS=>?_
     have hS:=a7.full (n:=0) (sz:=1) rfl hS
     refine zx (t:=5) (sz:=1) (n:=0) (m:=k) (cs:=p.map cI) hS .hd (by have:=sS.src hS Xh;rw[x9]at this;exact this) (by simp[x9]) rfl (j3 _) (by omega) (by omega) ?_
     clear hS;intro v37 w hS
     rw[Nat.zero_add,List.nil_append]at hS
     refine yd (a:=8) (b:=k) (by omega) ?_
     have ht:=tok (by omega) (by omega) (Classical.not_not.1 h4)
     rw[<- x9]at hS
     exact⟨_,.ok ht v37,aR hS⟩
theorem qZ(X:Chunk)(v:Value)(q:List UInt8)(hq:dN X v q)(hN:q.length<=10000000000):SP 241 [v] [X] (HG X q):=by
 intro W F w hS;apply bRj;delta JJ aF ai bF;(try simp only[app]at hS)
 have hS:=a7.nil (t:=62) (sz:=1) (zf.nil (A:=eV) hS)
 refine⟨λvs w=>∃(u:Value) (es:List kO) (at_:Nat),vs=[u,.int .i64 at_]/\at_<=q.length/\es.length*8<=at_/\j5 es++(ic (q.drop at_)).1=(ic q).1/\at_+(ic (q.drop at_)).2=(ic q).2 /\
   SL W (.ob (a7 u 62 1 es.length (eO es))::.ob (zf eV es)::X::F) w,λvs _=>match vs with
  | [_,.int _ i]=>q.length-i.toNat
  | _=>0,⟨_,[],0,rfl,Nat.zero_le _,Nat.le_refl _,rfl,by simp,hS⟩,?_⟩
 clear hS
 rintro u1 u2 w1 ⟨u,es,i,hv,hi,h8,h1,h2,hS⟩
 cases hv
 refine zH hS Xh hq ?_
 refine bR (λh0=>?_) (λh0=>?_)
 ·refine YR hS Xh hq hi ?_
  intro lu eh
  refine Cc (Z6 X lu (q.drop i) eh (by rw[List.length_drop];omega)) ?_;clear hS
  intro tG post hQ w hS
  unfold nX at hQ
  cases ht:gN (q.drop i) with
  | error e=>
   rw[ht]at hQ
   obtain⟨rfl,rfl⟩:=hQ
   (try simp only[app]at hS);refine Gp ?_
   have he:=CX ht
   rw[AN ht]at h1 h2
   refine za (λ_=>?_) (λh=>by omega)
   refine⟨_,⟨u1,es,by simpa using h1,?_,rfl⟩,aR hS⟩
   rw[<- h2];rfl
  | ok x=>
   obtain⟨p,n⟩:=x
   rw[ht]at hQ
   obtain⟨y,rfl,rfl⟩:=hQ
   (try simp only[app]at hS);refine Gp ?_
   have hl:=u0 ht
   rw[CN ht]at h1 h2
   rw[List.length_drop]at hl
   refine za (λh=>absurd rfl h) (λ_=>?_)
   have iN:=hS.kL .hd
   obtain⟨ay,cy,ey,_⟩:=a7.at hS .hd
   subst ey
   refine zy (cells:=[.slice ay p.length cy]) hS rfl ?_
   clear hS;intro b w hS
   refine zx (m:=1) (cs:=[.slice ay p.length cy]) hS Xr (iP hS .hd rfl) rfl rfl (by intro v hv;simp only[List.mem_singleton]at hv;subst hv;rfl) (by omega) (by omega) ?_
   clear hS;intro u' w hS
   have hS:=zf.snoc (A:=eV) (xs:=es) (x:=(.slice ay p.length cy,p)) (SL.b6 hS (t:=.ob (zf eV es)::.ob (a7 (.slice ay p.length cy) 5 1 p.length (p.map cI))::.ob (a7 u' 62 1 (es.length+1) (eO es++[.slice ay p.length cy]))::X::F) Xi)
   refine yd (a:=i) (b:=n) (by omega) ?_
   refine⟨⟨u',es++[(.slice ay p.length cy,p)],i+n,rfl,by omega,by simp;omega,?_,?_,?_⟩,?_⟩
   ·rw[<- h1,<- List.drop_drop];simp[j5]
   ·rw[<- h2,<- List.drop_drop];simp only;omega
   ·rw[show (es++[((Value.slice ay p.length cy,p):kO)]).length=es.length+1 by simp,show eO (es++[((Value.slice ay p.length cy,p):kO)])=eO es++[.slice ay p.length cy] by simp[eO]]
    exact aR hS
   ·simp only[Int.toNat_natCast];omega
 ·have hd:q.drop i=[]:=List.drop_eq_nil_of_le (by omega)
  rw[hd,AN SN]at h1 h2
  refine⟨_,⟨u1,es,by simpa using h1,?_,rfl⟩,aR hS⟩
  rw[<- h2];rfl
section
variable {W w:World} {l:List Chunk} {X:Chunk} {v:Value} {sz n:Nat}
theorem yJ{α:Type}{enc:α->List Value}{xs:List α}{j i:Nat}{u:Value}{kk:IntKind}{K:Value->Prop}(hS:SL W l w)(m:Has X l)(hb:mI X sz v n (xs.map enc).flatten)(he:∀x,(enc x).length=sz)(kH:0<sz)(hx:xs.length=n)(hj:j<n)
  (hu:(enc (xs[j]'(by omega)))[i]?=some u) (hK:K u):zh sz v (.int kk (j:Int)) λp=>zu i p λq=>cR q w K:=by
 obtain⟨a,c,rfl,hc⟩:=hb.sl hS m
 have hs:=hb.src hS m
 have hlen:(xs.map enc).flatten.length=n*sz:=by rw[<- hx];exact jF he xs
 have hg:=ud he (by omega) hu
 cases a with
 | none=>
  have e:(xs.map enc).flatten=[]:=hs.2
  rw[e]at hg;simp at hg
 | some p=>
  refine⟨p,_,c,kk,j,rfl,rfl,hj,?_⟩
  refine⟨_,rfl,?_⟩
  refine⟨_,u,rfl,?_,hK⟩
  rw[Dv]
  exact hs.2.2 (j*sz+i) u hg
end
theorem zL(n:Int):SP 92 [.int .i64 n] [] (dj (.agg (ep ⟨1,n,⟨#[]⟩⟩).toArray) []):=by
 intro W F w hS;apply b6s;delta Lx ai c_;(try simp only[app]at hS)
 refine Gm λb w hS=>?_
 exact dq hS
theorem y9(s:ByteArray):SP 93 [.string s] [] (dj (.agg (ep ⟨2,0,s⟩).toArray) []):=by
 intro W F w hS;apply b6t;delta Ly ai c_;(try simp only[app]at hS)
 refine Gm λb w hS=>?_
 exact dq hS
theorem YL(x:dH):SP 186 [.agg (ep x).toArray] [] (dj (.bool (jM x)) []):=by
 intro W F w hS;apply bId;delta I4 aF a_ b7 ai;(try simp only[app]at hS)
 refine⟨ep x,rfl,?_⟩
 unfold ep
 refine Gm λb w hS=>?_
 unfold jM
 refine za (λh=>?_) (λh=>?_)
 ·rw[if_pos h]
  refine bR (λh1=>?_) (λh1=>?_)
  ·rw[decide_eq_true h1]
   exact dq hS
  ·refine Gp ?_
   refine za (λh2=>by omega) (λh2=>?_)
   rw[decide_eq_false h1]
   exact dq hS
 ·rw[if_neg h]
  refine bR (λh2=>?_) (λh2=>?_)
  ·rw[if_pos h2]
   refine bR (λh3=>?_) (λh3=>?_)
   ·refine Gp ?_
    rw[decide_eq_true h3,Bool.true_and]
    have e:decide ((x.s.size:Int)<=4096)=decide (x.s.size<=4096):=by congr 1;exact propext ⟨λ_=>by omega,λ_=>by omega⟩
    rw[e]
    exact dq hS
   ·rw[decide_eq_false h3,Bool.false_and]
    exact dq hS
  ·rw[if_neg h2]
   exact dq hS
theorem yO(X:Chunk)(v:Value)(xs:List dH)(hx:mI X 3 v xs.length (xs.map ep).flatten)(hN:xs.length<=140737488355328):SP 94 [v] [X] (nm X xs):=by
 intro W F w hS;apply b6u;delta Lz aF a_ dc ai bF;(try simp only[app]at hS)
 refine ZD hS .hd hx ?_
 refine bR (λh=>?_) (λh=>?_)
 ·exact⟨_,.er (by unfold lC;rw[if_pos (by omega)]),hS⟩
 ·refine ZD hS .hd hx ?_
  refine zM ?_
  rw[wrap_u64 (by omega) (by omega)]
  refine Cc (yI xs.length 2 (by omega)) ?_;clear hS
  rintro tG post rfl w hS;(try simp only[app]at hS)
  have hb:∀i,i<=xs.length->(xs.take i).all jM=true->(dS xs.length 2++((xs.take i).map eT).flatten).length<=200000000:=λi hi ha=>by
   have:=D' ha
   rw[List.length_append,i_]
   rw[List.length_take]at this
   omega
  refine⟨λvs w=>∃(i:Nat) (u:Value),i<=xs.length/\vs=[u,.int .i64 i]/\(xs.take i).all jM=true/\SL W (.ob (a7 u 5 1 (dS xs.length 2++((xs.take i).map eT).flatten).length ((dS xs.length 2++((xs.take i).map eT).flatten).map cI))::X::F) w,λvs _=>match vs with
   | [_,.int _ i]=>xs.length-i.toNat
   | _=>0,⟨0,tG,by omega,rfl,rfl,(by simpa using hS)⟩,?_⟩
  clear hS
  rintro u1 u2 w1 ⟨i,u,hi,hv,ha,hS⟩
  cases hv
  have V7:=hb i hi ha
  refine ZD hS Xh hx ?_
  refine bR (λh=>?_) (λh=>?_)
  ·have hi:i<xs.length:=by omega
   refine qr hS Xh hx mu (by omega) rfl hi ?_
   have pw:xs[i]∈xs:=List.getElem_mem hi
   have ra:xs.take (i+1)=xs.take i++[xs[i]]:=by rw[List.take_add_one];simp[hi]
   refine Cc (YL xs[i]) ?_;clear hS
   rintro v post ⟨rfl,rfl⟩ w hS;(try simp only[app]at hS)
   refine zO ?_
   cases hr:jM xs[i] with
   | false=>
    refine zw ?_
    refine⟨[X],.er ?_,aR hS⟩
    unfold lC
    rw[if_neg (by omega),if_neg]
    intro h
    have:=List.all_eq_true.1 h xs[i] pw
    rw[hr]at this;cases this
   | true=>
    refine zq ?_
    have uk:(xs.take (i+1)).all jM=true:=by rw[ra,List.all_append,ha];simp[hr]
    have kW:=hb (i+1) (by omega) uk
    have lI:((xs.take (i+1)).map eT).flatten=((xs.take i).map eT).flatten++eT xs[i]:=by rw[ra,List.map_append,List.flatten_append];simp only[List.map_cons,List.map_nil,List.flatten_cons,List.flatten_nil,List.append_nil]
    rw[lI]at kW
    rw[List.length_append,List.length_append]at kW
    have hk:xs[i].kind=1\/xs[i].kind=2:=by
     unfold jM at hr
     by_cases h1:xs[i].kind=1
     ·exact .inl h1
     ·rw[if_neg h1]at hr
      by_cases h2:xs[i].kind=2
      ·exact .inr h2
      ·rw[if_neg h2]at hr;cases hr
    generalize hc:dS xs.length 2++((xs.take i).map eT).flatten=c at *
    have gj:c.length+(eT xs[i]).length<=200000000:=by rw[<- hc,List.length_append];omega
    refine yJ (i:=0) hS Xh hx mu (by omega) rfl hi (u:=.int .i64 xs[i].kind) rfl ?_
    refine zM ?_
    rw[wrap_u8]
    refine zy (cells:=[cI (fy xs[i].kind)]) hS rfl ?_
    clear hS;intro p w hS
    refine zx (m:=1) (cs:=[cI (fy xs[i].kind)]) hS Xr (iP hS .hd rfl) rfl rfl (by intro v hv;simp only[List.mem_singleton]at hv;subst hv;rfl) (by omega) (by omega) ?_
    clear hS;intro u' w hS
    have hS:SL W (.ob (a7 u' 5 1 (c++[fy xs[i].kind]).length ((c++[fy xs[i].kind]).map cI))::X::F) w:=by
     simp only[List.length_append,List.length_cons,List.length_nil,List.map_append,List.map_cons,List.map_nil]
     exact aR hS
    refine yJ (i:=0) hS Xh hx mu (by omega) rfl hi (u:=.int .i64 xs[i].kind) rfl ?_
    refine bR (λh1=>?_) (λh1=>?_)
    ·refine yJ (i:=1) hS Xh hx mu (by omega) rfl hi (u:=.int .i64 xs[i].n) rfl ?_
     refine zM ?_
     have eu:IntKind.u64.wrap xs[i].n=nh xs[i].n:=rfl
     rw[eu]
     refine Cc (yI (nh xs[i].n) 8 (by omega)) ?_;clear hS
     rintro v47 post rfl w hS;(try simp only[app]at hS)
     refine zx (t:=5) (sz:=1) (x:=u') (n:=(c++[fy xs[i].kind]).length) (cells:=(c++[fy xs[i].kind]).map cI) (m:=(dS (nh xs[i].n) 8).length) (cs:=(dS (nh xs[i].n) 8).map cI) hS Xr (nc hS Xh) (by simp) rfl (j3 _) (by rw[i_,List.length_append,List.length_singleton];omega) (by rw[i_,List.length_append,List.length_singleton];omega) ?_
     clear hS;intro He w hS
     rw[<- List.map_append,<- List.length_append]at hS
     refine Gp ?_
     refine⟨⟨i+1,He,by omega,rfl,uk,?_⟩,?_⟩
     ·have e:dS xs.length 2++((xs.take (i+1)).map eT).flatten=c++[fy xs[i].kind]++dS (nh xs[i].n) 8:=by
       rw[lI,<- List.append_assoc,hc]
       have:eT xs[i]=fy xs[i].kind::dS (nh xs[i].n) 8:=by unfold eT;rw[if_pos h1]
       rw[this];simp
      rw[e]
      exact aR hS
     ·simp only[Int.toNat_natCast];omega
    ·have kH:xs[i].s.size<=4096:=by
      unfold jM at hr
      rw[if_neg h1,if_pos (by omega),Bool.and_eq_true]at hr
      exact of_decide_eq_true hr.2
     have xL:eT xs[i]=fy xs[i].kind::(dS xs[i].s.size 2++xs[i].s.data.toList):=by unfold eT;rw[if_neg h1]
     refine yJ (i:=2) hS Xh hx mu (by omega) rfl hi (u:=.string xs[i].s) rfl ?_
     refine Gp ?_
     refine zM ?_
     rw[wrap_u64 (by omega) (by omega)]
     refine Cc (yI xs[i].s.size 2 (by omega)) ?_;clear hS
     rintro v57 post rfl w hS;(try simp only[app]at hS)
     refine zx (t:=5) (sz:=1) (x:=u') (n:=(c++[fy xs[i].kind]).length) (cells:=(c++[fy xs[i].kind]).map cI) (m:=(dS xs[i].s.size 2).length) (cs:=(dS xs[i].s.size 2).map cI) hS Xr (nc hS Xh) (by simp) rfl (j3 _) (by rw[i_,List.length_append,List.length_singleton];omega) (by rw[i_,List.length_append,List.length_singleton];omega) ?_
     clear hS;intro S4 w hS
     rw[<- List.map_append,<- List.length_append]at hS
     refine yJ (i:=2) hS Xh hx mu (by omega) rfl hi (u:=.string xs[i].s) rfl ?_
     have B9:xs[i].s.data.toList.length=xs[i].s.size:=rfl
     have mz:(eT xs[i]).length=1+(2+xs[i].s.size):=by rw[xL];simp only[List.length_cons,List.length_append,i_];omega
     refine zx (m:=xs[i].s.size) (cs:=xs[i].s.data.toList.map cI) hS Xr SA (by simp) rfl (j3 _) (by simp only[List.length_append,List.length_cons,List.length_nil,i_];omega) (by simp only[List.length_append,List.length_cons,List.length_nil,i_];omega) ?_
     clear hS;intro Hf w hS
     refine Gp ?_
     refine⟨⟨i+1,Hf,by omega,rfl,uk,?_⟩,?_⟩
     ·have e:dS xs.length 2++((xs.take (i+1)).map eT).flatten=(c++[fy xs[i].kind]++dS xs[i].s.size 2)++xs[i].s.data.toList:=by
       rw[lI,<- List.append_assoc,hc,xL];simp
      rw[e]
      generalize c++[fy xs[i].kind]++dS xs[i].s.size 2=A at *
      rw[List.length_append,List.map_append,B9]
      exact aR hS
     ·simp only[Int.toNat_natCast];omega
  ·obtain rfl:i=xs.length:=by omega
   rw[List.take_length]at hS ha
   exact⟨_,.ok (by unfold lC;rw[if_neg (by omega),if_pos ha]) u1,aR hS⟩
theorem qV(n:Int):SP 303 [.int .i64 n] [] (vh n):=by
 intro W F w hS;apply bWt;delta Ks aF ai c_ bF;(try simp only[app]at hS)
 refine Gp ?_
 unfold vh
 refine za (λh=>?_) (λh=>?_)
 ·refine⟨[],?_,hS⟩
  rw[if_pos (.inl (by omega))]
  exact⟨rfl,rfl⟩
 ·refine bR (λh2=>?_) (λh2=>?_)
  ·refine⟨[],?_,hS⟩
   rw[if_pos (.inr (by omega))]
   exact⟨rfl,rfl⟩
  ·simp only[if_neg (c:=n<1\/1099511627776<n) (by omega)]
   obtain⟨k,rfl⟩:∃k:Nat,n=(k:Int):=⟨n.toNat,by omega⟩
   refine Cc (zL (k:Int)) ?_;clear hS
   rintro v post ⟨rfl,rfl⟩ w hS;(try simp only[app]at hS)
   refine zy (cells:=ep ⟨1,(k:Int),⟨#[]⟩⟩) hS rfl ?_
   clear hS;intro b w hS
   refine Cc (yO (.pt b (ep ⟨1,(k:Int),⟨#[]⟩⟩) 174) (.slice (some ⟨b,0,none⟩) 1 1) [⟨1,(k:Int),⟨#[]⟩⟩] (mI.pt rfl) (by simp)) ?_;clear hS
   intro r post hQ w hS
   unfold nm at hQ
   rw[MZ (by omega)]at hQ
   obtain⟨u,rfl,rfl⟩:=hQ
   (try simp only[app]at hS);refine Gp ?_
   have Ae:dN (.ob (a7 u 5 1 (fw k).length ((fw k).map cI))) u (fw k):=dN.own
   refine Cc (ZB _ u (fw k) Ae (by rw[rR];omega)) ?_;clear hS
   intro r post hQ w hS
   unfold nq at hQ
   rw[if_neg (by rw[rR];omega)]at hQ
   obtain⟨y,rfl,rfl⟩:=hQ
   (try simp only[app]at hS);refine Gp ?_
   rw[Int.toNat_natCast]
   exact⟨_,⟨y,rfl,rfl⟩,aR hS⟩
theorem yN(X:Chunk)(v:Value)(q:List UInt8)(hq:dN X v q)(hN:q.length<=140737488355328):SP 242 [v] [X] (nk X q):=by
 intro W F w hS;apply bRk;delta JK aF ai c_ bF;(try simp only[app]at hS)
 have hE:∀{e:Int} {w:World},h_ q= .error e->SL W (X::F) w->∃post,nk X q (.tuple #[.slice none 0 0,.int .i64 e]) post/\SL W (app post F) w:=λh hS=>⟨[X],by unfold nk;rw[h];exact⟨rfl,rfl⟩,hS⟩
 refine zH hS .hd hq ?_
 refine Gp ?_
 refine za (λh=>hE (UQ (by omega)) hS) (λh=>?_)
 have h2:2<=q.length:=by omega
 refine ZQ (hi:=2) hS .hd hq h2 ?_
 intro C1 VM
 refine Cc (ye X C1 (q.take 2) VM (by rw[List.length_take];omega)) ?_;clear hS
 rintro v post ⟨rfl,rfl⟩ w hS;(try simp only[app]at hS)
 have dZ:fu (q.take 2)<65536:=by
  have:=w_ 2 (q.take 2) (by rw[List.length_take];omega)
  exact this
 refine yx (by omega) ?_
 refine Gp ?_
 refine za (λh3=>hE (UO h2 (by omega)) hS) (λh3=>?_)
 have ia:=Mx h2 (by omega)
 generalize hm:fu (q.take 2)=m at *
 have hS:=a7.nil (t:=174) (sz:=3) hS
 refine⟨λvs w=>∃(i at_:Nat) (u:Value) (l:List dH),vs=[.int .i64 at_,u,.int .i64 i]/\i<=m/\l.length=i/\at_<=q.length/\h_ q=lB l (m-i) ⟨q.drop at_,0⟩/\SL W (.ob (a7 u 174 3 l.length (l.map ep).flatten)::X::F) w,
  λvs _=>match vs with|[_,_,.int _ i]=>(m-i).toNat|_=>0,⟨0,2,_,[],rfl,by omega,rfl,h2,ia,hS⟩,?_⟩
 clear hS ia
 rintro v5 v6 v7 w ⟨i,at_,u,l,eY,ow,B2,fD,ia,hS⟩
 cases eY
 refine bR (λh4=>?_) (λh4=>?_)
 ·have ow:i<m:=by omega
  obtain⟨r,hr⟩:∃r,m-i=r+1:=⟨m-i-1,by omega⟩
  have B5:m-(i+1)=r:=by omega
  rw[hr]at ia
  refine zH hS Xh hq ?_
  refine bR (λh5=>?_) (λh5=>?_)
  ·have:q.drop at_=[]:=List.drop_eq_nil_of_le (by omega)
   rw[this,US]at ia
   exact hE ia (aR hS)
  ·have N8:at_<q.length:=by omega
   rw[List.drop_eq_getElem_cons N8]at ia
   have hx:=q[at_].toNat_lt
   refine yF hS Xh hq N8 ?_
   refine yx (by omega) ?_
   refine bR (λh6=>?_) (λh6=>?_)
   ·rw[MA (by omega)]at ia
    rw[List.length_drop]at ia
    refine zH hS Xh hq ?_
    refine bR (λh7=>?_) (λh7=>?_)
    ·rw[if_pos (by omega)]at ia
     exact hE ia (aR hS)
    ·rw[if_neg (by omega)]at ia
     refine yd (a:=at_+1) (b:=8) (by omega) ?_
     refine Z9 (lo:=at_+1) (hi:=at_+1+8) hS Xh hq (by omega) (by omega) ?_
     intro He NI
     rw[show at_+1+8-(at_+1)=8 by omega]at NI
     refine Cc (ye X He ((q.drop (at_+1)).take 8) NI (by rw[List.length_take];omega)) ?_;clear hS
     rintro v post ⟨rfl,rfl⟩ w hS;(try simp only[app]at hS)
     have V6:fu ((q.drop (at_+1)).take 8)<18446744073709551616:=w_ 8 _ (by rw[List.length_take,List.length_drop];omega)
     refine zM ?_
     rw[Sq V6]
     refine Cc (zL (sig (fu ((q.drop (at_+1)).take 8)))) ?_;clear hS
     rintro v post ⟨rfl,rfl⟩ w hS;(try simp only[app]at hS)
     refine zy (cells:=ep ⟨1,sig (fu ((q.drop (at_+1)).take 8)),⟨#[]⟩⟩) hS rfl ?_
     clear hS;intro p w hS
     refine zx (m:=1) (cs:=ep ⟨1,sig (fu ((q.drop (at_+1)).take 8)),⟨#[]⟩⟩) hS Xr (iP hS .hd rfl) rfl rfl (Bs _) (by omega) (by omega) ?_
     clear hS;intro u' w hS
     refine yd (a:=at_+1) (b:=8) (by omega) ?_
     refine Gp ?_
     refine⟨⟨i+1,at_+1+8,u',l++[⟨1,sig (fu ((q.drop (at_+1)).take 8)),⟨#[]⟩⟩],rfl,by omega,by simp;omega,by omega,?_,?_⟩,by dsimp only;omega⟩
     ·rw[ia,B5,List.drop_drop]
     ·rw[show (l++[(⟨1,sig (fu ((q.drop (at_+1)).take 8)),⟨#[]⟩⟩:dH)]).length=l.length+1 by simp,show ((l++[(⟨1,sig (fu ((q.drop (at_+1)).take 8)),⟨#[]⟩⟩:dH)]).map ep).flatten=(l.map ep).flatten++ep ⟨1,sig (fu ((q.drop (at_+1)).take 8)),⟨#[]⟩⟩ by simp]
      exact aR hS
   ·refine bR (λh7=>?_) (λh7=>?_)
    ·rw[MB (by omega)]at ia
     rw[List.length_drop]at ia
     refine zH hS Xh hq ?_
     refine bR (λh8=>?_) (λh8=>?_)
     ·rw[if_pos (by omega)]at ia
      exact hE ia (aR hS)
     ·rw[if_neg (by omega)]at ia
      refine yd (a:=at_+1) (b:=2) (by omega) ?_
      refine Z9 (lo:=at_+1) (hi:=at_+1+2) hS Xh hq (by omega) (by omega) ?_
      intro Hg rO
      rw[show at_+1+2-(at_+1)=2 by omega]at rO
      refine Cc (ye X Hg ((q.drop (at_+1)).take 2) rO (by rw[List.length_take];omega)) ?_;clear hS
      rintro v post ⟨rfl,rfl⟩ w hS;(try simp only[app]at hS)
      have kW:fu ((q.drop (at_+1)).take 2)<65536:=w_ 2 _ (by rw[List.length_take,List.length_drop];omega)
      generalize fu ((q.drop (at_+1)).take 2)=z at *
      refine yx (by omega) ?_
      refine yd (a:=at_+1) (b:=2) (by omega) ?_
      refine bR (λh9=>?_) (λh9=>?_)
      ·rw[if_pos (by omega)]at ia
       exact hE ia (aR hS)
      ·rw[if_neg (by omega)]at ia
       refine zH hS Xh hq ?_
       refine bR (λoe=>?_) (λoe=>?_)
       ·rw[if_pos (by omega)]at ia
        exact hE ia (aR hS)
       ·rw[if_neg (by omega)]at ia
        refine yd (a:=at_+1+2) (b:=z) (by omega) ?_
        refine Z9 (lo:=at_+1+2) (hi:=at_+1+2+z) hS Xh hq (by omega) (by omega) ?_
        intro v86 EA
        rw[show at_+1+2+z-(at_+1+2)=z by omega]at EA
        obtain⟨a86,c86,rfl,_⟩:=EA.sl hS Xh
        refine Zg (bs:=(q.drop (at_+1+2)).take z) ⟨_,_,_,rfl⟩ (EA.src hS Xh) Tryz.underlying62 Tryz.underlying9 Tryz.underlying5 ?_
        refine Cc (y9 (eM ((q.drop (at_+1+2)).take z))) ?_;clear hS
        rintro v post ⟨rfl,rfl⟩ w hS;(try simp only[app]at hS)
        refine zy (cells:=ep ⟨2,0,eM ((q.drop (at_+1+2)).take z)⟩) hS rfl ?_
        clear hS;intro p w hS
        refine zx (m:=1) (cs:=ep ⟨2,0,eM ((q.drop (at_+1+2)).take z)⟩) hS Xr (iP hS .hd rfl) rfl rfl (Bs _) (by omega) (by omega) ?_
        clear hS;intro u' w hS
        refine yd (a:=at_+1+2) (b:=z) (by omega) ?_
        refine Gp ?_
        refine⟨⟨i+1,at_+1+2+z,u',l++[⟨2,0,eM ((q.drop (at_+1+2)).take z)⟩],rfl,by omega,by simp;omega,by omega,?_,?_⟩,by dsimp only;omega⟩
        ·rw[ia,B5,List.drop_drop,List.drop_drop];rfl
        ·rw[show (l++[(⟨2,0,eM ((q.drop (at_+1+2)).take z)⟩:dH)]).length=l.length+1 by simp,show ((l++[(⟨2,0,eM ((q.drop (at_+1+2)).take z)⟩:dH)]).map ep).flatten=(l.map ep).flatten++ep ⟨2,0,eM ((q.drop (at_+1+2)).take z)⟩ by simp]
         exact aR hS
    ·rw[UR (by omega) (by omega)]at ia
     exact hE ia (aR hS)
 ·have vW:m-i=0:=by omega
  rw[vW,MC,List.length_drop]at ia
  refine zH hS Xh hq ?_
  refine bR (λh5=>?_) (λh5=>?_)
  ·rw[if_pos (by omega)]at ia
   exact hE ia (aR hS)
  ·rw[if_neg (by omega)]at ia
   refine⟨[.ob (a7 v6 174 3 l.length (l.map ep).flatten),X],?_,aR hS⟩
   unfold nk
   rw[ia]
   exact⟨v6,rfl,rfl⟩
abbrev jd(u:Value)(L:List dH):Chunk:=.ob (a7 u 174 3 L.length (L.map ep).flatten)
theorem Vt(L:List dH):∀v∈(L.map ep).flatten,v.oneCell'=true:=m_ MY L
theorem yB{W w:World}{l F:List Chunk}{x y:Value}{L M:List dH}{K:Value->World->Prop}(hS:SL W l w)(hr:gB (jd x L) l F)(g7:jy w 3 y M.length (M.map ep).flatten)(hb:L.length+M.length<=1000000)
  (h:∀v' w',SL W (jd v' (L++M)::F) w'->K v' w'):zt 3 32 [.int .i64 0,.int .i64 0,.string ⟨#[]⟩] 174 x y w K:=
 zx hS hr g7 (jF rK M) rfl (Vt M) (by omega) (by omega) λv' w' hS=>h v' w' (by
  have e:((L++M).map ep).flatten=(L.map ep).flatten++(M.map ep).flatten:=by simp
  show SL W (.ob (a7 v' 174 3 (L++M).length ((L++M).map ep).flatten)::F) w'
  rw[e,List.length_append];exact hS)
theorem AQ{W w:World}{l:List Chunk}{b:Nat}{x:dH}(hS:SL W l w)(m:Has (.pt b (ep x) 174) l):jy w 3 (.slice (some ⟨b,0,none⟩) 1 1) [x].length ([x].map ep).flatten:=by
 simpa using iP (m:=1) (sz:=3) (cap:=1) hS m rfl
section
variable (b:Nat) (x1 x2 x3 x4 x5 x6 x7:Int) (t:TypeId)
theorem X5:SP 225 [.slice (some ⟨b,0,none⟩) 1 1] [.pt b [.int .i64 x1] t] (λu post=>post=[jd u [iF x1]]):=Zu b [x1] t (by simp)
theorem X7:SP 225 [.slice (some ⟨b,0,none⟩) 4 4] [.pt b [.int .i64 x1,.int .i64 x2,.int .i64 x3,.int .i64 x4] t] (λu post=>post=[jd u [iF x1,iF x2,iF x3,iF x4]]):=Zu b [x1,x2,x3,x4] t (by simp)
end
theorem Vy{α β:Type}{f:α->List β}{n:Nat}(hn:∀x,(f x).length=n)(xs:List α):((xs.map f).flatten).length=xs.length*n:=by
 induction xs with
 | nil=>simp
 | cons x xs ih=>simp[hn,ih,Nat.add_mul];omega
theorem qU(on:Bool):SP 302 [.bool on] [] (dj (agg (ep (iF (nt on)))) []):=by
 intro W F w hS;apply bWs;delta Kr ai c_;(try simp only[app]at hS)
 refine Gm λb w hS=>?_
 cases on with
 | true=>
  refine zw ?_
  refine Cg (zL 1) λw hS=>?_
  (exact dq hS)
 | false=>
  refine zq ?_
  refine Cg (zL 0) λw hS=>?_
  (exact dq hS)
section
variable (a b c d e f g:dH)
abbrev zF:List Value:=[.int .i64 0,.int .i64 0,.string ⟨#[]⟩]
theorem Nj:iw (db zF 2) [(0,3,agg (ep a)),(3,3,agg (ep b))]=some ([a,b].map ep).flatten:=by simp[iw,db,Value.cells,ep]
theorem Nk:iw (db zF 4) [(0,3,agg (ep a)),(3,3,agg (ep b)),(6,3,agg (ep c)),(9,3,agg (ep d))]=some ([a,b,c,d].map ep).flatten:=by simp[iw,db,Value.cells,ep]
end
def lZ(c:dW):List dH:=[iF c.table,iF c.key,iF (nt c.gone),tF c.val]
theorem Q2(c:dW):SP 249 [agg (gi c)] [] (λu post=>post=[jd u (lZ c)]):=by
 intro W F w hS;apply bRr;delta JS a_ cF ai c_;(try simp only[app]at hS)
 refine zK hS λcb w hS=>?_
 unfold gi at hS
 refine Gn λw hS=>?_
 refine Cg (zL c.table) λw hS=>?_
 refine Cg (zL c.key) λw hS=>?_
 refine Cg (qU c.gone) λw hS=>?_
 refine Cg (y9 c.val) λw hS=>?_
 refine zy hS (Nk (iF c.table) (iF c.key) (iF (nt c.gone)) (tF c.val)) λb w hS=>?_
 have hS:=a7.full (n:=4) (sz:=3) rfl hS
 exact⟨_,rfl,SL.b6 (show SL W (jd _ (lZ c)::_) _ from hS) Xi⟩
def dv(m:Int)(r:cw):Int × cw:=match r.bad,r.l with
 | false,f::l=>if f.kind=1/\0<=f.n/\f.n<=m then (f.n,⟨l,false⟩) else (0,⟨f::l,true⟩)
 | _,l=>(0,⟨l,true⟩)
def o7(r:cw):Bool × cw:=(decide ((dv 1 r).1=1),(dv 1 r).2)
section
variable {α β γ:Type}
def fN(p:cw->α × cw):Prop:=∀r,r.bad=true->(p r).2.bad=true
structure iH(p q:cw->α × cw)(V:α->Prop):Prop where
 same:∀r,(q r).2.bad=false->p r=q r
 bad:∀r,(q r).2.bad=true->(p r).2.bad=true\/V (p r).1
def eU(p:cw->α × cw)(f:α->cw->β × cw)(r:cw):(α × β) × cw:=(((p r).1,(f (p r).1 (p r).2).1),(f (p r).1 (p r).2).2)
def kI(g:α->β)(p:cw->α × cw)(r:cw):β × cw:=(g (p r).1,(p r).2)
theorem fN.seq{p:cw->α × cw}{f:α->cw->β × cw}(hp:fN p)(hf:∀a,fN (f a)):fN (eU p f):=λr h=>hf _ _ (hp r h)
theorem fN.map{p:cw->α × cw}(g:α->β)(hp:fN p):fN (kI g p):=λr h=>hp r h
theorem iH.seq{p q:cw->α × cw}{f g:α->cw->β × cw}{V:α->Prop}{U:β->Prop}(h:iH p q V)(k:∀a,iH (f a) (g a) U)(hg:∀a,fN (g a))(hf:∀a,fN (f a)):iH (eU p f) (eU q g) λx=>V x.1\/U x.2:=by
 refine⟨λr hr=>?_,λr hr=>?_⟩
 ·have h1:(q r).2.bad=false:=by
   cases hb:(q r).2.bad with
   | false=>rfl
   | true=>have h2:(g (q r).1 (q r).2).2.bad=false:=hr;rw[hg _ _ hb]at h2;cases h2
  unfold eU
  rw[h.same r h1,(k _).same _ hr]
 ·cases h1:(q r).2.bad with
  | false=>
   have e:=h.same r h1
   have k7:(g (q r).1 (q r).2).2.bad=true:=hr
   rcases (k _).bad _ k7 with h2|h2
   ·left;unfold eU;rw[e];exact h2
   ·right;right;unfold eU;rw[e];exact h2
  | true=>
   rcases h.bad r h1 with h2|h2
   ·exact .inl (hf _ _ h2)
   ·exact .inr (.inl h2)
theorem iH.map{p q:cw->α × cw}{V:α->Prop}{U:β->Prop}(h:iH p q V)(g:α->β)(hv:∀x,V x->U (g x)):iH (kI g p) (kI g q) U:=
 ⟨λr hr=>by unfold kI;rw[h.same r hr],λr hr=>(h.bad r hr).imp id (hv _)⟩
theorem fN.many{p:cw->α × cw}(hp:fN p):∀i,fN (eE p i)
 | 0,r,h=>h
 | i+1,r,h=>by unfold eE;rw[if_pos h];exact h
theorem iH.many{p q:cw->α × cw}{V:α->Prop}(h:iH p q V)(hp:fN p)(hq:fN q):∀i,iH (eE p i) (eE q i) λl=>∃x∈l,V x
 | 0=>⟨λr _=>rfl,λr hr=>.inl hr⟩
 | i+1=>by
  have ih:=iH.many h hp hq i
  refine⟨λr hr=>?_,λr hr=>?_⟩
  ·unfold eE at hr ⊢
   cases hb:r.bad with
   | true=>simp[hb]at hr ⊢
   | false=>
    simp only[hb]at hr ⊢
    have hr:(eE q i (q r).2).2.bad=false:=hr
    have h1:(q r).2.bad=false:=by
     cases h1:(q r).2.bad with
     | false=>rfl
     | true=>rw[fN.many hq i _ h1]at hr;cases hr
    rw[h.same r h1,ih.same _ hr]
  ·unfold eE at hr ⊢
   cases hb:r.bad with
   | true=>left;simp[hb]
   | false=>
    simp only[hb]at hr ⊢
    have hr:(eE q i (q r).2).2.bad=true:=hr
    show (eE p i (p r).2).2.bad=true\/∃x∈(p r).1::(eE p i (p r).2).1,V x
    cases h1:(q r).2.bad with
    | false=>
     rw[h.same r h1]
     rcases ih.bad _ hr with h2|⟨x,h2,h3⟩
     ·exact .inl h2
     ·exact .inr ⟨x,.tail _ h2,h3⟩
    | true=>
     rcases h.bad r h1 with h2|h2
     ·exact .inl (fN.many hp i _ h2)
     ·exact .inr ⟨_,.head _,h2⟩
end
theorem Rk(k:Int){r:cw}(h:r.bad=true):(ld k r).2.bad=true:=by unfold ld;rw[h]
theorem Au:fN fR:=λr h=>Rk 1 h
theorem ma:fN eQ:=λr h=>Rk 2 h
theorem uX(m:Int):fN (ed m):=λr h=>by unfold ed;split;rfl;exact Au r h
theorem Mc:fN mL:=λr h=>uX 1 r h
theorem pz(m:Int):fN (dv m):=λr h=>by unfold dv;rw[h]
theorem Nn:fN o7:=λr h=>pz 1 r h
theorem FY(m:Int)(f:dH)(l:List dH):dv m ⟨f::l,false⟩=if f.kind=1/\0<=f.n/\f.n<=m then (f.n,⟨l,false⟩) else (0,⟨f::l,true⟩):=rfl
theorem PB(f:dH)(l:List dH):fR ⟨f::l,false⟩=if f.kind=1 then (f.n,⟨l,false⟩) else (0,⟨f::l,true⟩):=by
 unfold fR ld
 simp only
 split<;>rfl
theorem wa(m:Int):iH fR (dv m) λn=>¬(0<=n/\n<=m):=by
 refine⟨λr h=>?_,λr h=>?_⟩
 ·obtain⟨l,b⟩:=r
  cases b with
  | true=>cases h
  | false=>
   cases l with
   | nil=>cases h
   | cons f l=>
    rw[FY]at h ⊢
    rw[PB]
    split at h
    ·rename_i hc;rw[if_pos hc,if_pos hc.1]
    ·cases h
 ·obtain⟨l,b⟩:=r
  cases b with
  | true=>exact .inl rfl
  | false=>
   cases l with
   | nil=>exact .inl rfl
   | cons f l=>
    rw[FY]at h
    rw[PB]
    split at h
    ·cases h
    ·rename_i hc
     by_cases hk:f.kind=1
     ·right;rw[if_pos hk];exact λhh=>hc ⟨hk,hh⟩
     ·left;rw[if_neg hk]
theorem GZ(m k:Int)(hk:k<=m):iH (ed m) (dv k) λn=>¬(0<=n/\n<=k):=by
 have h0:=wa k
 have kF:∀r,(dv k r).2.bad=false->0<=(dv k r).1/\(dv k r).1<=k:=λr h=>by
  obtain⟨l,b⟩:=r
  unfold dv at h ⊢
  cases b<;>cases l<;>simp only at h ⊢
  ·cases h
  ·split at h
   ·rename_i hc;rw[if_pos hc];exact⟨hc.2.1,hc.2.2⟩
   ·cases h
  ·cases h
  ·cases h
 refine⟨λr h=>?_,λr h=>?_⟩
 ·have:=kF r h
  unfold ed
  rw[h0.same r h,if_neg (by omega)]
 ·unfold ed
  split
  ·exact .inl rfl
  ·exact h0.bad r h
theorem Ue:iH mL o7 λ_=>False:=by
 have h0:=GZ 1 1 (Int.le_refl _)
 refine⟨λr h=>?_,λr h=>?_⟩
 ·unfold mL o7;rw[h0.same r h]
 ·left
  rcases h0.bad r h with h1|h1
  ·exact h1
  ·show (ed 1 r).2.bad=true
   unfold ed at h1 ⊢
   split
   ·rfl
   ·rename_i hc
    rw[if_neg hc]at h1
    exact absurd ⟨by omega,by omega⟩ h1
theorem Hb:iH eQ eQ λ_=>False:=⟨λr h=>rfl,λr h=>.inl h⟩
theorem AO(m:Int):iH (ed m) (dv m) λ_=>False:=by
 have h0:=GZ m m (Int.le_refl _)
 refine⟨h0.same,λr h=>?_⟩
 rcases h0.bad r h with h1|h1
 ·exact .inl h1
 ·left
  unfold ed at h1 ⊢
  split
  ·rfl
  ·rename_i hc
   rw[if_neg hc]at h1
   exact absurd ⟨by omega,by omega⟩ h1
theorem My{b:List UInt8}{l:List dH}(h:h_ b= .ok l):l.length<=32767:=by
 rw[xc]at h
 split at h
 ·have h1:=Ni (gf 32767 ⟨b,0⟩).1 (gf 32767 ⟨b,0⟩).2
  have h2:=Rf 32767 ⟨b,0⟩
  cases h;omega
 ·cases h
theorem CQ{m:Int}(hm:0<=m)(r:cw):0<=(ed m r).1/\(ed m r).1<=m:=by
 unfold ed
 split
 ·exact⟨Int.le_refl _,hm⟩
 ·omega
theorem Ci{m:Int}(hm:0<=m)(r:cw):0<=(dv m r).1/\(dv m r).1<=m:=by
 obtain⟨l,b⟩:=r
 unfold dv
 cases b with
 | true=>exact⟨Int.le_refl _,hm⟩
 | false=>
  cases l with
  | nil=>exact⟨Int.le_refl _,hm⟩
  | cons f l=>
   simp only
   split
   ·rename_i h;exact⟨h.2.1,h.2.2⟩
   ·exact⟨Int.le_refl _,hm⟩
theorem ai1{α:Type}(one:cw->α × cw){i:Nat}{r:cw}(h:i=0\/r.bad=true):eE one i r=([],r):=by
 cases i with
 | zero=>rfl
 | succ i=>unfold eE;rw[if_pos (by rcases h with h|h;cases h;exact h)]
theorem ai0{α:Type}(one:cw->α × cw){i:Nat}{r:cw}(h:r.bad=false):eE one (i+1) r=((one r).1::(eE one i (one r).2).1,(eE one i (one r).2).2):=by
 conv=>lhs;unfold eE
 rw[if_neg (by rw[h];decide)]
structure kf{α:Type}(one:cw->α × cw)(n:Nat)(r0:cw)(xs:List α)(k:Nat)(r:cw):Prop where
 eq:eE one n r0=(xs++(eE one k r).1,(eE one k r).2)
 le:xs.length+k<=n
theorem kf.start{α:Type}(one:cw->α × cw)(n:Nat)(r:cw):kf one n r [] n r:=⟨rfl,by simp⟩
theorem kf.step{α:Type}{one:cw->α × cw}{n:Nat}{r0:cw}{xs:List α}{k:Nat}{r:cw}(h:kf one n r0 xs (k+1) r)(hb:r.bad=false):kf one n r0 (xs++[(one r).1]) k (one r).2:=
 ⟨by rw[h.eq,ai0 one hb];simp,by have:=h.le;rw[List.length_append,List.length_singleton];omega⟩
theorem kf.stop{α:Type}{one:cw->α × cw}{n:Nat}{r0:cw}{xs:List α}{k:Nat}{r:cw}(h:kf one n r0 xs k r)(hb:k=0\/r.bad=true):eE one n r0=(xs,r):=by
 rw[h.eq,ai1 one hb,List.append_nil]
theorem Bl{b:List UInt8}{e:Int}(h:h_ b= .error e):e≠0:=by
 rw[xc]at h
 split at h
 ·cases h
 ·rename_i h2;cases h;exact h2
def HE(rp:Nat)(v:Value)(L:List dH)(k:Nat)(bad:Bool):List Chunk:=[.pt rp [v,.int .i64 k,.bool bad] 339,jd v L]
def fU(rp:Nat)(r:cw):zC:=jQ λx:Value × List dH × Nat=>zP (x.2.2<=x.2.1.length/\x.2.1.length<=32767/\r.l=x.2.1.drop x.2.2) (HE rp x.1 x.2.1 x.2.2 r.bad)
theorem fU.iff{W w:World}{rp:Nat}{r:cw}{l:List Chunk}:SL W (.ob (fU rp r)::l) w↔∃(v:Value) (L:List dH) (k:Nat),(k<=L.length/\L.length<=32767/\r.l=L.drop k)/\SL W (.pt rp [v,.int .i64 k,.bool r.bad] 339::jd v L::l) w:=by
 unfold fU HE
 simp only[SL.ex,SL.fact,List.cons_append,List.nil_append]
 exact⟨λ⟨x,h1,h2⟩=>⟨x.1,x.2.1,x.2.2,h1,h2⟩,λ⟨a,b,c,h1,h2⟩=>⟨(a,b,c),h1,h2⟩⟩
theorem drop_nil{α:Type}{L:List α}{k:Nat}(h:k<=L.length):L.drop k=[]↔k=L.length:=by
 rw[List.drop_eq_nil_iff];omega
theorem zN(rp:Nat)(r:cw)(m:Int):SP 244 [.pointer (some ⟨rp,0,none⟩),.int .i64 m] [.ob (fU rp r)] (dj (.int .i64 (dv m r).1) [.ob (fU rp (dv m r).2)]):=by
 obtain⟨l,bad⟩:=r
 intro W F w hS;apply bRm;delta JN aF bw a_ dx ai;(try simp only[app]at hS)
 obtain⟨v,L,k,⟨hk,hL,hl⟩,hS⟩:=fU.iff.1 hS
 have hl:l=L.drop k:=hl
 subst hl
 simp only at hS
 have dK:∀{w:World},dv m ⟨L.drop k,bad⟩=(0,⟨L.drop k,true⟩)->SL W (.pt rp [v,.int .i64 k,.bool true] 339::jd v L::F) w->∃post,dj (.int .i64 (dv m ⟨L.drop k,bad⟩).1) [.ob (fU rp (dv m ⟨L.drop k,bad⟩).2)] (.int .i64 0) post/\SL W (app post F) w:=λe hS=>by
  rw[e];exact⟨_,⟨rfl,rfl⟩,fU.iff.2 ⟨v,L,k,⟨hk,hL,rfl⟩,hS⟩⟩
 refine Gn λw hS=>?_
 cases bad with
 | true=>
  refine zw ?_
  refine Gn λw hS=>?_
  exact dK rfl hS
 | false=>
  refine zq ?_
  refine Gp ?_
  refine zr hS (v:=v) Xh ?_
  refine bR (λh=>?_) (λh=>?_)
  ·refine Gn λw hS=>?_
   exact dK (by rw[List.drop_eq_nil_of_le (by omega)];rfl) hS
  ·have iM:k<L.length:=by omega
   have hx:L[k]?=some L[k]:=List.getElem?_eq_getElem iM
   have hc:L.drop k=L[k]::L.drop (k+1):=List.drop_eq_getElem_cons iM
   have hI:∀bad,dv m ⟨L.drop k,bad⟩=match bad with|true=>(0,⟨L.drop k,true⟩)|false=>if L[k].kind=1/\0<=L[k].n/\L[k].n<=m then (L[k].n,⟨L.drop (k+1),false⟩) else (0,⟨L.drop k,true⟩):=λbad=>by
    cases bad with
    | true=>rfl
    | false=>rw[hc];exact FY m _ _
   have hI:=hI false
   simp only at hI
   refine Gp ?_
   refine zD (i:=0) hS (v:=v) Xh rK hx iM rfl ?_
   refine bR (λh1=>?_) (λh1=>?_)
   ·refine Gn λw hS=>?_
    exact dK (by rw[hI,if_neg λh=>h1 h.1]) hS
   refine Gp ?_
   refine zD (i:=1) hS (v:=v) Xh rK hx iM rfl ?_
   refine bR (λh2=>?_) (λh2=>?_)
   ·refine Gn λw hS=>?_
    exact dK (by rw[hI,if_neg λh=>by omega]) hS
   refine Gp ?_
   refine zD (i:=1) hS (v:=v) Xh rK hx iM rfl ?_
   refine bR (λh3=>?_) (λh3=>?_)
   ·refine Gn λw hS=>?_
    exact dK (by rw[hI,if_neg λh=>by omega]) hS
   refine Gn λw hS=>?_
   rw[show ((k+1:Nat):Int)-1=(k:Int) by omega]
   refine zD (i:=1) hS (v:=v) Xh rK hx iM rfl ?_
   rw[hI,if_pos ⟨Classical.not_not.1 h1,by omega,by omega⟩]
   exact⟨_,⟨rfl,rfl⟩,fU.iff.2 ⟨v,L,k+1,⟨iM,hL,rfl⟩,aR hS⟩⟩
theorem qg(rp:Nat)(r:cw):SP 301 [.pointer (some ⟨rp,0,none⟩)] [.ob (fU rp r)] (dj (.bool (o7 r).1) [.ob (fU rp (o7 r).2)]):=by
 intro W F w hS;apply bWr;delta Kq ai;(try simp only[app]at hS)
 refine Cg (zN rp r 1) λw hS=>?_
 exact⟨_,⟨rfl,rfl⟩,hS⟩
theorem yY(rp:Nat)(r:cw):SP 245 [.pointer (some ⟨rp,0,none⟩)] [.ob (fU rp r)] (dj (.string (eQ r).1) [.ob (fU rp (eQ r).2)]):=by
 obtain⟨l,bad⟩:=r
 intro W F w hS;apply bRn;delta JO aF bw a_ dx ai;(try simp only[app]at hS)
 obtain⟨v,L,k,⟨hk,hL,hl⟩,hS⟩:=fU.iff.1 hS
 have hl:l=L.drop k:=hl
 subst hl
 simp only at hS
 have dK:∀{w:World},ld 2 ⟨L.drop k,bad⟩=(pS,⟨L.drop k,true⟩)->SL W (.pt rp [v,.int .i64 k,.bool true] 339::jd v L::F) w->∃post,dj (.string (eQ ⟨L.drop k,bad⟩).1) [.ob (fU rp (eQ ⟨L.drop k,bad⟩).2)] (.string ⟨#[]⟩) post/\SL W (app post F) w:=λe hS=>by
  unfold eQ
  rw[e];exact⟨_,⟨rfl,rfl⟩,fU.iff.2 ⟨v,L,k,⟨hk,hL,rfl⟩,hS⟩⟩
 refine Gn λw hS=>?_
 cases bad with
 | true=>
  refine zw ?_
  refine Gn λw hS=>?_
  exact dK rfl hS
 | false=>
  refine zq ?_
  refine Gp ?_
  refine zr hS (v:=v) Xh ?_
  refine bR (λh=>?_) (λh=>?_)
  ·refine Gn λw hS=>?_
   exact dK (by rw[List.drop_eq_nil_of_le (by omega)];rfl) hS
  ·have iM:k<L.length:=by omega
   have hx:L[k]?=some L[k]:=List.getElem?_eq_getElem iM
   have hc:L.drop k=L[k]::L.drop (k+1):=List.drop_eq_getElem_cons iM
   have hI:ld 2 ⟨L.drop k,false⟩=if L[k].kind=2 then (L[k],⟨L.drop (k+1),false⟩) else (pS,⟨L.drop k,true⟩):=by rw[hc];rfl
   refine Gp ?_
   refine zD (i:=0) hS (v:=v) Xh rK hx iM rfl ?_
   refine bR (λh1=>?_) (λh1=>?_)
   ·refine Gn λw hS=>?_
    exact dK (by rw[hI,if_neg λh=>h1 h]) hS
   refine Gn λw hS=>?_
   rw[show ((k+1:Nat):Int)-1=(k:Int) by omega]
   refine zD (i:=2) hS (v:=v) Xh rK hx iM rfl ?_
   unfold eQ
   rw[hI,if_pos (Classical.not_not.1 h1)]
   exact⟨_,⟨rfl,rfl⟩,fU.iff.2 ⟨v,L,k+1,⟨iM,hL,rfl⟩,aR hS⟩⟩
theorem Ys(rp:Nat)(r:cw):SP 246 [.pointer (some ⟨rp,0,none⟩)] [.ob (fU rp r)] (dj (.bool (decide (r.bad=false/\r.l=[]))) [.ob (fU rp r)]):=by
 obtain⟨l,bad⟩:=r
 intro W F w hS;apply bRo;delta JP bw dc b7;(try simp only[app]at hS)
 obtain⟨v,L,k,⟨hk,hL,hl⟩,hS⟩:=fU.iff.1 hS
 simp only at hl
 refine Gn λw hS=>?_
 cases bad with
 | true=>
  refine zq ?_
  rw[decide_eq_false (by simp)]
  exact⟨_,⟨rfl,rfl⟩,fU.iff.2 ⟨v,L,k,⟨hk,hL,hl⟩,aR hS⟩⟩
 | false=>
  refine zw ?_
  refine Gp ?_
  refine zr hS (v:=v) Xh ?_
  refine Gp ?_
  have e:decide ((k:Int)=(L.length:Int))=decide ((cw.mk l false).bad=false/\(cw.mk l false).l=[]):=by
   rw[decide_eq_decide]
   simp only[true_and]
   rw[hl,drop_nil hk];omega
  rw[e]
  exact⟨_,⟨rfl,rfl⟩,fU.iff.2 ⟨v,L,k,⟨hk,hL,hl⟩,aR hS⟩⟩
def jr(r:cw):dW × cw:=
 let b:=dv 7 r;let c:=dv 1099511627776 b.2;let d:=o7 c.2;let e:=eQ d.2
 (⟨b.1,c.1,d.1,e.1⟩,e.2)
theorem Q3(rp:Nat)(r:cw):SP 247 [.pointer (some ⟨rp,0,none⟩)] [.ob (fU rp r)] (dj (agg (gi (jr r).1)) [.ob (fU rp (jr r).2)]):=by
 intro W F w hS;apply bRp;delta JQ ai c_;(try simp only[app]at hS)
 refine Gm λb w hS=>?_
 refine Cg (zN rp r 7) λw hS=>?_;refine Gm λb w hS=>?_
 refine Cg (zN rp _ 1099511627776) λw hS=>?_
 refine Cg (qg rp _) λw hS=>?_
 refine Cg (yY rp _) λw hS=>?_
 simp only[jr]
 exact dq hS
theorem fU.Bg{W w:World}{rp:Nat}{r:cw}{l:List Chunk}(h:SL W (.ob (fU rp r)::l) w){K:Value->Prop}(hK:K (.bool r.bad)):cR (.pointer (some ⟨rp,2,none⟩)) w K:=by
 obtain⟨v,L,k,_,hS⟩:=fU.iff.1 h
 exact zX hS .hd rfl hK
def eH(t:cW):Bool:=decide (1<=t.aI/\t.aI<=1099511627776) &&
 (if t.kind=1 then decide (t.mark=0/\t.changes.length<=16/\t.signals.length<=2) && t.changes.all (λc=>ib c 8) && t.signals.all (λs=>decide (s.size<=40))
  else decide ((t.kind=2\/t.kind=3)/\1<=t.mark/\t.mark<=1099511627776/\t.changes=[]/\t.signals=[]))
theorem td{c:dW}{k:Int}:ib c k=true↔0<=c.table/\c.table<k/\1<=c.key/\c.key<=1099511627776/\c.val.size<=32/\(c.gone=true->c.val=emp):=by unfold ib;rw[decide_eq_true_eq]
theorem ri{t:cW}:eH t=true↔(1<=t.aI/\t.aI<=1099511627776) /\
  ((t.kind=1/\t.mark=0/\t.changes.length<=16/\t.signals.length<=2/\(∀c∈t.changes,ib c 8=true)/\∀s∈t.signals,s.size<=40) \/
   ((t.kind=2\/t.kind=3)/\1<=t.mark/\t.mark<=1099511627776/\t.changes=[]/\t.signals=[])):=by
 unfold eH
 rw[Bool.and_eq_true,decide_eq_true_eq]
 refine and_congr_right λ_=>?_
 split
 ·rename_i hk
  rw[Bool.and_eq_true,Bool.and_eq_true,decide_eq_true_eq,List.all_eq_true,List.all_eq_true]
  constructor
  ·rintro ⟨⟨⟨h1,h2,h3⟩,h4⟩,h5⟩
   exact .inl ⟨hk,h1,h2,h3,h4,λs hs=>of_decide_eq_true (h5 s hs)⟩
  ·rintro (⟨_,h1,h2,h3,h4,h5⟩|⟨h,_⟩)
   ·exact⟨⟨⟨h1,h2,h3⟩,h4⟩,λs hs=>decide_eq_true (h5 s hs)⟩
   ·omega
 ·rename_i hk
  rw[decide_eq_true_eq]
  constructor
  ·exact λh=>.inr h
  ·rintro (⟨h,_⟩|h)
   ·exact absurd h hk
   ·exact h
theorem kJ{t:cW}(h:eH t=true):(1<=t.aI/\t.aI<=1099511627776)/\(1<=t.kind/\t.kind<=3)/\(0<=t.mark/\t.mark<=1099511627776)/\t.changes.length<=16/\t.signals.length<=2/\(∀c∈t.changes,ib c 8=true)/\∀s∈t.signals,s.size<=40:=by
 obtain⟨h1,h2⟩:=ri.1 h
 rcases h2 with ⟨k,m,a,b,c,d⟩|⟨k,m1,m2,a,b⟩
 ·exact⟨h1,by omega,by omega,a,b,c,d⟩
 ·rw[a,b];exact⟨h1,by omega,by omega,by simp,by simp,by simp,by simp⟩
def jt(t:cW):List dH:=[iF t.aI,iF t.kind,iF t.mark,iF t.changes.length]++(t.changes.map lZ).flatten++([iF t.signals.length]++t.signals.map tF)
def pR(t:cW):Except Int (List UInt8):=if eH t=true then lC (jt t) else .error 1
theorem Vs(t:cW):(jt t).length=5+t.changes.length*4+t.signals.length:=by
 unfold jt
 simp only[List.length_append,List.length_cons,List.length_nil,List.length_map]
 rw[By (f:=lZ) (k:=4) (λ_=>rfl)]
 omega
theorem Vr{t:cW}(h:eH t=true):∀f∈jt t,uO f:=by
 obtain⟨h1,h2,h3,h4,h5,h6,h7⟩:=kJ h
 intro f hf
 unfold jt at hf
 simp only[List.mem_append,List.mem_cons,List.mem_flatten,List.mem_map,List.not_mem_nil,or_false]at hf
 rcases hf with ((rfl|rfl|rfl|rfl)|⟨l,⟨c,hc,rfl⟩,hf⟩)|rfl|⟨s,hs,rfl⟩
 ·exact oz (by omega)
 ·exact oz (by omega)
 ·exact oz (by omega)
 ·exact oz (by omega)
 ·have h8:=td.1 (h6 c hc)
  have hb:=Mb c.gone
  unfold lZ at hf
  simp only[List.mem_cons,List.not_mem_nil,or_false]at hf
  rcases hf with rfl|rfl|rfl|rfl
  ·exact oz (by omega)
  ·exact oz (by omega)
  ·exact oz (by omega)
  ·exact .inr ⟨rfl,rfl,by show c.val.size<=4096;omega⟩
 ·exact oz (by omega)
 ·have:=h7 s hs
  exact .inr ⟨rfl,rfl,by show s.size<=4096;omega⟩
theorem M7{t:cW}(h:eH t=true):pR t= .ok (dS (jt t).length 2++((jt t).map eT).flatten)/\h_ (dS (jt t).length 2++((jt t).map eT).flatten)= .ok (jt t):=by
 have hl:=Vs t
 obtain⟨_,_,_,h4,h5,_,_⟩:=kJ h
 obtain⟨e1,e2⟩:=Mw (l:=jt t) (by omega) (Vr h)
 exact⟨by unfold pR;rw[if_pos h,e1],e2⟩
def eS{α:Type}(one:cw->α × cw):Nat->cw->List α × cw
 | 0,r=>([],r)
 | i+1,r=>((one r).1::(eS one i (one r).2).1,(eS one i (one r).2).2)
theorem fN.eS{α:Type}{p:cw->α × cw}(hp:fN p):∀i,fN (eS p i)
 | 0,r,h=>h
 | i+1,r,h=>fN.eS hp i _ (hp r h)
theorem iH.eS{α:Type}{p q:cw->α × cw}{V:α->Prop}(h:iH p q V)(hp:fN p)(hq:fN q):∀i,iH (eS p i) (eE q i) λl=>∃x∈l,V x
 | 0=>⟨λr _=>rfl,λr hr=>.inl hr⟩
 | i+1=>by
  have ih:=iH.eS h hp hq i
  refine⟨λr hr=>?_,λr hr=>?_⟩
  ·unfold YtfenmffiidchcaaGreat.eS eE
   unfold eE at hr
   cases hb:r.bad with
   | true=>simp[hb]at hr
   | false=>
    simp only[hb]at hr ⊢
    have hr:(eE q i (q r).2).2.bad=false:=hr
    have h1:(q r).2.bad=false:=by
     cases h1:(q r).2.bad with
     | false=>rfl
     | true=>rw[fN.many hq i _ h1]at hr;cases hr
    rw[h.same r h1,ih.same _ hr];rfl
  ·cases hb:r.bad with
   | true=>exact .inl (fN.eS hp (i+1) r hb)
   | false=>
    unfold eE at hr
    simp only[hb]at hr
    have hr:(eE q i (q r).2).2.bad=true:=hr
    show (YtfenmffiidchcaaGreat.eS p i (p r).2).2.bad=true\/∃x∈(p r).1::(YtfenmffiidchcaaGreat.eS p i (p r).2).1,V x
    cases h1:(q r).2.bad with
    | false=>
     rw[h.same r h1]
     rcases ih.bad _ hr with h2|⟨x,h2,h3⟩
     ·exact .inl h2
     ·exact .inr ⟨x,.tail _ h2,h3⟩
    | true=>
     rcases h.bad r h1 with h2|h2
     ·exact .inl (fN.eS hp i _ h2)
     ·exact .inr ⟨_,.head _,h2⟩
def jC(r:cw):dW × cw:=
 let b:=ed 8 r;let c:=fR b.2;let d:=mL c.2;let e:=eQ d.2
 (⟨b.1,c.1,d.1,e.1⟩,e.2)
def AB(x:Int × Int × Bool × ByteArray):dW:=⟨x.1,x.2.1,x.2.2.1,x.2.2.2⟩
theorem Mm:jC=kI AB (eU (ed 8) λ_=>eU fR λ_=>eU mL λ_=>eQ):=by funext r;simp only[jC,kI,eU,AB]
theorem Mn:jr=kI AB (eU (dv 7) λ_=>eU (dv 1099511627776) λ_=>eU o7 λ_=>eQ):=by funext r;simp only[jr,kI,eU,AB]
theorem DN:fN jC:=by rw[Mm];exact ((uX 8).seq λ_=>Au.seq λ_=>Mc.seq λ_=>ma).map _
theorem DO:fN jr:=by rw[Mn];exact ((pz 7).seq λ_=>(pz _).seq λ_=>Nn.seq λ_=>ma).map _
def A'(c:dW):Prop:=¬(0<=c.table/\c.table<=7)\/¬(0<=c.key/\c.key<=1099511627776)
theorem Uv:iH jC jr A':=by
 rw[Mm,Mn]
 have a4:=Ue.seq (f:=λ_=>eQ) (g:=λ_=>eQ) (λ_=>Hb) (λ_=>ma) (λ_=>ma)
 have PY:fN (eU mL λ_=>eQ):=Mc.seq λ_=>ma
 have PZ:fN (eU o7 λ_=>eQ):=Nn.seq λ_=>ma
 have a3:=(wa 1099511627776).seq (f:=λ_=>eU mL λ_=>eQ) (g:=λ_=>eU o7 λ_=>eQ) (λ_=>a4) (λ_=>PZ) (λ_=>PY)
 have m3p:fN (eU fR λ_=>eU mL λ_=>eQ):=Au.seq λ_=>PY
 have m3q:fN (eU (dv 1099511627776) λ_=>eU o7 λ_=>eQ):=(pz _).seq λ_=>PZ
 have a2:=(GZ 8 7 (by decide)).seq (f:=λ_=>eU fR λ_=>eU mL λ_=>eQ) (g:=λ_=>eU (dv 1099511627776) λ_=>eU o7 λ_=>eQ) (λ_=>a3) (λ_=>m3q) (λ_=>m3p)
 refine a2.map AB λx h=>?_
 rcases h with h|h|h|h
 ·exact .inl h
 ·exact .inr h
 ·exact h.elim
 ·exact h.elim
def Cy(x:Int × Int × Int × (Int × List dW) × (Int × List ByteArray)):cW:=⟨x.1,x.2.1,x.2.2.2.1.2,x.2.2.2.2.2,x.2.2.1⟩
def fF{α:Type}(i:cw->Int × cw)(m:Nat->cw->List α × cw):cw->(Int × List α) × cw:=eU i λn=>m n.toNat
def jN:cw->cW × cw:=kI Cy (eU fR λ_=>eU (ed 3) λ_=>eU fR λ_=>eU (fF (ed 16) (eS jC)) λ_=>fF (ed 2) (eS eQ))
def kN:cw->cW × cw:=kI Cy (eU (dv 1099511627776) λ_=>eU (dv 3) λ_=>eU (dv 1099511627776) λ_=>eU (fF (dv 16) (eE jr)) λ_=>fF (dv 2) (eE eQ))
def HN(t:cW):Prop:=¬(0<=t.aI/\t.aI<=1099511627776)\/¬(0<=t.mark/\t.mark<=1099511627776)\/∃c∈t.changes,A' c
theorem SY:iH jN kN HN:=by
 unfold jN kN
 have c1:iH (fF (ed 16) (eS jC)) (fF (dv 16) (eE jr)) λx=>False\/∃o∈x.2,A' o:=(AO 16).seq (λn=>Uv.eS DN DO n.toNat) (λn=>DO.many _) (λn=>DN.eS _)
 have s1:iH (fF (ed 2) (eS eQ)) (fF (dv 2) (eE eQ)) λx=>False\/∃o∈x.2,False:=(AO 2).seq (λn=>Hb.eS ma ma n.toNat) (λn=>ma.many _) (λn=>ma.eS _)
 have mc:fN (fF (ed 16) (eS jC)):=(uX _).seq λn=>DN.eS _
 have F5:fN (fF (dv 16) (eE jr)):=(pz _).seq λn=>DO.many _
 have ms:fN (fF (ed 2) (eS eQ)):=(uX _).seq λn=>ma.eS _
 have Rg:fN (fF (dv 2) (eE eQ)):=(pz _).seq λn=>ma.many _
 have a4:=c1.seq (f:=λ_=>fF (ed 2) (eS eQ)) (g:=λ_=>fF (dv 2) (eE eQ)) (λ_=>s1) (λ_=>Rg) (λ_=>ms)
 have p4:=mc.seq (f:=λ_=>fF (ed 2) (eS eQ)) λ_=>ms
 have q4:=F5.seq (f:=λ_=>fF (dv 2) (eE eQ)) λ_=>Rg
 have a3:=(wa 1099511627776).seq (f:=λ_=>eU (fF (ed 16) (eS jC)) λ_=>fF (ed 2) (eS eQ)) (g:=λ_=>eU (fF (dv 16) (eE jr)) λ_=>fF (dv 2) (eE eQ)) (λ_=>a4) (λ_=>q4) (λ_=>p4)
 have p3:=Au.seq (f:=λ_=>eU (fF (ed 16) (eS jC)) λ_=>fF (ed 2) (eS eQ)) λ_=>p4
 have q3:=(pz 1099511627776).seq (f:=λ_=>eU (fF (dv 16) (eE jr)) λ_=>fF (dv 2) (eE eQ)) λ_=>q4
 have a2:=(AO 3).seq (f:=λ_=>eU fR λ_=>eU (fF (ed 16) (eS jC)) λ_=>fF (ed 2) (eS eQ)) (g:=λ_=>eU (dv 1099511627776) λ_=>eU (fF (dv 16) (eE jr)) λ_=>fF (dv 2) (eE eQ)) (λ_=>a3) (λ_=>q3) (λ_=>p3)
 have p2:=(uX 3).seq (f:=λ_=>eU fR λ_=>eU (fF (ed 16) (eS jC)) λ_=>fF (ed 2) (eS eQ)) λ_=>p3
 have q2:=(pz 3).seq (f:=λ_=>eU (dv 1099511627776) λ_=>eU (fF (dv 16) (eE jr)) λ_=>fF (dv 2) (eE eQ)) λ_=>q3
 have a1:=(wa 1099511627776).seq (f:=λ_=>eU (ed 3) λ_=>eU fR λ_=>eU (fF (ed 16) (eS jC)) λ_=>fF (ed 2) (eS eQ)) (g:=λ_=>eU (dv 3) λ_=>eU (dv 1099511627776) λ_=>eU (fF (dv 16) (eE jr)) λ_=>fF (dv 2) (eE eQ)) (λ_=>a2) (λ_=>q2) (λ_=>p2)
 refine a1.map Cy λx h=>?_
 rcases h with h|h|h|(h|h)|(h|⟨_,_,h⟩)
 ·exact .inl h
 ·exact h.elim
 ·exact .inr (.inl h)
 ·exact h.elim
 ·exact .inr (.inr h)
 ·exact h.elim
 ·exact h.elim
theorem ai6{t:cW}(h:eH t=true):¬HN t:=by
 obtain⟨h1,h2,h3,h4,h5,h6,h7⟩:=kJ h
 rintro (hv|hv|⟨c,hc,hv⟩)
 ·omega
 ·omega
 ·have:=td.1 (h6 c hc)
  unfold A' at hv
  omega
def sN(l:List dH):Option cW:=
 let x:=jN ⟨l,false⟩
 if x.2.bad=false/\x.2.l=[]/\eH x.1=true then some x.1 else none
def Bn(l:List dH):Option cW:=
 let x:=kN ⟨l,false⟩
 if x.2.bad=false/\x.2.l=[]/\eH x.1=true then some x.1 else none
theorem ME(l:List dH):Bn l=sN l:=by
 unfold Bn sN
 simp only
 cases hb:(kN ⟨l,false⟩).2.bad with
 | false=>rw[SY.same _ hb,hb]
 | true=>
  rw[if_neg (by simp),if_neg]
  rintro ⟨h1,_,h3⟩
  rcases SY.bad _ hb with h|h
  ·rw[h]at h1;cases h1
  ·exact ai6 h3 h
def iU(b:List UInt8):Except Int cW:=match h_ b with
 | .error e=>.error e
 | .ok l=>match sN l with
  | some t=>.ok t
  | none=>.error 3
theorem Cr{α:Type}{one:cw->α × cw}{f:α->List dH}:∀(xs:List α) (l:List dH),(∀x∈xs,∀l,one ⟨f x++l,false⟩=(x,⟨l,false⟩))->eS one xs.length ⟨(xs.map f).flatten++l,false⟩=(xs,⟨l,false⟩)
 | [],l,_=>rfl
 | x::xs,l,h=>by
  have ih:=Cr xs l λy hy=>h y (.tail _ hy)
  have h1:=h x (.head _) ((xs.map f).flatten++l)
  rw[List.map_cons,List.flatten_cons,List.append_assoc,List.length_cons,eS,h1,ih]
theorem Uu{c:dW}{l:List dH}(h:0<=c.table/\c.table<=8):jC ⟨lZ c++l,false⟩=(c,⟨l,false⟩):=by
 unfold jC lZ
 have e2:ed 8 ⟨[iF c.table,iF c.key,iF (nt c.gone),tF c.val]++l,false⟩=(c.table,⟨[iF c.key,iF (nt c.gone),tF c.val]++l,false⟩):=uY h
 have e3:fR ⟨[iF c.key,iF (nt c.gone),tF c.val]++l,false⟩=(c.key,⟨[iF (nt c.gone),tF c.val]++l,false⟩):=rfl
 have e4:mL ⟨[iF (nt c.gone),tF c.val]++l,false⟩=(c.gone,⟨[tF c.val]++l,false⟩):=Uf
 have e5:eQ ⟨[tF c.val]++l,false⟩=(c.val,⟨l,false⟩):=rfl
 simp only[e2,e3,e4,e5]
theorem a_v{t:cW}(h:eH t=true):jN ⟨jt t,false⟩=(t,⟨[],false⟩):=by
 obtain⟨h1,h2,h3,h4,h5,h6,h7⟩:=kJ h
 have e0:jt t=iF t.aI::(iF t.kind::(iF t.mark::(iF t.changes.length::((t.changes.map lZ).flatten++(iF t.signals.length::((t.signals.map λs=>[tF s]).flatten++[])))))):=by
  unfold jt
  have:∀l:List ByteArray,l.map tF=(l.map λs=>[tF s]).flatten:=λl=>by induction l with
   | nil=>rfl
   | cons x l ih=>rw[List.map_cons,List.map_cons,List.flatten_cons,ih];rfl
  rw[this];simp
 rw[e0]
 have e1:∀n l,fR ⟨iF n::l,false⟩=(n,⟨l,false⟩):=λn l=>rfl
 have e2:∀l,ed 3 ⟨iF t.kind::l,false⟩=(t.kind,⟨l,false⟩):=λl=>uY (by omega)
 have e3:∀l,ed 16 ⟨iF t.changes.length::l,false⟩=((t.changes.length:Int),⟨l,false⟩):=λl=>uY (by omega)
 have e4:∀l,eS jC t.changes.length ⟨(t.changes.map lZ).flatten++l,false⟩=(t.changes,⟨l,false⟩):=λl=>Cr t.changes l λc hc l=>Uu (by have:=td.1 (h6 c hc);omega)
 have e5:∀l,ed 2 ⟨iF t.signals.length::l,false⟩=((t.signals.length:Int),⟨l,false⟩):=λl=>uY (by omega)
 have e6:∀l,eS eQ t.signals.length ⟨(t.signals.map λs=>[tF s]).flatten++l,false⟩=(t.signals,⟨l,false⟩):=λl=>Cr t.signals l λs hs l=>rfl
 unfold jN fF kI eU Cy
 simp only[e1,e2,e3,e4,e5,e6,Int.toNat_natCast]
theorem MH{t:cW}(h:eH t=true):∃b,pR t= .ok b/\iU b= .ok t:=by
 obtain⟨e1,e2⟩:=M7 h
 refine⟨_,e1,?_⟩
 unfold iU
 rw[e2]
 have e3:sN (jt t)=some t:=by
  unfold sN
  rw[a_v h]
  simp only
  rw[if_pos ⟨trivial,trivial,h⟩]
 simp only[e3]
theorem MG{b:List UInt8}{t:cW}(h:iU b= .ok t):eH t=true:=by
 unfold iU at h
 split at h
 ·cases h
 ·split at h
  ·rename_i x hx
   cases h
   unfold sN at hx
   simp only at hx
   split at hx
   ·rename_i hc;cases hx;exact hc.2.2
   ·cases hx
  ·cases h
def mj(t:cW):List UInt8:=match pR t with
 | .ok b=>b
 | .error _=>[]
theorem Mh{t:cW}(h:eH t=true):iU (mj t)= .ok t:=by
 obtain⟨b,e1,e2⟩:=MH h
 unfold mj
 rw[e1];exact e2
theorem Mi{t:cW}(h:eH t=true):pR t= .ok (mj t):=by
 obtain⟨b,e1,_⟩:=MH h
 unfold mj
 rw[e1]
theorem Bi{t:cW}(h:eH t=true):(mj t).length<=1200:=by
 obtain⟨h1,h2,h3,h4,h5,h6,h7⟩:=kJ h
 unfold mj
 rw[(M7 h).1]
 simp only
 rw[List.length_append,i_]
 unfold jt
 simp only[List.map_append,List.map_cons,List.map_nil,List.flatten_append,List.flatten_cons,List.flatten_nil,List.length_append,List.append_nil,xf]
 rw[D9,List.map_map,List.map_map]
 have hT:∀s:ByteArray,(eT (tF s)).length=3+s.size:=λs=>by
  show (fy 2::(dS (s.size:Nat) 2++s.data.toList)).length=_
  rw[List.length_cons,List.length_append,i_]
  have:s.data.toList.length=s.size:=rfl
  omega
 have k1:=ue (f:=(λx=>(x.map eT).flatten)∘lZ) (k:=62) t.changes λc hc=>by
  have:=(td.1 (h6 c hc)).2.2.2.2.1
  show (((lZ c).map eT).flatten).length<=62
  unfold lZ
  simp only[List.map_cons,List.map_nil,List.flatten_cons,List.flatten_nil,List.length_append,List.length_nil,xf,hT]
  omega
 have k2:=ue (f:=eT∘tF) (k:=43) t.signals λs hs=>by
  have:=h7 s hs
  show (eT (tF s)).length<=43
  rw[hT];omega
 omega
def AK(r:Row):Prop:=1<=r.key/\r.key<=1099511627776/\r.val.size<=32
instance (r:Row):Decidable (AK r):=by unfold AK;infer_instance
structure wZ(C:List Row):Prop where
 sorted:fZ C
 rows:∀r∈C,AK r
 len:C.length<=1000
def nO:Int->List Row->Bool
 | _,[]=>true
 | k,r::C=>decide (k<r.key/\r.key<=1099511627776/\r.val.size<=32) && nO r.key C
theorem R4:∀{C:List Row} {k:Int},nO k C=true↔(∀r∈C,k<r.key)/\fZ C/\∀r∈C,r.key<=1099511627776/\r.val.size<=32
 | [],k=>by simp[nO,fZ]
 | r::C,k=>by
  unfold nO
  rw[Bool.and_eq_true,decide_eq_true_eq,R4 (C:=C) (k:=r.key)]
  unfold fZ
  rw[List.pairwise_cons]
  constructor
  ·rintro ⟨⟨h1,h2,h3⟩,h4,h5,h6⟩
   refine⟨λx hx=>?_,⟨λx hx=>h4 x hx,h5⟩,λx hx=>?_⟩
   ·rcases List.mem_cons.1 hx with rfl|hx
    ·exact h1
    ·have:=h4 x hx;omega
   ·rcases List.mem_cons.1 hx with rfl|hx
    ·exact⟨h2,h3⟩
    ·exact h6 x hx
  ·rintro ⟨h1,⟨h2,h3⟩,h4⟩
   exact⟨⟨h1 r (.head _),h4 r (.head _)⟩,λx hx=>h2 x hx,h3,λx hx=>h4 x (.tail _ hx)⟩
def jZ(C:List Row):Bool:=nO 0 C && decide (C.length<=1000)
theorem P6{C:List Row}:jZ C=true↔wZ C:=by
 unfold jZ
 rw[Bool.and_eq_true,decide_eq_true_eq,R4]
 constructor
 ·rintro ⟨⟨h1,h2,h3⟩,h4⟩
  exact⟨h2,λr hr=>⟨by have:=h1 r hr;omega,(h3 r hr).1,(h3 r hr).2⟩,h4⟩
 ·rintro ⟨h1,h2,h3⟩
  exact⟨⟨λr hr=>by have:=(h2 r hr).1;omega,h1,λr hr=>⟨(h2 r hr).2.1,(h2 r hr).2.2⟩⟩,h3⟩
def g8(aI:Int)(ts:List (List Row)):Bool:=decide (0<=aI/\aI<=1099511627776/\1<=ts.length/\ts.length<=8) && ts.all jZ
theorem pA{aI:Int}{ts:List (List Row)}:g8 aI ts=true↔(0<=aI/\aI<=1099511627776/\1<=ts.length/\ts.length<=8)/\∀C∈ts,wZ C:=by
 unfold g8
 rw[Bool.and_eq_true,decide_eq_true_eq,List.all_eq_true]
 exact and_congr_right λ_=>⟨λh C hC=>P6.1 (h C hC),λh C hC=>P6.2 (h C hC)⟩
def pT(r:Row):List dH:=[iF r.key,tF r.val]
def mv(C:List Row):List dH:=iF C.length::(C.map pT).flatten
def lD(aI:Int)(ts:List (List Row)):List dH:=[iF aI,iF ts.length]++(ts.map mv).flatten
theorem Ng(C:List Row):(mv C).length=1+C.length*2:=by
 unfold mv
 rw[List.length_cons,By (f:=pT) (k:=2) (λ_=>rfl)]
 omega
theorem Vq{aI:Int}{ts:List (List Row)}(h:g8 aI ts=true):(lD aI ts).length<=16010:=by
 obtain⟨h1,h2⟩:=pA.1 h
 have k:=ue (f:=mv) (k:=2001) ts λC hC=>by rw[Ng];have:=(h2 C hC).len;omega
 unfold lD
 rw[List.length_append]
 simp only[List.length_cons,List.length_nil]
 have:ts.length*2001<=8*2001:=Nat.mul_le_mul_right _ h1.2.2.2
 omega
theorem Vp{aI:Int}{ts:List (List Row)}(h:g8 aI ts=true):∀f∈lD aI ts,uO f:=by
 obtain⟨h1,h2⟩:=pA.1 h
 intro f hf
 unfold lD at hf
 simp only[List.mem_append,List.mem_cons,List.mem_flatten,List.mem_map,List.not_mem_nil,or_false]at hf
 rcases hf with (rfl|rfl)|⟨l,⟨C,hC,rfl⟩,hf⟩
 ·exact oz (by omega)
 ·exact oz (by omega)
 ·have hT:=h2 C hC
  have hl:=hT.len
  unfold mv at hf
  simp only[List.mem_cons,List.mem_flatten,List.mem_map]at hf
  rcases hf with rfl|⟨l,⟨r,hr,rfl⟩,hf⟩
  ·exact oz (by omega)
  ·obtain⟨k1,k2,k3⟩:=hT.rows r hr
   unfold pT at hf
   simp only[List.mem_cons,List.not_mem_nil,or_false]at hf
   rcases hf with rfl|rfl
   ·exact oz (by omega)
   ·exact .inr ⟨rfl,rfl,by show r.val.size<=4096;omega⟩
def sd(aI:Int)(ts:List (List Row)):List UInt8:=dS (lD aI ts).length 2++((lD aI ts).map eT).flatten
theorem Vb(s:ByteArray):(eT (tF s)).length=3+s.size:=by
 show (fy 2::(dS (s.size:Nat) 2++s.data.toList)).length=_
 rw[List.length_cons,List.length_append,i_]
 have:s.data.toList.length=s.size:=rfl
 omega
theorem Pk{aI:Int}{ts:List (List Row)}(h:g8 aI ts=true):(sd aI ts).length<=360000:=by
 obtain⟨h1,h2⟩:=pA.1 h
 unfold sd lD
 rw[List.length_append,i_]
 simp only[List.map_append,List.map_cons,List.map_nil,List.flatten_append,List.flatten_cons,List.flatten_nil,List.length_append,List.append_nil,xf]
 rw[D9,List.map_map]
 have k:=ue (f:=(λx=>(x.map eT).flatten)∘mv) (k:=44009) ts λC hC=>by
  have hT:=h2 C hC
  have hl:=hT.len
  show (((mv C).map eT).flatten).length<=44009
  unfold mv
  rw[List.map_cons,List.flatten_cons,List.length_append,xf,D9,List.map_map]
  have k2:=ue (f:=(λx=>(x.map eT).flatten)∘pT) (k:=44) C λr hr=>by
   have:=(hT.rows r hr).2.2
   show (((pT r).map eT).flatten).length<=44
   unfold pT
   simp only[List.map_cons,List.map_nil,List.flatten_cons,List.flatten_nil,List.length_append,List.length_nil,xf,Vb]
   omega
  have:C.length*44<=1000*44:=Nat.mul_le_mul_right _ hl
  omega
 have:ts.length*44009<=8*44009:=Nat.mul_le_mul_right _ h1.2.2.2
 omega
theorem Pm{aI:Int}{ts:List (List Row)}(h:g8 aI ts=true):lC (lD aI ts)= .ok (sd aI ts)/\h_ (sd aI ts)= .ok (lD aI ts):=
 Mw (l:=lD aI ts) (by have:=Vq h;omega) (Vp h)
def D_(aI:Int)(ts:List (List Row)):Except Int (List UInt8):=if g8 aI ts=true then .ok (dG (sd aI ts)) else .error 1
def Gc(x:Int × ByteArray):Row:=⟨x.1,x.2⟩
def oH:cw->Row × cw:=kI Gc (eU fR λ_=>eQ)
def pC:cw->Row × cw:=kI Gc (eU (dv 1099511627776) λ_=>eQ)
def lr:cw->List Row × cw:=kI Prod.snd (fF (ed 1000) (eE oH))
def ng:cw->List Row × cw:=kI Prod.snd (fF (dv 1000) (eE pC))
def Cx(x:Int × (Int × List (List Row))):Int × List (List Row):=(x.1,x.2.2)
def km:cw->(Int × List (List Row)) × cw:=kI Cx (eU fR λ_=>fF (ed 8) (eS lr))
def k_:cw->(Int × List (List Row)) × cw:=kI Cx (eU (dv 1099511627776) λ_=>fF (dv 8) (eE ng))
theorem GK:fN oH:=(Au.seq λ_=>ma).map _
theorem GL:fN pC:=((pz _).seq λ_=>ma).map _
def w5(r:Row):Prop:=¬(0<=r.key/\r.key<=1099511627776)
theorem aR4:iH oH pC w5:=by
 unfold oH pC
 have a1:=(wa 1099511627776).seq (f:=λ_=>eQ) (g:=λ_=>eQ) (λ_=>Hb) (λ_=>ma) (λ_=>ma)
 refine a1.map Gc λx h=>?_
 rcases h with h|h
 ·exact h
 ·exact h.elim
theorem G':fN lr:=((uX _).seq λn=>GK.many _).map _
theorem G_:fN ng:=((pz _).seq λn=>GL.many _).map _
theorem a_j:iH lr ng λC=>∃r∈C,w5 r:=by
 unfold lr ng fF
 have a1:=(AO 1000).seq (f:=λn=>eE oH n.toNat) (g:=λn=>eE pC n.toNat) (λn=>aR4.many GK GL n.toNat) (λn=>GL.many _) (λn=>GK.many _)
 refine a1.map Prod.snd λx h=>?_
 rcases h with h|h
 ·exact h.elim
 ·exact h
def HM(x:Int × List (List Row)):Prop:=¬(0<=x.1/\x.1<=1099511627776)\/∃C∈x.2,∃r∈C,w5 r
theorem Pq:iH km k_ HM:=by
 unfold km k_
 have c1:iH (fF (ed 8) (eS lr)) (fF (dv 8) (eE ng)) λx=>False\/∃C∈x.2,∃r∈C,w5 r:=(AO 8).seq (λn=>a_j.eS G' G_ n.toNat) (λn=>G_.many _) (λn=>G'.eS _)
 have mc:fN (fF (ed 8) (eS lr)):=(uX _).seq λn=>G'.eS _
 have F5:fN (fF (dv 8) (eE ng)):=(pz _).seq λn=>G_.many _
 have a1:=(wa 1099511627776).seq (f:=λ_=>fF (ed 8) (eS lr)) (g:=λ_=>fF (dv 8) (eE ng)) (λ_=>c1) (λ_=>F5) (λ_=>mc)
 refine a1.map Cx λx h=>?_
 rcases h with h|h|h
 ·exact .inl h
 ·exact h.elim
 ·exact .inr h
theorem ai5{x:Int × List (List Row)}(h:g8 x.1 x.2=true):¬HM x:=by
 obtain⟨h1,h2⟩:=pA.1 h
 rintro (hv|⟨C,hC,r,hr,hv⟩)
 ·omega
 ·have:=(h2 C hC).rows r hr
  unfold w5 AK at *
  omega
def nI(l:List dH):Option (Int × List (List Row)):=
 let x:=km ⟨l,false⟩
 if x.2.bad=false/\x.2.l=[]/\g8 x.1.1 x.1.2=true then some x.1 else none
def Ch(l:List dH):Option (Int × List (List Row)):=
 let x:=k_ ⟨l,false⟩
 if x.2.bad=false/\x.2.l=[]/\g8 x.1.1 x.1.2=true then some x.1 else none
theorem Pn(l:List dH):Ch l=nI l:=by
 unfold Ch nI
 simp only
 cases hb:(k_ ⟨l,false⟩).2.bad with
 | false=>rw[Pq.same _ hb,hb]
 | true=>
  rw[if_neg (by simp),if_neg]
  rintro ⟨h1,_,h3⟩
  rcases Pq.bad _ hb with h|h
  ·rw[h]at h1;cases h1
  ·exact ai5 h3 h
def iD(b:List UInt8):Option (Int × List (List Row)):=match gN b with
 | .error _=>none
 | .ok (p,n)=>if n=b.length then (match h_ p with
  | .error _=>none
  | .ok l=>nI l) else none
theorem MD{b:List UInt8}{x:Int × List (List Row)}(h:iD b=some x):g8 x.1 x.2=true:=by
 unfold iD at h
 split at h
 ·cases h
 ·split at h
  ·split at h
   ·cases h
   ·unfold nI at h
    simp only at h
    split at h
    ·rename_i hc;cases h;exact hc.2.2
    ·cases h
  ·cases h
theorem aR3{r:Row}{l:List dH}:oH ⟨pT r++l,false⟩=(r,⟨l,false⟩):=rfl
theorem a_h{C:List Row}{l:List dH}(h:C.length<=1000):lr ⟨mv C++l,false⟩=(C,⟨l,false⟩):=by
 unfold lr fF kI eU mv
 rw[List.cons_append,uY (by omega)]
 simp only[Int.toNat_natCast]
 rw[P0 C l λr _ l=>aR3]
theorem X0{aI:Int}{ts:List (List Row)}(h:g8 aI ts=true):km ⟨lD aI ts,false⟩=((aI,ts),⟨[],false⟩):=by
 obtain⟨h1,h2⟩:=pA.1 h
 have e0:lD aI ts=iF aI::(iF ts.length::((ts.map mv).flatten++[])):=by unfold lD;simp
 rw[e0]
 have e1:∀l,fR ⟨iF aI::l,false⟩=(aI,⟨l,false⟩):=λl=>rfl
 have e2:∀l,ed 8 ⟨iF ts.length::l,false⟩=((ts.length:Int),⟨l,false⟩):=λl=>uY (by omega)
 have e3:∀l,eS lr ts.length ⟨(ts.map mv).flatten++l,false⟩=(ts,⟨l,false⟩):=λl=>Cr ts l λC hC l=>a_h (h2 C hC).len
 unfold km fF kI eU Cx
 simp only[e1,e2,e3,Int.toNat_natCast]
theorem DZ{b p:List UInt8}{n:Nat}(ht:gN b= .ok (p,n))(hn:n=b.length){l:List dH}(hd:h_ p= .ok l):iD b=nI l:=by
 unfold iD
 rw[ht]
 simp only
 rw[if_pos hn,hd]
theorem XZ{l:List dH}{x:Int × List (List Row)}(h:km ⟨l,false⟩=(x,⟨[],false⟩))(hm:g8 x.1 x.2=true):nI l=some x:=by
 unfold nI
 rw[h]
 simp only
 rw[if_pos ⟨trivial,trivial,hm⟩]
theorem UT{aI:Int}{ts:List (List Row)}(h:g8 aI ts=true):iD (dG (sd aI ts))=some (aI,ts):=by
 have hl:=Pk h
 have h1:=(Pm h).2
 have h2:=X0 h
 generalize sd aI ts=p at *
 have ht:=SO (p:=p) (r:=[]) (by omega)
 rw[List.append_nil]at ht
 exact (DZ ht (lk p).symm h1).trans (XZ h2 h)
structure dz where
 file:Int
 first:Int
 size:Nat
 l:List (List UInt8)
structure tN where
 file:Int
 kV:Int
 fresh:Bool
structure dJ where
 bI:List dz
 base:Int
 size:Int
 dM:Option tN
def dz.next(s:dz):Int:=s.first+s.l.length
def b9(L:List dz):Int:=match L.getLast? with
 | none=>0
 | some s=>s.next-1
def e_(L:List dz):Int:=match L with
 | []=>1
 | s::_=>s.first
def g9:List dz->Int->Option (List UInt8)
 | [],_=>none
 | s::r,n=>if s.first<=n/\n<s.next then s.l[(n-s.first).toNat]? else g9 r n
structure il where
 file:Int
 fresh:Bool
 b:List UInt8
def jT(g:dJ)(f:Int)(p:List UInt8):Except Int il:=
 if g.base+4096<=f then .error 7 else .ok ⟨f,true,dG (fw (b9 g.bI+1).toNat)++dG p⟩
def fE(g:dJ)(off:Bool)(p:List UInt8):Except Int il:=
 if 1048576<p.length then .error 1
 else if off=true then .error 8
 else if 1099511627776<=b9 g.bI then .error 7
 else match g.bI.getLast? with
  | none=>jT g g.base p
  | some s=>if s.l.length=0\/(s.size:Int)+(dG p).length<=g.size then .ok ⟨s.file,false,dG p⟩ else jT g (s.file+1) p
def dI(g:dJ)(d:DS):(dJ × DS) × Int:=match g.dM with
 | none=>((g,d),0)
 | some x=>(({g with dM:=if (if x.fresh=true then d.remove x.file else d.cut x.file x.kV).2=0 then none else some x},(if x.fresh=true then d.remove x.file else d.cut x.file x.kV).1),(if x.fresh=true then d.remove x.file else d.cut x.file x.kV).2)
def iz(L:List dz)(x:il)(p:List UInt8):List dz:=
 let L:=if x.fresh=true then L++[⟨x.file,b9 L+1,0,[]⟩] else L
 L.dropLast++L.getLast?.toList.map λs=>{s with size:=s.size+x.b.length,l:=s.l++[p]}
def fP(g:dJ)(d:DS)(p:List UInt8):(dJ × DS) × (Int × Int):=match fE g d.off p with
 | .error e=>((g,d),(0,e))
 | .ok x=>
  let m:=dI g d
  if m.2≠0 then (m.1,(0,m.2)) else
  let a:=m.1.2.append x.file x.b
  if a.2≠0 then ((m.1.1,a.1),(0,a.2)) else
  let s:=a.1.sync x.file
  if s.2≠0 then ((m.1.1,s.1),(0,s.2)) else
  (({m.1.1 with bI:=iz m.1.1.bI x p},s.1),(b9 (iz m.1.1.bI x p),0))
def nJ(L:List dz):Int:=match L.getLast? with
 | none=>0
 | some s=>s.size
def fg(base:Int)(R:List PF):List Int:=(R.map PF.id).filter λf=>decide (base<=f/\f<base+4096)
def iX(L:List dz)(R:List PF)(f:Int)(last:Bool):(Bool × Bool) × List dz:=
 let b:=((dP PF.id R f).map PF.b).getD []
 match fp b with
 | none=>((false,last),L)
 | some (first,l,n)=>
  if (last=false/\(n≠b.length\/l.length=0))\/(0<L.length/\first≠b9 L+1)\/1099511627776<first+l.length-1 then ((true,false),L)
  else ((true,true),L++[⟨f,first,n,l⟩])
def jw(R:List PF):List Int->Option Int->List dz->Bool->Option (List dz × Bool)
 | [],_,L,whole=>some (L,whole)
 | f::r,prev,L,whole=>
  let x:=iX L R f r.isEmpty
  if x.1.2=false then none else if (match prev with|none=>false|some g=>decide (f≠g+1))=true then none else jw R r (some f) x.2 x.1.1
def hY(L:List dz)(d:DS)(ids:List Int)(whole:Bool):DS × Int:=match ids.getLast? with
 | none=>(d,0)
 | some f=>if whole=false then d.remove f else if nJ L<mE d.R f then d.cut f (nJ L) else (d,0)
def gD(d:DS)(base size:Int):DS × Except Int dJ:=
 if base<0\/12288<base\/size<64\/65536<size then (d,.error 1)
 else if d.off=true then (d,.error 8)
 else match jw d.R (fg base d.R) none [] true with
  | none=>(d,.error 3)
  | some (L,whole)=>if (hY L d (fg base d.R) whole).2≠0 then ((hY L d (fg base d.R) whole).1,.error (hY L d (fg base d.R) whole).2) else ((hY L d (fg base d.R) whole).1,.ok ⟨L,base,size,none⟩)
structure jA(s:dz)(N:Nat):Prop where
 f0:0<=s.file
 f1:s.file<=100000
 n0:1<=s.first
 n1:s.first<=1099511627776
 sz:s.size<=N
 ln:s.l.length<=N
 bl:∀b∈s.l,b.length<=1048576
structure dJ.Ok(g:dJ)(N:Nat):Prop where
 bI:∀s∈g.bI,jA s N
 b0:0<=g.base
 b1:g.base<=12288
 s0:64<=g.size
 s1:g.size<=65536
 ln:g.bI.length<=N
theorem rS{L:List dz}{N:Nat}(h:∀s∈L,jA s N):0<=b9 L/\b9 L<=1099511627776+N:=by
 unfold b9
 split
 ·omega
 ·rename_i s hs
  have:=h s (List.mem_of_getLast? hs)
  have h1:=this.n0;have h2:=this.n1;have h3:=this.ln
  simp only[dz.next]
  omega
section
variable {A:List PF} {x:PF}
theorem UF(hs:f_ PF.id (A++[x])):eD PF.id (A++[x]) x.id=A.length:=DR hs (j:=A.length) (by simp) (by simp)
theorem PD(hs:f_ PF.id (A++[x])):fS PF.id (A++[x]) x.id=true:=(Ck hs).2 ⟨x,by simp,rfl⟩
theorem Nz(hs:f_ PF.id (A++[x])):dP PF.id (A++[x]) x.id=some x:=vI hs (by simp)
theorem RR(hs:f_ PF.id (A++[x])){y:PF}(hy:y.id=x.id):iO PF.id (A++[x]) y=A++[y]:=by
 have h1:fS PF.id (A++[x]) y.id=true:=by rw[hy];exact PD hs
 rw[CE h1,hy,UF hs];simp
theorem a_0(hs:f_ PF.id (A++[x]))(g:PF->PF):kr (A++[x]) x.id g=A++[{g x with id:=x.id}]:=by
 unfold kr
 rw[Nz hs]
 exact RR hs rfl
theorem TR(hs:f_ PF.id (A++[x]))(b:List UInt8):kg (A++[x]) x.id b=A++[⟨x.id,x.safe,x.b++b⟩]:=by
 unfold kg
 rw[Nz hs]
 exact RR hs rfl
theorem TS(hs:f_ PF.id A){f:Int}(h:∀y∈A,y.id<f)(b:List UInt8):kg A f b=A++[⟨f,0,b⟩]:=by
 have h1:dP PF.id A f=none:=(Er hs).2 λy hy=>by have:=h y hy;omega
 have h2:fS PF.id A f=false:=by
  cases e:fS PF.id A f with
  | false=>rfl
  | true=>obtain⟨y,hy,e⟩:=(Ck hs).1 e;have:=h y hy;omega
 have h3:eD PF.id A f=A.length:=by
  unfold eD
  rw[List.filter_eq_self.2 λy hy=>by simpa using h y hy]
 unfold kg
 rw[h1]
 unfold iO
 simp only[h2,h3]
 simp[kK]
end
def oK(f:Int)(R:List PF):Prop:=∀i (h:i<R.length),R[i].id=f+i
theorem oK.sorted{f:Int}{R:List PF}(h:oK f R):f_ PF.id R:=by
 unfold f_
 rw[List.pairwise_iff_getElem]
 intro i j hi hj rW
 rw[h i hi,h j hj];omega
theorem oK.mem{f:Int}{R:List PF}(h:oK f R){x:PF}(hx:x∈R):f<=x.id/\x.id<f+R.length:=by
 obtain⟨i,hi,rfl⟩:=List.mem_iff_getElem.1 hx
 rw[h i hi];omega
theorem oK.snoc{f:Int}{R:List PF}(h:oK f R){x:PF}(hx:x.id=f+R.length):oK f (R++[x]):=by
 intro i hi
 by_cases hl:i<R.length
 ·rw[List.getElem_append_left hl];exact h i hl
 ·have:i=R.length:=by simp at hi;omega
  subst this
  simp[hx]
def j2(s:dz):List UInt8:=jm (fw s.first.toNat::s.l)
def jb(s:dz):PF:=⟨s.file,(j2 s).length,j2 s⟩
def ie:Int->Int->List dz->Prop
 | _,_,[]=>True
 | f,n,s::r=>s.file=f/\s.first=n/\s.size=(j2 s).length/\(∀p∈s.l,p.length<=1048576)/\(r≠[]->s.l≠[])/\ie (f+1) (n+s.l.length) r
def eF(L:List dz):List (List UInt8):=(L.map dz.l).flatten
theorem tZ(s:dz)(L:List dz):eF (s::L)=s.l++eF L:=by simp[eF]
theorem xj(A B:List dz):eF (A++B)=eF A++eF B:=by simp[eF]
theorem ie.app:∀{f n:Int} {A B:List dz},ie f n (A++B)↔ie f n A/\(B≠[]->∀s∈A,s.l≠[])/\ie (f+A.length) (n+(eF A).length) B
 | f,n,[],B=>by simp[ie,eF]
 | f,n,s::A,B=>by
  have ih:=ie.app (f:=f+1) (n:=n+s.l.length) (A:=A) (B:=B)
  have e1:f+1+(A.length:Int)=f+((s::A).length:Int):=by simp;omega
  have e2:n+(s.l.length:Int)+((eF A).length:Int)=n+((eF (s::A)).length:Int):=by rw[tZ,List.length_append];omega
  rw[e1,e2]at ih
  rw[List.cons_append]
  simp only[ie,ih]
  constructor
  ·rintro ⟨h1,h2,h3,h4,h5,h6,h7,h8⟩
   refine⟨⟨h1,h2,h3,h4,λhA=>h5 (by simp[hA]),h6⟩,λhB t ht=>?_,h8⟩
   rcases List.mem_cons.1 ht with rfl|ht
   ·exact h5 (by simp[hB])
   ·exact h7 hB t ht
  ·rintro ⟨⟨h1,h2,h3,h4,h5,h6⟩,h7,h8⟩
   refine⟨h1,h2,h3,h4,λh=>?_,h6,λhB t ht=>h7 hB t (.tail _ ht),h8⟩
   by_cases hA:A=[]
   ·subst hA;exact h7 (by simpa using h) s (.head _)
   ·exact h5 hA
theorem ie.vv:∀{f n:Int} {L:List dz},ie f n L->oK f (L.map jb)
 | f,n,[],_=>λi h=>by simp at h
 | f,n,s::L,h=>by
  obtain⟨h1,_,_,_,_,h6⟩:=h
  have ih:=h6.vv
  intro i hi
  cases i with
  | zero=>simpa [jb] using h1
  | succ i=>
   have:=ih i (by simpa using hi)
   simp only[List.map_cons,List.getElem_cons_succ]
   rw[this];push_cast;omega
theorem ie.head{f n:Int}{L:List dz}(h:ie f n L)(hL:L≠[]):b9 L=n+(eF L).length-1:=by
 obtain⟨A,s,rfl⟩:∃A s,L=A++[s]:=⟨L.dropLast,L.getLast hL,(List.dropLast_concat_getLast hL).symm⟩
 obtain⟨_,_,h3⟩:=ie.app.1 h
 obtain⟨_,h4,_⟩:=h3
 unfold b9
 rw[List.getLast?_concat,xj]
 simp only[dz.next,h4,List.length_append]
 simp[eF];omega
theorem ie.low{f n:Int}{L:List dz}(h:ie f n L)(hL:L≠[]):e_ L=n:=by
 cases L with
 | nil=>exact absurd rfl hL
 | cons s L=>exact h.2.1
theorem ie.read:∀{f n:Int} {L:List dz},ie f n L->∀i,g9 L i=if n<=i then (eF L)[(i-n).toNat]? else none
 | f,n,[],_,i=>by simp[g9,eF]
 | f,n,s::L,h,i=>by
  obtain⟨_,h2,_,_,_,h6⟩:=h
  have ih:=h6.read i
  subst h2
  rw[g9,ih,tZ]
  have jH:s.next=s.first+s.l.length:=rfl
  by_cases h1:s.first<=i
  ·rw[if_pos (c:=s.first<=i) h1]
   by_cases h3:i<s.next
   ·rw[if_pos (c:=s.first<=i/\i<s.next) ⟨h1,h3⟩,List.getElem?_append_left (by omega)]
   ·rw[if_neg (c:=s.first<=i/\i<s.next) (by omega),if_pos (by omega),List.getElem?_append_right (by omega)]
    congr 1;omega
  ·rw[if_neg (c:=s.first<=i/\i<s.next) (by omega),if_neg (by omega),if_neg h1]
theorem ie.bl:∀{f n:Int} {L:List dz},ie f n L->∀s∈L,s.size=(j2 s).length/\∀p∈s.l,p.length<=1048576
 | f,n,[],_,s,hs=>by cases hs
 | f,n,t::L,h,s,hs=>by
  obtain⟨_,_,h3,h4,_,h6⟩:=h
  rcases List.mem_cons.1 hs with rfl|hs
  ·exact⟨h3,h4⟩
  ·exact h6.bl s hs
theorem Wi(n:Nat):(fw n).length<=1048576:=by rw[rR];omega
theorem aRt{n:Nat}{l:List (List UInt8)}(h1:1<=n)(h2:n<=1099511627776)(hl:∀p∈l,p.length<=1048576):fp (jm (fw n::l))=some ((n:Int),l,(jm (fw n::l)).length):=by
 have:=a7n (fw n::l) [] (λp hp=>by rcases List.mem_cons.1 hp with rfl|hp;exact Wi n;exact hl p hp) ⟨2,SN⟩
 rw[List.append_nil]at this
 unfold fp
 rw[this]
 simp only[Wj h1 h2,Option.map_some]
abbrev gg:=List (List Row)
def iG(ts:gg)(t:Int):List Row:=if t<0 then [] else (ts[t.toNat]?).getD []
def jf(ts:gg)(c:dW):gg:=ts.set c.table.toNat (j1 (iG ts c.table) c)
def eZ(ts:gg)(l:List dW):gg:=l.foldl jf ts
def gd(n:Nat)(c:dW):Bool:=decide (0<=c.table/\c.table<(n:Int))
def lE(ts:gg)(l:List dW):Bool:=l.all (gd ts.length) && (eZ ts l).all λC=>decide (C.length<=1000)
theorem tQ(ts:gg)(c:dW):(jf ts c).length=ts.length:=List.length_set
theorem pK(ts:gg):∀l:List dW,(eZ ts l).length=ts.length:=λl=>by
 unfold eZ
 induction l generalizing ts with
 | nil=>rfl
 | cons c l ih=>rw[List.foldl_cons,ih,tQ]
theorem T3(ts:gg)(l m:List dW):eZ ts (l++m)=eZ (eZ ts l) m:=List.foldl_append
theorem DE(ts:gg)(l:List dW)(c:dW):eZ ts (l++[c])=jf (eZ ts l) c:=by rw[T3];rfl
theorem nf(ts:gg)(t:Nat)(h:t<ts.length):iG ts t=ts[t]:=by
 unfold iG
 rw[if_neg (by omega),Int.toNat_natCast,List.getElem?_eq_getElem h];rfl
theorem CU{ts:gg}{t:Int}(h:0<=t/\t<ts.length):iG ts t∈ts:=by
 obtain⟨n,rfl⟩:∃n:Nat,t=n:=⟨t.toNat,by omega⟩
 rw[nf ts n (by omega)];exact List.getElem_mem _
structure ly(C:List Row):Prop where
 sorted:fZ C
 rows:∀r∈C,AK r
theorem ly.app{C:List Row}(h:ly C){c:dW}{k:Int}(hc:ib c k=true):ly (j1 C c):=by
 have hm:=td.1 hc
 unfold j1
 split
 ·exact⟨Sx h.sorted _,λr hr=>h.rows r (Ra hr)⟩
 ·refine⟨G0 h.sorted _,λr hr=>?_⟩
  rcases Rb hr with rfl|hr
  ·exact⟨by show 1<=c.key;omega,by show c.key<=_;omega,by show c.val.size<=_;omega⟩
  ·exact h.rows r hr
theorem R7:ly []:=⟨List.Pairwise.nil,by simp⟩
theorem aR1(C:List Row)(c:dW):(j1 C c).length<=C.length+1:=by
 unfold j1
 split
 ·have:=PN C c.key;omega
 ·exact F1 C _
theorem F9{ts:gg}{c:dW}{C:List Row}(h:C∈jf ts c):C∈ts\/C=j1 (iG ts c.table) c:=by
 unfold jf at h
 exact List.mem_or_eq_of_mem_set h
theorem TP{ts:gg}(h:∀C∈ts,ly C){c:dW}{k:Int}(hc:ib c k=true)(ht:gd ts.length c=true):∀C∈jf ts c,ly C:=λC hC=>by
 rcases F9 hC with hC|rfl
 ·exact h C hC
 ·exact (h _ (CU (of_decide_eq_true ht))).app hc
theorem DD{k:Int}:∀{l:List dW} {ts:gg},(∀C∈ts,ly C)->(∀c∈l,ib c k=true)->(∀c∈l,gd ts.length c=true)->∀C∈eZ ts l,ly C
 | [],ts,h,_,_=>h
 | c::l,ts,h,h1,h2=>by
  show ∀C∈eZ (jf ts c) l,ly C
  refine DD (TP h (h1 c (.head _)) (h2 c (.head _))) (λx hx=>h1 x (.tail _ hx)) λx hx=>?_
  rw[tQ];exact h2 x (.tail _ hx)
theorem vo(N:Nat):∀{l:List dW} {ts:gg},(∀C∈ts,C.length<=N)->(∀c∈l,gd ts.length c=true)->∀C∈eZ ts l,C.length<=N+l.length
 | [],ts,h,_=>h
 | c::l,ts,h,h2=>by
  intro C hC
  have hA:∀C∈jf ts c,C.length<=N+1:=λC hC=>by
   rcases F9 hC with hC|rfl
   ·have:=h C hC;omega
   ·have h1:=aR1 (iG ts c.table) c
    have h3:=h _ (CU (of_decide_eq_true (h2 c (.head _))))
    omega
  have:=vo (N+1) (l:=l) hA (λx hx=>by rw[tQ];exact h2 x (.tail _ hx)) C hC
  rw[List.length_cons];omega
structure du where
 g:dJ
 d:DS
 ts:gg
 fX:Int
 image:Int
def ij(R:List PF)(n:Nat)(f:Int):Option (Int × gg):=match dP PF.id R f with
 | none=>none
 | some x=>match iD x.b with
  | none=>none
  | some y=>if y.2.length=n then some y else none
abbrev np:=Int × Int × gg
def fh(R:List PF)(n:Nat)(f:Int)(x:np):np:=match ij R n f with
 | none=>x
 | some y=>if 0<=x.1/\y.1<=x.2.1 then x else (f,y.1,y.2)
def l8(R:List PF)(n:Nat):np:=fh R n 1 (fh R n 0 (-1,0,List.replicate n []))
def kM(n:Nat)(image:Int):List (List UInt8)->Int->gg->Option gg
 | [],_,ts=>some ts
 | b::r,aI,ts=>match iU b with
  | .error _=>none
  | .ok t=>if t.aI=aI/\(∀c∈t.changes,c.table<(n:Int)) then kM n image r (aI+1) (if image<aI then eZ ts t.changes else ts) else none
def nL(d:DS)(iA size:Int):DS × Except Int du:=
 if iA<1\/8<iA then (d,.error 1)
 else match gD d 16 size with
  | (d',.error e)=>(d',.error e)
  | (d',.ok g)=>
   let x:=l8 d'.R iA.toNat
   match kM iA.toNat x.2.1 (eF g.bI) (e_ g.bI) x.2.2 with
   | none=>(d',.error 3)
   | some ts=>if x.2.1<=b9 g.bI/\e_ g.bI<=x.2.1+1 then (d',.ok ⟨g,d',ts,x.1,x.2.1⟩) else (d',.error 3)
abbrev iS:=mj
def du.ir(k:du)(t:cW):du × (Int × Int):=
 if k.d.off=true then (k,(0,8))
 else if lE k.ts t.changes=false\/1099511627776<=b9 k.g.bI then (k,(0,7))
 else
  let r:=fP k.g k.d (iS {t with aI:=b9 k.g.bI+1})
  if r.2.2=0 then ({k with g:=r.1.1,d:=r.1.2,ts:=eZ k.ts t.changes},(b9 k.g.bI+1,0)) else ({k with g:=r.1.1,d:=r.1.2},(0,r.2.2))
def du.jE(k:du)(sg:List ByteArray)(l:List dW):du × (Int × Int):=
 if eH ⟨1,1,l,sg,0⟩=true/\(∀c∈l,c.table<(k.ts.length:Int)) then k.ir ⟨1,1,l,sg,0⟩ else (k,(0,1))
def du.jx(k:du)(kind mark:Int):du × (Int × Int):=
 if (kind=2\/kind=3)/\eH ⟨1,kind,[],[],mark⟩=true then k.ir ⟨1,kind,[],[],mark⟩ else (k,(0,1))
def du.fp(k:du)(aI:Int):Except Int cW:=match g9 k.g.bI aI with
 | none=>.error 5
 | some b=>iU b
def iu(C:List Row)(key:Int)(n:Int):List Row:=(C.filter λr=>decide (key<r.key)).take n.toNat
def du.oS(k:du)(t key n:Int):List Row:=iu (iG k.ts t) key n
structure dQ where
 n:Int
 state:Int
 mark:Int
 after:Int
 id:Int
 table:Int
 rows:List Row
 dL:Int
 last:Bool
abbrev gl(n:Int):dQ:=⟨n,0,0,0,0,0,[],0,false⟩
def dQ.tg(w:dQ)(mark id table after:Int):Prop:=w.state≠0\/mark<1\/1099511627776<mark\/id<1\/64<id\/table<0\/8<=table\/after<0\/1099511627776<after
instance (w:dQ) (mark id table after:Int):Decidable (w.tg mark id table after):=by unfold dQ.tg;infer_instance
def dQ.l9(w:dQ)(mark id table after:Int):dQ:=if w.tg mark id table after then w else ⟨w.n,1,mark,after,id,table,[],0,false⟩
def ll:Int->List Row->Bool
 | _,[]=>true
 | k,r::C=>decide (k<r.key/\r.key<=1099511627776) && ll r.key C
def ji(after:Int)(C:List Row):Int:=(C.getLast?.map (·.key)).getD after
def dQ.sQ(w:dQ)(C:List Row):Prop:=w.state≠1\/w.n<C.length\/ll w.after C=false
instance (w:dQ) (C:List Row):Decidable (w.sQ C):=by unfold dQ.sQ;infer_instance
def dQ.fill(w:dQ)(C:List Row):dQ:=if w.sQ C then w else {w with state:=2,rows:=C,dL:=ji w.after C,last:=decide ((C.length:Int)<w.n)}
def dQ.shut(w:dQ):dQ:=if w.state=2 then {w with state:=3} else w
def dQ.waits(w:dQ)(kind mark:Int):Bool:=decide (kind=2/\mark=w.mark/\(w.state=1\/w.state=2))
def dQ.low(w:dQ)(mark:Int):dQ:=if w.state=3/\mark=w.mark then {w with state:=4} else w
def j7(t:Int)(l:List dW)(r:Row):Bool:=l.any λc=>decide (c.table=t/\c.key=r.key)
def dQ.sn(w:dQ)(l:List dW):dQ:=if w.state=4 then {w with rows:=w.rows.filter λr=>!j7 w.table l r} else w
def dQ.rV(w:dQ)(mark aI:Int):Prop:=w.state≠4\/mark≠w.mark\/aI<1\/1099511627776<aI
instance (w:dQ) (mark aI:Int):Decidable (w.rV mark aI):=by unfold dQ.rV;infer_instance
def jh(w:dQ)(aI:Int):List mf:=w.rows.map λr=>⟨aI,w.table,r.key,false,r.val⟩
def rj(w:dQ):rA:=⟨2,w.id,0,0,0,w.dL,w.last⟩
def dQ.high(w:dQ)(mark aI:Int):dQ × Option oM:=if w.rV mark aI then (w,none) else (gl w.n,some ⟨aI,jh w aI,[rj w]⟩)
structure dt where
 l:List (Int × Int)
 at_:Int
 left:Int
abbrev gu:dt:=⟨[],-1,0⟩
def nH(d:dt)(id:Int):Option Nat:=d.l.findIdx? λm=>decide (m.1=id)
def dt.add(d:dt)(id weight:Int):dt:=
 if id<1\/64<id\/weight<1\/8<weight then d else match nH d id with
 | some _=>d
 | none=>{d with l:=d.l++[(id,weight)]}
def dt.del(d:dt)(id:Int):dt:=match nH d id with
 | none=>d
 | some i=>⟨d.l.eraseIdx i,if (i:Int)<=d.at_ then d.at_-1 else d.at_,if (i:Int)=d.at_ then 0 else d.left⟩
def dt.place(d:dt):Int:=if d.left=0 then (if (d.l.length:Int)<=d.at_+1 then 0 else d.at_+1) else d.at_
def dt.j_(d:dt):Int × Int:=(d.l[d.place.toNat]?).getD (0,0)
def dt.next(d:dt):dt × Int:=if d.l=[] then (d,0) else (⟨d.l,d.place,(if d.left=0 then d.j_.2 else d.left)-1⟩,d.j_.1)
structure dt.Ok(d:dt):Prop where
 jB : -1<=d.at_
 vp:d.at_<d.l.length
 uQ:0<=d.left
 Cm:d.left<=8
 neg:d.at_ = -1->d.left=0
 w:∀m∈d.l,1<=m.1/\m.1<=64/\1<=m.2/\m.2<=8
 nd:(d.l.map Prod.fst).Nodup
def ni:List UInt8:=[115,110,97,112,115,104,111,116,32]
def tq:List UInt8->Option (Int × Int)
 | [d]=>if 48<=d.toNat/\d.toNat<=55 then some ((d.toNat:Int)-48,1) else none
 | [d,s,e]=>if (48<=d.toNat/\d.toNat<=55)/\s.toNat=32/\49<=e.toNat/\e.toNat<=56 then some ((d.toNat:Int)-48,(e.toNat:Int)-48) else none
 | _=>none
def wx(s:ByteArray):Option (Int × Int):=if s.data.toList.take 9=ni then tq (s.data.toList.drop 9) else none
structure dD where
 tables:Int
 late:Int
 at_:Int
 reqs:List Rq
 b8:dQ
def oD(tables late chunk aI:Int)(L:List Rq):Prop:=tables<1\/8<tables\/late<0\/2 ^ tables.toNat<=late\/aI<0\/1099511627776<aI\/chunk<1\/64<chunk\/¬gn L\/∃r∈L,tables<=r.table\/aI<r.at_
def dD.captured(m:dD)(t:Int):Bool:=decide (0<=t/\t<m.tables) && (decide (Md m.late t=0) || m.reqs.any λr=>decide (r.table=t))
def dD.accept(m:dD)(s:ByteArray)(aI:Int):List Rq × List rA:=match wx s with
 | none=>(m.reqs,[])
 | some g=>if m.tables<=g.1 then (m.reqs,[]) else match nZ m.reqs g.1 g.2 aI with
  | none=>(m.reqs,[])
  | some L=>(L,[⟨1,L.length,g.1,g.2,aI,0,false⟩])
def dD.fJ(m:dD)(aI:Int):List ByteArray->dD × List rA
 | []=>(m,[])
 | s::l=>let r:=m.accept s aI;let x:=dD.fJ {m with reqs:=r.1} aI l;(x.1,r.2++x.2)
def oF(m:dD)(aI:Int)(l:List dW):List mf:=(l.filter λc=>m.captured c.table).map λc=>⟨aI,c.table,c.key,c.gone,c.val⟩
def dD.sM(m:dD)(t:cW):dD × oM:=
 let x:=m.fJ t.aI t.signals
 ({x.1 with b8:=x.1.b8.sn t.changes},⟨t.aI,oF x.1 t.aI t.changes,x.2⟩)
def dD.high(m:dD)(t:cW):dD × oM:=match m.b8.high t.mark t.aI with
 | (_,none)=>(m,⟨t.aI,[],[]⟩)
 | (w,some x)=>match ml m.reqs m.b8.id m.b8.dL m.b8.last with
  | none=>({m with b8:=w},{x with notes:=[]})
  | some L=>({m with b8:=w,reqs:=L},x)
def dD.take(m:dD)(t:cW):dD × (oM × Int):=
 if eH t=false then (m,(⟨0,[],[]⟩,1))
 else if t.aI≠m.at_+1\/m.b8.waits t.kind t.mark=true then (m,(⟨0,[],[]⟩,10))
 else if t.kind=1 then let r:=({m with at_:=t.aI}:dD).sM t;(r.1,(r.2,0))
 else if t.kind=3 then let r:=({m with at_:=t.aI}:dD).high t;(r.1,(r.2,0))
 else ({m with at_:=t.aI,b8:=m.b8.low t.mark},(⟨t.aI,[],[]⟩,0))
def gQ(L:List Rq):List Rq:=L.filter λr=>!r.done
structure dA where
 k:du
 m:dD
 d:dt
 n:Int
def lj(m:dD):Bool:=decide (m.b8.state=1\/m.b8.state=2\/(m.b8.state=0/\gQ m.reqs≠[]))
def fY(d:dt)(L:List Rq):dt:=(gQ L).foldl (λd r=>d.add r.id r.weight) ((L.filter (·.done)).foldl (λd r=>d.del r.id) d)
def tz(L:List Rq)(id:Int):Option Rq:=if id<1 then none else L[(id-1).toNat]?
def dA.tc(p:dA)(r:Rq):dA × (Int × Int):=
 if (p.k.jx 2 (b9 p.k.g.bI+1)).2.2≠0 then ({p with k:=(p.k.jx 2 (b9 p.k.g.bI+1)).1},(0,(p.k.jx 2 (b9 p.k.g.bI+1)).2.2))
 else ({p with k:=(p.k.jx 2 (b9 p.k.g.bI+1)).1,m:={p.m with b8:=p.m.b8.l9 (b9 p.k.g.bI+1) r.id r.table r.dL}},(3,0))
def dA.rh(p:dA)(x:dt × Int):dA × (Int × Int):=match tz p.m.reqs x.2 with
 | none=>({p with d:=x.1},(0,0))
 | some r=>({p with d:=x.1}:dA).tc r
def dA.uS(p:dA):dA × (Int × Int):=p.rh (fY p.d p.m.reqs).next
def dA.ux(p:dA):dA × (Int × Int):=
 let y:=p.k.jx 3 p.m.b8.mark
 if y.2.2≠0 then ({p with k:=y.1},(0,y.2.2)) else ({p with k:=y.1,m:={p.m with b8:=p.m.b8.shut}},(5,0))
def dA.step(p:dA):dA × (Int × Int):=
 if lj p.m=false then (p,(0,0))
 else if p.m.b8.state=0 then p.uS
 else if p.m.b8.state=1 then ({p with m:={p.m with b8:=p.m.b8.fill (p.k.oS p.m.b8.table p.m.b8.after p.n)}},(4,0))
 else p.ux
theorem ain{R:List PF}{L0:List dz}{f n:Int}{s:dz}{last:Bool}{x:PF}(hx:dP PF.id R f=some x)(hb:x.b=j2 s)(h1:s.file=f)(h2:s.first=n)(h3:s.size=(j2 s).length)(h4:∀p∈s.l,p.length<=1048576)
  (n1:1<=n) (n2:n+s.l.length<=1099511627776) (hl:last=false->s.l≠[]) (h0:L0=[]\/b9 L0+1=n):iX L0 R f last=((true,true),L0++[s]):=by
 unfold iX
 rw[hx]
 simp only[Option.map_some,Option.getD_some,hb]
 have hr:fp (j2 s)=some (s.first,s.l,(j2 s).length):=by
  have:=aRt (n:=s.first.toNat) (l:=s.l) (by omega) (by omega) h4
  unfold j2
  rw[this]
  congr 2;omega
 rw[hr]
 have hs:(⟨f,s.first,(j2 s).length,s.l⟩:dz)=s:=by
  obtain⟨a,b,c,d⟩:=s
  simp only at h1 h3
  simp[<- h1,<- h3]
 simp only
 rw[if_neg,hs]
 rintro (⟨e1,e2⟩|⟨e1,e2⟩|e)
 ·rcases e2 with e2|e2
  ·exact e2 rfl
  ·exact hl e1 (List.eq_nil_of_length_eq_zero e2)
 ·rcases h0 with rfl|h0
  ·simp at e1
  ·omega
 ·omega
def rM(prev:Option Int)(f:Int):Bool:=match prev with
 | none=>false
 | some g=>decide (f≠g+1)
theorem Ax(R:List PF)(f:Int)(r:List Int)(prev:Option Int)(L:List dz)(wh:Bool):jw R (f::r) prev L wh =
  if (iX L R f r.isEmpty).1.2=false then none else if rM prev f=true then none else jw R r (some f) (iX L R f r.isEmpty).2 (iX L R f r.isEmpty).1.1:=rfl
theorem PV(R:List PF):∀(r:List dz) (f n:Int) (L0:List dz) (prev:Option Int) (ids:List Int) (wh:Bool),ie f n r->(∀s∈r,∃x,dP PF.id R s.file=some x/\x.b=j2 s)->(L0=[]\/b9 L0+1=n)->(prev=none\/prev=some (f-1))->1<=n->n+(eF r).length<=1099511627776->(ids≠[]->∀s∈r,s.l≠[]) ->
  jw R (r.map dz.file++ids) prev L0 wh=jw R ids (if r=[] then prev else some (f+r.length-1)) (L0++r) (if r=[] then wh else true)
 | [],f,n,L0,prev,ids,wh,_,_,_,_,_,_,_=>by simp
 | s::r,f,n,L0,prev,ids,wh,hc,hg,h0,hp,n1,n2,hi=>by
  obtain⟨h1,h2,h3,h4,h5,h6⟩:=hc
  obtain⟨x,hx,hb⟩:=hg s (.head _)
  rw[tZ,List.length_append]at n2
  have lK:iX L0 R s.file (r.map dz.file++ids).isEmpty=((true,true),L0++[s]):=by
   refine ain hx hb rfl h2 h3 h4 n1 (by omega) (λhl=>?_) h0
   by_cases hr:r=[]
   ·subst hr
    refine hi (λe=>?_) s (.head _)
    subst e;simp at hl
   ·exact h5 hr
  rw[List.map_cons,List.cons_append,Ax]
  simp only[lK]
  rw[if_neg (by simp),if_neg ?_]
  ·rw[PV R r (f+1) (n+s.l.length) (L0++[s]) (some s.file) ids true h6 (λt ht=>hg t (.tail _ ht)) (.inr ?_) (.inr (by rw[h1];congr 1;omega)) (by omega) (by omega) (λhd t ht=>hi hd t (.tail _ ht))]
   ·rw[if_neg (by simp:¬(s::r=[])),if_neg (by simp:¬(s::r=[])),List.append_assoc]
    by_cases hr:r=[]
    ·subst hr;simp[h1]
    ·rw[if_neg hr,if_neg hr]
     congr 2
     simp;omega
   ·unfold b9
    rw[List.getLast?_concat]
    simp only[dz.next];omega
  ·rcases hp with rfl|rfl
   ·simp[rM]
   ·simp[rM,h1]
theorem XP{R:List PF}{f base:Int}(h:oK f R)(h1:base<=f)(h2:f+R.length<=base+4096):fg base R=R.map PF.id:=by
 unfold fg
 rw[List.filter_eq_self]
 intro a ha
 obtain⟨x,hx,rfl⟩:=List.mem_map.1 ha
 have:=h.mem hx
 simp only[decide_eq_true_eq];omega
theorem VH{f n:Int}{L:List dz}{R:List PF}(hR:oK f R)(hs:∀s∈L,jb s∈R):∀s∈L,∃x,dP PF.id R s.file=some x/\x.b=j2 s:=λs h=>⟨jb s,vI hR.sorted (hs s h),rfl⟩
theorem ai2(L:List dz):(L.map jb).map PF.id=L.map dz.file:=by rw[List.map_map];rfl
theorem aFi{d:DS}{L:List dz}{f n base size:Int}(hc:ie f n L)(hR:d.R=L.map jb)(ph:d.off=false)(b0:0<=base)(b1:base<=12288)(s0:64<=size)(s1:size<=65536)(hf:base<=f)(Ws:f+L.length<=base+4096)
  (n1:1<=n) (n2:n+(eF L).length<=1099511627776):gD d base size=(d,.ok ⟨L,base,size,none⟩):=by
 have vM:=hc.vv
 have xR:fg base d.R=L.map dz.file:=by
  rw[hR,XP vM hf (by rw[List.length_map];exact Ws),ai2]
 have hl:=PV d.R L f n [] none [] true hc (VH (f:=f) (n:=n) (by rw[hR];exact vM) (λs hs=>by rw[hR];exact List.mem_map.2 ⟨s,hs,rfl⟩)) (.inl rfl) (.inl rfl) n1 n2 (λh=>absurd rfl h)
 rw[List.append_nil]at hl
 unfold gD
 rw[if_neg (by omega),if_neg (by simp[ph]),xR,hl]
 simp only[jw,List.nil_append]
 have hb:hY L d (L.map dz.file) (if L=[] then true else true)=(d,0):=by
  unfold hY
  rcases List.eq_nil_or_concat L with rfl|⟨A,s,rfl⟩
  ·rfl
  ·simp only[List.concat_eq_append,List.map_append,List.map_cons,List.map_nil,List.getLast?_concat]
   rw[if_neg (by simp),if_neg]
   have kH:=(hc.bl s (by simp)).1
   have:dP PF.id d.R s.file=some (jb s):=by
    rw[hR]
    exact vI (x:=jb s) vM.sorted (by simp)
   unfold mE nJ
   rw[this,List.getLast?_concat]
   simp only[jb,kH];omega
 rw[hb]
 simp
theorem ie.Cn:∀{f n:Int} {L:List dz},ie f n L->L.length<=(eF L).length+1
 | f,n,[],_=>by simp
 | f,n,[s],_=>by simp
 | f,n,s::t::L,h=>by
  obtain⟨_,_,_,_,h5,h6⟩:=h
  have:=h6.Cn
  have h0:s.l.length≠0:=λe=>h5 (by simp) (List.eq_nil_of_length_eq_zero e)
  rw[tZ,List.length_append,List.length_cons]
  omega
structure oL(g:dJ)(d:DS)(f n:Int)(es:List (List UInt8)):Prop where
 chain:ie f n g.bI
 kD:eF g.bI=es
 files:d.R=g.bI.map jb
 nil:g.bI=[]->f=g.base/\n=1
 base:g.base<=f
 b0:0<=g.base
 b1:g.base<=12288
 s0:64<=g.size
 s1:g.size<=65536
 n1:1<=n
 fi:f+es.length+2<=g.base+4096
 off:d.off=false
 dM:g.dM=none
theorem oL.head{g:dJ}{d:DS}{f n:Int}{es:List (List UInt8)}(h:oL g d f n es):b9 g.bI=n+es.length-1:=by
 by_cases hL:g.bI=[]
 ·have:=h.nil hL
  have e:=h.kD
  rw[hL]at e ⊢
  rw[<- e,this.2];rfl
 ·rw[h.chain.head hL,h.kD]
structure vj(g:dJ)(f n:Int)(es:List (List UInt8))(p:List UInt8)(x:il)(A:List dz)(l0:List (List UInt8))(pre:List UInt8):Prop where
 chain:ie f n A
 full:∀s∈A,s.l≠[]
 file:x.file=f+A.length
 kD:eF A++l0=es
 bl:∀q∈l0,q.length<=1048576
 all:pre++x.b=jm (fw (n+(eF A).length).toNat::(l0++[p]))
 aFz:l0=[]\/pre=jm (fw (n+(eF A).length).toNat::l0)
 app:∀t,kg (g.bI.map jb) x.file t=A.map jb++[⟨x.file,pre.length,pre++t⟩]
 put:ie f n (iz g.bI x p)
 RM:eF (iz g.bI x p)=es++[p]
 aF2:(iz g.bI x p).map jb=A.map jb++[⟨x.file,(pre++x.b).length,pre++x.b⟩]
 lh:iz g.bI x p≠[]
 aF1:∀s∈iz g.bI x p,s.l≠[]
 pos:0<x.b.length
 len:x.b.length<=27+p.length
 fresh:x.fresh=true->g.bI=A/\pre=[]
 oE:x.fresh=false->g.bI.map jb=A.map jb++[⟨x.file,pre.length,pre⟩]/\nJ g.bI=pre.length
theorem aFy{g:dJ}{d:DS}{f n:Int}{es:List (List UInt8)}(h:oL g d f n es){p:List UInt8}(hp:p.length<=1048576)(hn:n+es.length<=100000):∃x A l0 pre,fE g false p= .ok x/\vj g f n es p x A l0 pre:=by
 have hh:=h.head
 have hc:=h.chain
 have hle:=hc.Cn
 rw[h.kD]at hle
 have rT:=h.fi
 have z':=h.n1
 have FB:=hc.vv.sorted
 have Oz:∀F:Int,F=f+g.bI.length->(∀s∈g.bI,s.l≠[])->∃x A l0 pre,jT g F p= .ok x/\vj g f n es p x A l0 pre:=by
  intro F hF EX
  have e1:(b9 g.bI+1).toNat=(n+(eF g.bI).length).toNat:=by rw[hh,h.kD];congr 1;omega
  have j9:iz g.bI ⟨F,true,dG (fw (b9 g.bI+1).toNat)++dG p⟩ p=g.bI++[⟨F,b9 g.bI+1,(dG (fw (b9 g.bI+1).toNat)++dG p).length,[p]⟩]:=by
   unfold iz
   simp
  have dY:dG (fw (b9 g.bI+1).toNat)++dG p=jm (fw (n+(eF g.bI).length).toNat::[p]):=by rw[e1,CG,CG];simp[jm]
  refine⟨⟨F,true,dG (fw (b9 g.bI+1).toNat)++dG p⟩,g.bI,[],[],?_,hc,EX,hF,by rw[List.append_nil];exact h.kD,by simp,?_,.inl rfl,λt=>?_,?_,?_,?_,?_,?_,?_,?_,λ_=>⟨rfl,rfl⟩,λe=>by cases e⟩
  ·unfold jT
   rw[if_neg (by omega)]
  ·exact dY
  ·refine TS FB (λy hy=>?_) t
   have:=hc.vv.mem hy
   rw[List.length_map]at this
   show y.id<F
   omega
  ·rw[j9]
   refine ie.app.2 ⟨hc,λ_=>EX,hF,?_,?_,by simpa using hp,λh=>absurd rfl h,trivial⟩
   ·show b9 g.bI+1=_
    rw[hh,h.kD];omega
   ·show (dG (fw (b9 g.bI+1).toNat)++dG p).length=(j2 _).length
    unfold j2
    rw[dY,e1]
  ·rw[j9,xj,h.kD];simp[eF]
  ·rw[j9,List.map_append,List.nil_append]
   congr 1
   simp only[List.map_cons,List.map_nil,jb,j2]
   rw[dY,e1]
  ·rw[j9];simp
  ·rw[j9]
   intro s hs
   rcases List.mem_append.1 hs with hs|hs
   ·exact EX s hs
   ·rw[List.mem_singleton.1 hs];simp
  ·show 0<(dG (fw (b9 g.bI+1).toNat)++dG p).length
   rw[List.length_append,lk];omega
  ·show (dG (fw (b9 g.bI+1).toNat)++dG p).length<=_
   rw[List.length_append,lk,lk,rR];omega
 unfold fE
 rw[if_neg (by omega),if_neg (by simp),if_neg (by omega)]
 rcases List.eq_nil_or_concat g.bI with hL|⟨A,s,hL⟩
 ·have z_:=h.nil hL
  rw[hL]
  simp only[List.getLast?_nil]
  exact Oz g.base (by rw[hL];simp;omega) (by rw[hL];simp)
 ·rw[List.concat_eq_append]at hL
  have VW:g.bI.getLast?=some s:=by rw[hL,List.getLast?_concat]
  rw[VW]
  simp only
  rw[hL]at hc
  obtain⟨h1,h2,c1,c2,c3,c4,c5,c6⟩:=ie.app.1 hc
  have BV:=h2 (by simp)
  by_cases vN:s.l.length=0\/(s.size:Int)+(dG p).length<=g.size
  ·rw[if_pos vN]
   have j9:iz g.bI ⟨s.file,false,dG p⟩ p=A++[{s with size:=s.size+(dG p).length,l:=s.l++[p]}]:=by
    unfold iz
    rw[if_neg (by simp)]
    simp only[hL,List.dropLast_concat,List.getLast?_concat]
    rfl
   have dY:j2 s++dG p=jm (fw (n+(eF A).length).toNat::(s.l++[p])):=by
    unfold j2
    rw[c2,<- List.cons_append,R0]
   have NP:j2 {s with size:=s.size+(dG p).length,l:=s.l++[p]}=j2 s++dG p:=by
    unfold j2
    rw[<- List.cons_append,R0]
   refine⟨⟨s.file,false,dG p⟩,A,s.l,j2 s,rfl,h1,BV,c1,?_,c4,dY,.inr (by unfold j2;rw[c2]),λt=>?_,?_,?_,?_,?_,?_,?_,?_,λe=>(by cases e),λ_=>⟨?_,?_⟩⟩
   ·rw[<- h.kD,hL,xj];simp[eF]
   ·rw[hL,List.map_append]at FB ⊢
    exact TR (x:=jb s) FB t
   ·rw[j9]
    refine ie.app.2 ⟨h1,λ_=>BV,c1,c2,?_,λq hq=>?_,λh=>absurd rfl h,trivial⟩
    ·rw[NP,List.length_append,<- c3]
    ·rcases List.mem_append.1 hq with hq|hq
     ·exact c4 q hq
     ·rw[List.mem_singleton.1 hq];exact hp
   ·rw[j9,xj,<- h.kD,hL,xj];simp[eF]
   ·rw[j9,List.map_append]
    simp only[List.map_cons,List.map_nil,jb,NP]
   ·rw[j9];simp
   ·rw[j9]
    intro t ht
    rcases List.mem_append.1 ht with ht|ht
    ·exact BV t ht
    ·rw[List.mem_singleton.1 ht];simp
   ·show 0<(dG p).length
    rw[lk];omega
   ·show (dG p).length<=_
    rw[lk];omega
   ·rw[hL,List.map_append];rfl
   ·unfold nJ;rw[hL,List.getLast?_concat];show ((s.size:Nat):Int)=_;rw[c3]
  ·rw[if_neg vN]
   refine Oz (s.file+1) (by rw[hL,c1];simp;omega) (by
    intro t ht
    rw[hL]at ht
    rcases List.mem_append.1 ht with ht|ht
    ·exact BV t ht
    ·rw[List.mem_singleton.1 ht]
     intro e
     exact vN (.inl (by rw[e];rfl)))
def HL(d:DS)(f n:Int)(es:List (List UInt8))(p:List UInt8)(whole:Bool):Prop:=∃A l0 pre k,
 ie f n A/\(∀s∈A,s.l≠[])/\eF A++l0=es/\(∀q∈l0++[p],q.length<=1048576)/\(l0=[]\/pre=(jm (fw (n+(eF A).length).toNat::l0)).length)/\pre<=k/\k<=(jm (fw (n+(eF A).length).toNat::(l0++[p]))).length /\
 (whole=false->k<(jm (fw (n+(eF A).length).toNat::(l0++[p]))).length)/\d.R=A.map jb++[⟨f+A.length,pre,(jm (fw (n+(eF A).length).toNat::(l0++[p]))).take k⟩]
theorem vj.dM{g:dJ}{f n:Int}{es:List (List UInt8)}{p:List UInt8}{x:il}{A:List dz}{l0:List (List UInt8)}{pre:List UInt8}(h:vj g f n es p x A l0 pre)(hp:p.length<=1048576){d:DS}{m:Nat}{whole:Bool}(hm:m<=x.b.length)(hw:whole=false->m<x.b.length)
  (hR:d.R=kg (g.bI.map jb) x.file (x.b.take m)):HL d f n es p whole:=by
 have dY:=h.all
 have hl:(jm (fw (n+(eF A).length).toNat::(l0++[p]))).length=pre.length+x.b.length:=by rw[<- dY,List.length_append]
 refine⟨A,l0,pre.length,pre.length+m,h.chain,h.full,h.kD,λq hq=>?_,?_,by omega,by omega,λe=>by have:=hw e;omega,?_⟩
 ·rcases List.mem_append.1 hq with hq|hq
  ·exact h.bl q hq
  ·rw[List.mem_singleton.1 hq];exact hp
 ·rcases h.aFz with h1|h1
  ·exact .inl h1
  ·exact .inr (by rw[h1])
 ·rw[hR,h.app,<- dY,List.take_length_add_append,h.file]
theorem vj.may{g:dJ}{d:DS}{f n:Int}{es:List (List UInt8)}{p:List UInt8}{x:il}{A:List dz}{l0:List (List UInt8)}{pre:List UInt8}(h:vj g f n es p x A l0 pre)(hi:oL g d f n es){d':DS}(ho:d'.off=false):may d' x.file=0/\0<=x.file/\x.file<16384:=by
 have h1:=h.chain.Cn
 have h2:(eF A).length+l0.length=es.length:=by rw[<- h.kD,List.length_append]
 have:=hi.fi
 have:=hi.base
 have:=hi.b0
 have:=hi.b1
 have h3:=h.file
 refine⟨?_,by omega,by omega⟩
 unfold Go.Proofs.YtfenmffiidchcaaGreat.may
 rw[if_neg (by simp[ho]),if_neg (by omega)]
theorem DC{g:dJ}{d a s:DS}{p:List UInt8}{x:il}{e1 e2:Int}(hp:fE g d.off p= .ok x)(hm:dI g d=((g,d),0))(ha:d.append x.file x.b=(a,e1))(hs:a.sync x.file=(s,e2)):
  fP g d p=if e1≠0 then ((g,a),(0,e1)) else if e2≠0 then ((g,s),(0,e2)) else (({g with bI:=iz g.bI x p},s),(b9 (iz g.bI x p),0)):=by
 unfold fP
 rw[hp]
 simp only[hm]
 rw[if_neg (by decide),ha]
 simp only[hs]
theorem append_eq{d:DS}{f:Int}{b:List UInt8}(hm:may d f=0):d.append f b=({d.dB with R:=kg d.R f b},d.dB.err):=by
 unfold DS.append
 rw[if_neg (by simp[hm])]
theorem T1{g:dJ}{d:DS}{f n:Int}{es:List (List UInt8)}(h:oL g d f n es){p:List UInt8}(hp:p.length<=1048576)(hn:n+es.length<=100000)(rT:f+es.length+3<=g.base+4096)(ha:0<=d.arm):
  (∃g' d',fP g d p=((g',d'),(n+es.length,0))/\oL g' d' f n (es++[p])/\d'.ops=d.ops+2/\0<=d'.arm/\(d.arm=0->d'.arm=0)/\g'.base=g.base/\g'.size=g.size/\(∀s∈g'.bI,s.l≠[])/\d.arm≠1/\d.arm≠2) \/
  (∃d',fP g d p=((g,d'),(0,8))/\HL d' f n es p true/\d'.off=true/\d'.ops<=d.ops+2/\d.arm≠0):=by
 obtain⟨x,A,l0,pre,fo,hr⟩:=aFy h hp hn
 have ph:=h.off
 have hm:dI g d=((g,d),0):=by unfold dI;rw[h.dM]
 obtain⟨s5,f0,f1⟩:=hr.may h ph
 have pZ:=append_eq (b:=x.b) s5
 by_cases h1:d.arm=1
 ·right
  have e:d.dB.off=true:=by simp[DS.dB,h1]
  refine⟨{d.dB with R:=kg d.R x.file x.b},?_,hr.dM hp (m:=x.b.length) (Nat.le_refl _) (λe=>by cases e) (by rw[List.take_length,h.files]),e,by simp[DS.dB],by omega⟩
  have e2:d.dB.err=8:=by unfold DS.err;rw[e];rfl
  rw[DC (by rw[ph];exact fo) hm pZ rfl,e2]
  rfl
 ·have e:d.dB.off=false:=by simp[DS.dB,h1]
  have e2:d.dB.err=0:=by unfold DS.err;rw[e];rfl
  have EN:=hr.app x.b
  rw[<- h.files]at EN
  let d1:DS:={d.dB with R:=kg d.R x.file x.b}
  have vM:oK f (A.map jb++[⟨x.file,pre.length,pre++x.b⟩]):=hr.chain.vv.snoc (by rw[List.length_map];exact hr.file)
  have om:d1.R=A.map jb++[⟨x.file,pre.length,pre++x.b⟩]:=EN
  have Oy:d1.find x.file=0:=by
   unfold DS.find
   rw[if_neg (by rw[(hr.may h (d':=d1) e).1];simp)]
   have hs:=vM.sorted
   rw[om,if_pos (PD (x:=⟨x.file,pre.length,pre++x.b⟩) hs)]
  rw[e2]at pZ
  by_cases h2:d.arm=2
  ·right
   have e3:d1.dB.off=true:=by simp[DS.dB,d1,h2]
   have FD:d1.sync x.file=(d1.dB,8):=by
    unfold DS.sync
    rw[if_neg (by simp[Oy]),if_pos e3]
   rw[DC (by rw[ph];exact fo) hm pZ FD]
   refine⟨d1.dB,rfl,hr.dM hp (m:=x.b.length) (Nat.le_refl _) (λe=>by cases e) (by rw[List.take_length,<- h.files];rfl),e3,by simp[DS.dB,d1],by omega⟩
  ·left
   have Oa:d1.arm=if 0<d.arm then d.arm-1 else d.arm:=rfl
   have e3:d1.dB.off=false:=decide_eq_false (by rw[Oa];split<;>omega)
   have b76:0<=d1.arm:=by rw[Oa];split<;>omega
   have FD:d1.sync x.file=({d1.dB with R:=kr d1.R x.file λy=>{y with safe:=y.b.length}},0):=by
    unfold DS.sync
    rw[if_neg (by simp[Oy]),if_neg (by simp[e3])]
   rw[DC (by rw[ph];exact fo) hm pZ FD]
   have jl:=hr.put
   have XE:kr d1.R x.file (λy=>{y with safe:=y.b.length})=(iz g.bI x p).map jb:=by
    rw[om,a_0 (x:=⟨x.file,pre.length,pre++x.b⟩) vM.sorted,hr.aF2]
   refine⟨{g with bI:=iz g.bI x p},{d1.dB with R:=kr d1.R x.file λy=>{y with safe:=y.b.length}},?_,⟨jl,hr.RM,XE,λe=>absurd e hr.lh,h.base,h.b0,h.b1,h.s0,h.s1,h.n1,?_,e3,h.dM⟩,by simp[DS.dB,d1],?_,λh0=>by simp[DS.dB,d1,h0],rfl,rfl,hr.aF1,h1,h2⟩
   ·have:b9 (iz g.bI x p)=n+es.length:=by
     rw[jl.head hr.lh,hr.RM,List.length_append]
     simp;omega
    rw[if_neg (by decide),if_neg (by decide),this]
   ·show f+((es++[p]).length:Int)+2<=g.base+4096
    rw[List.length_append]
    simp;omega
   ·show 0<=if 0<d1.arm then d1.arm-1 else d1.arm
    split<;>omega
theorem RL{g:dJ}{off:Bool}{p:List UInt8}{x:il}(h:fE g off p= .ok x):x.b.length<=27+p.length:=by
 have hf:∀F,jT g F p= .ok x->x.b.length<=27+p.length:=λF h=>by
  unfold jT at h
  split at h
  ·cases h
  ·cases h
   simp only[List.length_append,lk,rR];omega
 unfold fE at h
 split at h
 ·cases h
 ·split at h
  ·cases h
  ·split at h
   ·cases h
   ·split at h
    ·exact hf _ h
    ·split at h
     ·cases h
      simp only[lk];omega
     ·exact hf _ h
theorem Ga{g:dJ}{d:DS}{N:Nat}(h:d.Ok N):(dI g d).1.2.Ok N:=by
 unfold dI
 split
 ·exact h
 ·simp only
  split
  ·exact h.remove _
  ·exact h.cut _ _
theorem TX{g:dJ}{d:DS}{N:Nat}(h:d.Ok N)(p:List UInt8):(fP g d p).1.2.Ok (N+(27+p.length)):=by
 unfold fP
 split
 ·exact h.mono (by omega)
 ·rename_i x hx
  have hl:=RL hx
  have hm:=Ga (g:=g) h
  simp only
  split
  ·exact hm.mono (by omega)
  ·have ha:=(hm.append x.file x.b).mono (M:=N+(27+p.length)) (by omega)
   split
   ·exact ha
   ·have hs:=ha.sync x.file
    split
    ·exact hs
    ·exact hs
theorem DH{L:List dz}{d:DS}{ids:List Int}{wh:Bool}{N:Nat}(h:d.Ok N):(hY L d ids wh).1.Ok N:=by
 unfold hY
 split
 ·exact h
 ·split
  ·exact h.remove _
  ·split
   ·exact h.cut _ _
   ·exact h
theorem RB{d:DS}{base size:Int}{N:Nat}(h:d.Ok N):(gD d base size).1.Ok N:=by
 unfold gD
 split
 ·exact h
 ·split
  ·exact h
  ·split
   ·exact h
   ·split
    ·exact DH h
    ·exact DH h
theorem jA.mono{s:dz}{N M:Nat}(h:jA s N)(hm:N<=M):jA s M:=⟨h.f0,h.f1,h.n0,h.n1,Nat.le_trans h.sz hm,Nat.le_trans h.ln hm,h.bl⟩
theorem dJ.Ok.mono{g:dJ}{N M:Nat}(h:g.Ok N)(hm:N<=M):g.Ok M:=⟨λs hs=>(h.bI s hs).mono hm,h.b0,h.b1,h.s0,h.s1,Nat.le_trans h.ln hm⟩
theorem dJ.Ok.congr{g g':dJ}{N:Nat}(h:g.Ok N)(h1:g'.bI=g.bI)(h2:g'.base=g.base)(h3:g'.size=g.size):g'.Ok N:=
 ⟨by rw[h1];exact h.bI,by rw[h2];exact h.b0,by rw[h2];exact h.b1,by rw[h3];exact h.s0,by rw[h3];exact h.s1,by rw[h1];exact h.ln⟩
theorem te(g:dJ)(d:DS):(dI g d).1.1.bI=g.bI/\(dI g d).1.1.base=g.base/\(dI g d).1.1.size=g.size:=by
 unfold dI;split<;>exact⟨rfl,rfl,rfl⟩
theorem F_{g:dJ}{d:DS}{N:Nat}(h:g.Ok N):(dI g d).1.1.Ok N:=let ⟨a,b,c⟩:=te g d;h.congr a b c
structure vm(g:dJ)(p:List UInt8)(x:il):Prop where
 pl:p.length<=1048576
 hd:b9 g.bI<1099511627776
 oE:x.fresh=false->∃s,g.bI.getLast?=some s/\x.file=s.file
 f0:x.fresh=true->0<=x.file/\x.file<=100000
 bl:x.b.length<=27+p.length
 pos:8<=x.b.length
theorem Gz{g:dJ}{N:Nat}(h:g.Ok N){off:Bool}{p:List UInt8}{x:il}(hx:fE g off p= .ok x):vm g p x:=by
 have hb:=RL hx
 have h0:=h.b0
 have h1:=h.b1
 have hp:p.length<=1048576:=by
  unfold fE at hx
  split at hx
  ·cases hx
  ·omega
 have uu:∀F,0<=F->b9 g.bI<1099511627776->jT g F p= .ok x->vm g p x:=λF hF hd hx=>by
  unfold jT at hx
  split at hx
  ·cases hx
  ·cases hx
   exact⟨hp,hd,λe=>(by cases e),λ_=>⟨hF,by show F<=100000;omega⟩,hb,by show 8<=(dG _++dG p).length;rw[List.length_append,lk];omega⟩
 unfold fE at hx
 rw[if_neg (by omega)]at hx
 split at hx
 ·cases hx
 ·split at hx
  ·cases hx
  ·rename_i hd
   have hd:b9 g.bI<1099511627776:=by omega
   split at hx
   ·exact uu _ h0 hd hx
   ·rename_i s hs
    split at hx
    ·cases hx
     exact⟨hp,hd,λ_=>⟨s,hs,rfl⟩,λe=>(by cases e),hb,by show 8<=(dG p).length;rw[lk];omega⟩
    ·have:=(h.bI s (List.mem_of_getLast? hs)).f0
     exact uu _ (by omega) hd hx
def oC(L:List dz)(x:il):List dz:=if x.fresh=true then L++[⟨x.file,b9 L+1,0,[]⟩] else L
def oO(s:dz)(n:Nat)(p:List UInt8):dz:={s with size:=s.size+n,l:=s.l++[p]}
theorem wy(L:List dz)(x:il)(p:List UInt8){A:List dz}{s:dz}(h:oC L x=A++[s]):iz L x p=A++[oO s x.b.length p]:=by
 unfold iz
 have:(if x.fresh=true then L++[⟨x.file,b9 L+1,0,[]⟩] else L)=A++[s]:=h
 rw[this]
 simp only[List.dropLast_concat,List.getLast?_concat]
 rfl
theorem Cz{g:dJ}{p:List UInt8}{x:il}(h:vm g p x):∃A s,oC g.bI x=A++[s]:=by
 unfold oC
 cases hf:x.fresh with
 | true=>exact⟨_,_,rfl⟩
 | false=>
  obtain⟨s,hs,_⟩:=h.oE hf
  obtain⟨A,hA⟩:=List.getLast?_eq_some_iff.1 hs
  exact⟨A,s,by rw[if_neg (by decide)];exact hA⟩
theorem Ge{g:dJ}{N:Nat}(hg:g.Ok N){p:List UInt8}{x:il}(h:vm g p x):∀s∈oC g.bI x,jA s N:=by
 intro s hs
 unfold oC at hs
 split at hs
 ·rename_i hf
  rcases List.mem_append.1 hs with hs|hs
  ·exact hg.bI s hs
  ·rw[List.mem_singleton.1 hs]
   have:=rS hg.bI
   have:=h.hd
   exact⟨(h.f0 hf).1,(h.f0 hf).2,by show 1<=b9 g.bI+1;omega,by show b9 g.bI+1<=_;omega,Nat.zero_le _,Nat.zero_le _,λb hb=>by cases hb⟩
 ·exact hg.bI s hs
theorem awg(L:List dz)(x:il):(oC L x).length<=L.length+1:=by
 unfold oC;split<;>simp
theorem GA{g:dJ}{N:Nat}(hg:g.Ok N){p:List UInt8}{x:il}(h:vm g p x):(∀s∈iz g.bI x p,jA s (N+(28+p.length)))/\(iz g.bI x p).length<=N+1:=by
 obtain⟨A,s,hA⟩:=Cz h
 have b5:=Ge hg h
 have hl:=awg g.bI x
 have hn:=hg.ln
 rw[wy _ _ _ hA]
 rw[hA]at b5 hl
 refine⟨λt ht=>?_,by simp at hl ⊢;omega⟩
 rcases List.mem_append.1 ht with ht|ht
 ·exact (b5 t (List.mem_append_left _ ht)).mono (by omega)
 ·rw[List.mem_singleton.1 ht]
  have hs:=b5 s (by simp)
  have:=hs.sz
  have:=hs.ln
  have:=h.bl
  refine⟨hs.f0,hs.f1,hs.n0,hs.n1,by show s.size+x.b.length<=_;omega,by show (s.l++[p]).length<=_;simp;omega,λb hb=>?_⟩
  rcases List.mem_append.1 hb with hb|hb
  ·exact hs.bl b hb
  ·rw[List.mem_singleton.1 hb];exact h.pl
structure fq(lo hi:Int)(A B M:List PF):Prop where
 a:∀x∈A,x.id<lo
 m:∀x∈M,lo<=x.id/\x.id<hi
 b:∀x∈B,hi<=x.id
def gM(A B:List PF)(d:DS):DS:={d with R:=A++d.R++B}
section
variable {lo hi:Int} {A B M:List PF}
theorem fq.dB(h:fq lo hi A B M){f:Int}(h1:lo<=f)(h2:f<hi):eD PF.id (A++M++B) f=A.length+eD PF.id M f:=by
 have eA:A.filter (λx=>decide (PF.id x<f))=A:=List.filter_eq_self.2 λx hx=>decide_eq_true (by have:=h.a x hx;omega)
 have eB:B.filter (λx=>decide (PF.id x<f))=[]:=List.filter_eq_nil_iff.2 λx hx=>by have:=h.b x hx;simp;omega
 unfold eD
 rw[List.filter_append,List.filter_append,eA,eB,List.append_nil,List.length_append]
theorem fq.at_(h:fq lo hi A B M)(c:Nat)(hc:c<=M.length):(A++M++B)[A.length+c]?=if c<M.length then M[c]? else B[0]?:=by
 rw[List.append_assoc,List.getElem?_append_right (by omega),show A.length+c-A.length=c by omega]
 split
 ·rw[List.getElem?_append_left (by omega)]
 ·rw[List.getElem?_append_right (by omega),show c-M.length=0 by omega]
theorem fq.is(h:fq lo hi A B M){f:Int}(h1:lo<=f)(h2:f<hi):fS PF.id (A++M++B) f=fS PF.id M f:=by
 unfold fS
 rw[h.dB h1 h2,h.at_ _ (vu M f)]
 by_cases hc:eD PF.id M f<M.length
 ·rw[if_pos hc]
 ·rw[if_neg hc,List.getElem?_eq_none (l:=M) (by omega)]
  cases hB:B[0]? with
  | none=>rfl
  | some y=>
   have:=h.b y (List.mem_of_getElem? hB)
   simp;omega
theorem fq.get(h:fq lo hi A B M){f:Int}(h1:lo<=f)(h2:f<hi):dP PF.id (A++M++B) f=dP PF.id M f:=by
 unfold dP
 rw[h.is h1 h2]
 split
 ·rename_i hi
  obtain⟨hl,_⟩:=oA hi
  rw[h.dB h1 h2,h.at_ _ (by omega),if_pos hl]
 ·rfl
theorem fq.put(h:fq lo hi A B M){x:PF}(h1:lo<=x.id)(h2:x.id<hi):iO PF.id (A++M++B) x=A++iO PF.id M x++B:=by
 have hc:=vu (key:=PF.id) M x.id
 unfold iO
 rw[h.is h1 h2,h.dB h1 h2]
 have e1:(A++M++B).take (A.length+eD PF.id M x.id)=A++M.take (eD PF.id M x.id):=by
  rw[List.append_assoc,List.take_length_add_append,List.take_append_of_le_length hc]
 rw[e1]
 split
 ·rename_i hi
  obtain⟨hl,_⟩:=oA hi
  rw[List.append_assoc A M B,Nat.add_assoc,List.drop_length_add_append,List.drop_append_of_le_length (by omega)]
  simp only[List.append_assoc]
 ·rw[List.append_assoc A M B,List.drop_length_add_append,List.drop_append_of_le_length hc]
  simp only[List.append_assoc]
theorem fq.del(h:fq lo hi A B M){f:Int}(h1:lo<=f)(h2:f<hi):j6 PF.id (A++M++B) f=A++j6 PF.id M f++B:=by
 unfold j6
 rw[h.is h1 h2]
 split
 ·rename_i hi
  obtain⟨hl,_⟩:=oA hi
  rw[h.dB h1 h2,List.append_assoc,List.eraseIdx_append_of_length_le (by omega),show A.length+eD PF.id M f-A.length=eD PF.id M f by omega,List.eraseIdx_append_of_lt_length hl,List.append_assoc]
 ·rfl
theorem fq.app(h:fq lo hi A B M){f:Int}(h1:lo<=f)(h2:f<hi)(b:List UInt8):kg (A++M++B) f b=A++kg M f b++B:=by
 unfold kg
 rw[h.get h1 h2,h.put (x:=⟨f,_,_⟩) h1 h2]
theorem fq.rr(h:fq lo hi A B M){f:Int}(h1:lo<=f)(h2:f<hi)(g:PF->PF):kr (A++M++B) f g=A++kr M f g++B:=by
 unfold kr
 rw[h.get h1 h2]
 split
 ·rw[h.put (x:={g _ with id:=f}) h1 h2]
 ·rfl
theorem fq.len(h:fq lo hi A B M){f:Int}(h1:lo<=f)(h2:f<hi):mE (A++M++B) f=mE M f:=by
 unfold mE;rw[h.get h1 h2]
theorem fq.Hm{M':List PF}(h:fq lo hi A B M)(hm:∀x∈M',lo<=x.id/\x.id<hi):fq lo hi A B M':=⟨h.a,hm,h.b⟩
theorem fq.b64(h:fq lo hi A B M){f:Int}(h1:lo<=f)(h2:f<hi)(b:List UInt8):fq lo hi A B (kg M f b):=h.Hm λx hx=>by
 rcases Az hx with rfl|hx
 ·exact⟨h1,h2⟩
 ·exact h.m x hx
theorem fq.Ta(h:fq lo hi A B M){f:Int}(h1:lo<=f)(h2:f<hi)(g:PF->PF):fq lo hi A B (kr M f g):=h.Hm λx hx=>by
 rcases Cw hx with hx|⟨y,_,_,rfl⟩
 ·exact h.m x hx
 ·exact⟨h1,h2⟩
theorem fq.b65(h:fq lo hi A B M)(f:Int):fq lo hi A B (j6 PF.id M f):=h.Hm λx hx=>h.m x (Cv hx)
end
section
variable {lo hi:Int} {A B:List PF} {d:DS}
theorem Pu(f:Int):may (gM A B d) f=may d f:=rfl
theorem FW(h:fq lo hi A B d.R){f:Int}(h1:lo<=f)(h2:f<hi):(gM A B d).find f=d.find f:=by
 unfold DS.find
 rw[Pu,show (gM A B d).R=A++d.R++B from rfl,h.is h1 h2]
theorem X2(h:fq lo hi A B d.R){f:Int}(h1:lo<=f)(h2:f<hi)(b:List UInt8):(gM A B d).append f b=(gM A B (d.append f b).1,(d.append f b).2)/\fq lo hi A B (d.append f b).1.R:=by
 unfold DS.append
 rw[Pu]
 split
 ·exact⟨rfl,h⟩
 ·rw[show (gM A B d).R=A++d.R++B from rfl,h.app h1 h2]
  exact⟨rfl,h.b64 h1 h2 b⟩
theorem X3(h:fq lo hi A B d.R){f:Int}(h1:lo<=f)(h2:f<hi):(gM A B d).sync f=(gM A B (d.sync f).1,(d.sync f).2)/\fq lo hi A B (d.sync f).1.R:=by
 unfold DS.sync
 rw[FW h h1 h2]
 split
 ·exact⟨rfl,h⟩
 ·rw[show (gM A B d).dB.off=d.dB.off from rfl]
  split
  ·exact⟨rfl,h⟩
  ·rw[show (gM A B d).R=A++d.R++B from rfl,h.rr h1 h2]
   exact⟨rfl,h.Ta h1 h2 _⟩
theorem Pt(h:fq lo hi A B d.R){f:Int}(h1:lo<=f)(h2:f<hi)(n:Int):(gM A B d).cut f n=(gM A B (d.cut f n).1,(d.cut f n).2)/\fq lo hi A B (d.cut f n).1.R:=by
 unfold DS.cut
 rw[FW h h1 h2,show (gM A B d).R=A++d.R++B from rfl,h.len h1 h2]
 split
 ·exact⟨rfl,h⟩
 ·split
  ·exact⟨rfl,h⟩
  ·rw[show (gM A B d).dB.off=d.dB.off from rfl]
   split
   ·exact⟨rfl,h⟩
   ·rw[h.rr h1 h2]
    exact⟨rfl,h.Ta h1 h2 _⟩
theorem Pv(h:fq lo hi A B d.R){f:Int}(h1:lo<=f)(h2:f<hi):(gM A B d).remove f=(gM A B (d.remove f).1,(d.remove f).2)/\fq lo hi A B (d.remove f).1.R:=by
 unfold DS.remove
 rw[FW h h1 h2]
 split
 ·exact⟨rfl,h⟩
 ·rw[show (gM A B d).dB.off=d.dB.off from rfl]
  split
  ·exact⟨rfl,h⟩
  ·rw[show (gM A B d).R=A++d.R++B from rfl,h.del h1 h2]
   exact⟨rfl,h.b65 f⟩
structure vg(lo hi:Int)(g:dJ):Prop where
 b0:lo<=g.base
 b1:g.base+4096<=hi
 bI:∀s∈g.bI,g.base<=s.file/\s.file<g.base+4096
 dM:∀x,g.dM=some x->g.base<=x.file/\x.file<g.base+4096
theorem aFx{g:dJ}(h:vg lo hi g){off:Bool}{p:List UInt8}{x:il}(hx:fE g off p= .ok x):g.base<=x.file/\x.file<g.base+4096:=by
 have hf:∀f,g.base<=f->jT g f p= .ok x->g.base<=x.file/\x.file<g.base+4096:=λf hb hf=>by
  unfold jT at hf
  split at hf
  ·cases hf
  ·cases hf;exact⟨hb,by dsimp only;omega⟩
 unfold fE at hx
 split at hx
 ·cases hx
 ·split at hx
  ·cases hx
  ·split at hx
   ·cases hx
   ·split at hx
    ·exact hf _ (Int.le_refl _) hx
    ·rename_i s hs
     have hs:=h.bI s (List.mem_of_getLast? hs)
     split at hx
     ·cases hx;exact hs
     ·exact hf _ (by omega) hx
theorem awb{g:dJ}(hg:vg lo hi g)(h:fq lo hi A B d.R):dI g (gM A B d)=(((dI g d).1.1,gM A B (dI g d).1.2),(dI g d).2)/\fq lo hi A B (dI g d).1.2.R/\vg lo hi (dI g d).1.1:=by
 unfold dI
 cases ht:g.dM with
 | none=>exact⟨rfl,h,hg⟩
 | some x=>
  have hx:=hg.dM x ht
  have h1:=hg.b0
  have h2:=hg.b1
  simp only
  split
  ·obtain⟨e,hw⟩:=Pv h (f:=x.file) (by omega) (by omega)
   rw[e]
   refine⟨rfl,hw,hg.b0,hg.b1,hg.bI,λy hy=>?_⟩
   simp only at hy
   split at hy
   ·cases hy
   ·cases hy;exact hx
  ·obtain⟨e,hw⟩:=Pt h (f:=x.file) (by omega) (by omega) x.kV
   rw[e]
   refine⟨rfl,hw,hg.b0,hg.b1,hg.bI,λy hy=>?_⟩
   simp only at hy
   split at hy
   ·cases hy
   ·cases hy;exact hx
theorem aF4{L:List dz}{x:il}{p:List UInt8}{P:Int->Prop}(hL:∀s∈L,P s.file)(hx:P x.file):∀s∈iz L x p,P s.file:=by
 unfold iz
 have h1:∀s∈(if x.fresh=true then L++[⟨x.file,b9 L+1,0,[]⟩] else L),P s.file:=by
  split
  ·intro s hs
   rcases List.mem_append.1 hs with hs|hs
   ·exact hL s hs
   ·rw[List.mem_singleton.1 hs];exact hx
  ·exact hL
 intro s hs
 simp only at hs
 rcases List.mem_append.1 hs with hs|hs
 ·exact h1 s (List.dropLast_subset _ hs)
 ·obtain⟨y,hy,rfl⟩:=List.mem_map.1 hs
  exact h1 y (List.mem_of_getLast? (by simpa using hy))
theorem TZ{g:dJ}(hg:vg lo hi g)(h:fq lo hi A B d.R)(p:List UInt8):fP g (gM A B d) p=(((fP g d p).1.1,gM A B (fP g d p).1.2),(fP g d p).2)/\fq lo hi A B (fP g d p).1.2.R/\vg lo hi (fP g d p).1.1:=by
 unfold fP
 rw[show (gM A B d).off=d.off from rfl]
 cases hp:fE g d.off p with
 | error e=>exact⟨rfl,h,hg⟩
 | ok x=>
  have hx:=aFx hg hp
  have h1:=hg.b0
  have h2:=hg.b1
  obtain⟨em,hm,kE⟩:=awb hg h
  simp only
  rw[em]
  simp only
  split
  ·exact⟨rfl,hm,kE⟩
  ·obtain⟨ea,ha⟩:=X2 hm (f:=x.file) (by omega) (by omega) x.b
   rw[ea]
   simp only
   split
   ·exact⟨rfl,ha,kE⟩
   ·obtain⟨es,hs⟩:=X3 ha (f:=x.file) (by omega) (by omega)
    rw[es]
    simp only
    split
    ·exact⟨rfl,hs,kE⟩
    ·refine⟨rfl,hs,kE.b0,kE.b1,?_,kE.dM⟩
     have BM:(dI g d).1.1.base=g.base:=(te g d).2.1
     show ∀s∈iz (dI g d).1.1.bI x p,(dI g d).1.1.base<=s.file/\s.file<(dI g d).1.1.base+4096
     exact aF4 (P:=λf=>(dI g d).1.1.base<=f/\f<(dI g d).1.1.base+4096) kE.bI (by rw[BM];exact hx)
theorem XQ{M:List PF}{base:Int}(h:fq base (base+4096) A B M):fg base (A++M++B)=fg base M:=by
 have eA:(A.map PF.id).filter (λf=>decide (base<=f/\f<base+4096))=[]:=List.filter_eq_nil_iff.2 λf hf=>by
  obtain⟨x,hx,rfl⟩:=List.mem_map.1 hf
  have:=h.a x hx;simp;omega
 have eB:(B.map PF.id).filter (λf=>decide (base<=f/\f<base+4096))=[]:=List.filter_eq_nil_iff.2 λf hf=>by
  obtain⟨x,hx,rfl⟩:=List.mem_map.1 hf
  have:=h.b x hx;simp;omega
 unfold fg
 rw[List.map_append,List.map_append,List.filter_append,List.filter_append,eA,eB,List.nil_append,List.append_nil]
theorem aip{M:List PF}{L:List dz}{f:Int}{last:Bool}(h:fq lo hi A B M)(h1:lo<=f)(h2:f<hi):iX L (A++M++B) f last=iX L M f last:=by
 unfold iX;rw[h.get h1 h2]
theorem PU{M:List PF}(h:fq lo hi A B M):∀(ids:List Int) (prev:Option Int) (L:List dz) (wh:Bool),(∀f∈ids,lo<=f/\f<hi)->jw (A++M++B) ids prev L wh=jw M ids prev L wh
 | [],_,_,_,_=>rfl
 | f::r,prev,L,wh,hi=>by
  unfold jw
  rw[aip h (hi f (.head _)).1 (hi f (.head _)).2]
  simp only
  rw[PU h r _ _ _ λf hf=>hi f (.tail _ hf)]
theorem Ph{M:List PF}{base f:Int}(h:f∈fg base M):base<=f/\f<base+4096:=by
 unfold fg at h
 exact of_decide_eq_true (List.mem_filter.1 h).2
theorem Ua{L:List dz}{base:Int}{ids:List Int}{wh:Bool}(h:fq base (base+4096) A B d.R)(hi:∀f∈ids,base<=f/\f<base+4096):hY L (gM A B d) ids wh=(gM A B (hY L d ids wh).1,(hY L d ids wh).2)/\fq base (base+4096) A B (hY L d ids wh).1.R:=by
 unfold hY
 cases hl:ids.getLast? with
 | none=>exact⟨rfl,h⟩
 | some f=>
  obtain⟨h1,h2⟩:=hi f (List.mem_of_getLast? hl)
  simp only
  split
  ·exact Pv h h1 h2
  ·rw[show (gM A B d).R=A++d.R++B from rfl,h.len h1 h2]
   split
   ·exact Pt h h1 h2 _
   ·exact⟨rfl,h⟩
theorem aFd{base size:Int}(h:fq base (base+4096) A B d.R):gD (gM A B d) base size=(gM A B (gD d base size).1,(gD d base size).2)/\fq base (base+4096) A B (gD d base size).1.R:=by
 unfold gD
 split
 ·exact⟨rfl,h⟩
 ·rw[show (gM A B d).off=d.off from rfl,show (gM A B d).R=A++d.R++B from rfl,XQ h,PU h _ _ _ _ λf hf=>Ph hf]
  split
  ·exact⟨rfl,h⟩
  ·split
   ·exact⟨rfl,h⟩
   ·rename_i L wh _
    obtain⟨e,hw⟩:=Ua (L:=L) (wh:=wh) h λf hf=>Ph hf
    rw[e]
    simp only
    split
    ·exact⟨rfl,hw⟩
    ·exact⟨rfl,hw⟩
end
def gV(n:Nat)(l:List cW):gg:=(List.range n).map λt:Nat=>gY (t:Int) l
theorem rn(n:Nat)(l:List cW):(gV n l).length=n:=by unfold gV;simp
theorem CV{n:Nat}(l:List cW)(t:Nat)(h:t<n):iG (gV n l) t=gY (t:Int) l:=by
 rw[nf _ t (by rw[rn];exact h)]
 unfold gV;simp
theorem a_e{ts:gg}{c:dW}(h:gd ts.length c=true)(t:Nat)(ht:t<ts.length):iG (jf ts c) t=oP t (iG ts t) c:=by
 have hc:0<=c.table/\c.table<(ts.length:Int):=of_decide_eq_true h
 rw[nf _ t (by rw[tQ];exact ht)]
 unfold jf oP
 rw[List.getElem_set]
 by_cases e:c.table=t
 ·rw[if_pos (by omega),if_pos e,e];rfl
 ·rw[if_neg (by omega),if_neg e,nf ts t ht]
theorem SK:∀{l:List dW} {ts:gg},(∀c∈l,gd ts.length c=true)->∀t:Nat,t<ts.length->iG (eZ ts l) t=l.foldl (oP t) (iG ts t)
 | [],ts,_,t,_=>rfl
 | c::l,ts,h,t,ht=>by
  show iG (eZ (jf ts c) l) t=_
  rw[SK (λx hx=>by rw[tQ];exact h x (.tail _ hx)) t (by rw[tQ];exact ht),a_e (h c (.head _)) t ht]
  rfl
theorem a_l{a b:gg}(hl:a.length=b.length)(h:∀t:Nat,t<a.length->iG a t=iG b t):a=b:=
 List.ext_getElem hl λt h1 h2=>by have:=h t h1;rw[nf a t h1,nf b t h2]at this;exact this
theorem CW{n:Nat}{l:List cW}{t:cW}(h:∀c∈t.changes,gd n c=true):eZ (gV n l) t.changes=gV n (l++[t]):=by
 have hl:=rn n l
 have h':∀c∈t.changes,gd (gV n l).length c=true:=λc hc=>by rw[hl];exact h c hc
 refine a_l (by rw[pK,rn,rn]) λi hi=>?_
 rw[pK,hl]at hi
 rw[SK h' i (by rw[hl];exact hi),CV l i hi,CV _ i hi]
 unfold gY
 simp
theorem Ha(n:Nat):gV n []=List.replicate n []:=by
 unfold gV gY
 refine List.ext_getElem (by simp) λi h1 h2=>by simp
structure A9(n:Nat)(all:List cW):Prop where
 may:∀t∈all,eH t=true
 aI:∀i (h:i<all.length),all[i].aI=(i:Int)+1
 ch:∀t∈all,∀c∈t.changes,gd n c=true
theorem Ul{t:cW}(h:eH t=true):iU (iS t)= .ok t:=Mh h
theorem R2{n:Nat}{all:List cW}(h:A9 n all)(m:Nat):∀(k j:Nat),j+k=all.length->kM n m ((all.drop j).map iS) ((j:Int)+1) (gV n (all.take (max j m)))=some (gV n (all.take (max all.length m)))
 | 0,j,hj=>by
  rw[List.drop_eq_nil_of_le (by omega),show j=all.length by omega];rfl
 | k+1,j,hj=>by
  have hl:j<all.length:=by omega
  have ih:=R2 h m k (j+1) (by omega)
  have hm:=h.may _ (List.getElem_mem hl)
  have jV:=h.ch _ (List.getElem_mem hl)
  rw[List.drop_eq_getElem_cons hl,List.map_cons,kM,Ul hm]
  simp only
  rw[if_pos ⟨h.aI j hl,λc hc=>(of_decide_eq_true (jV c hc)).2⟩]
  have e:(if (m:Int)<(j:Int)+1 then eZ (gV n (all.take (max j m))) all[j].changes else gV n (all.take (max j m)))=gV n (all.take (max (j+1) m)):=by
   split
   ·rw[show max j m=j by omega,show max (j+1) m=j+1 by omega,CW jV,List.take_succ_eq_append_getElem hl]
   ·rw[show max j m=m by omega,show max (j+1) m=m by omega]
  rw[e,show (j:Int)+1+1=((j+1:Nat):Int)+1 by omega]
  exact ih
theorem SM{n:Nat}:∀(k:Nat) (l:List cW),l.length=k->(∀t∈l,eH t=true)->(∀t∈l,∀c∈t.changes,gd n c=true)->(∀C∈gV n l,ly C)
 | 0,l,hl,_,_=>by
  rw[List.eq_nil_of_length_eq_zero hl,Ha]
  intro C hC
  rw[List.eq_of_mem_replicate hC];exact R7
 | k+1,l,hl,h1,h2=>by
  have dV:l≠[]:=λe=>by rw[e]at hl;cases hl
  obtain⟨l',t,rfl⟩:∃l' t,l=l'++[t]:=⟨l.dropLast,l.getLast dV,(List.dropLast_concat_getLast dV).symm⟩
  have jV:=h2 t (by simp)
  rw[List.length_append,List.length_singleton]at hl
  rw[<- CW jV]
  exact DD (k:=8) (SM k l' (by omega) (λx hx=>h1 x (by simp[hx])) λx hx=>h2 x (by simp[hx])) (λc hc=>(kJ (h1 t (by simp))).2.2.2.2.2.1 c hc) λc hc=>by rw[rn];exact jV c hc
theorem a_k{n:Nat}{l:List cW}(h1:∀t∈l,eH t=true)(h2:∀t∈l,∀c∈t.changes,gd n c=true):∀C∈gV n l,ly C:=SM l.length l rfl h1 h2
structure Laid(g:dJ)(d:DS)(f n:Int)(es:List (List UInt8)):Prop where
 chain:ie f n g.bI
 kD:eF g.bI=es
 files:d.R=g.bI.map jb
 nil:g.bI=[]->f=g.base/\n=1
 base:g.base<=f
 b0:0<=g.base
 b1:g.base<=12288
 s0:64<=g.size
 s1:g.size<=65536
 n1:1<=n
 fi:f+es.length+2<=g.base+4096
 dM:g.dM=none
theorem oL.laid{g:dJ}{d:DS}{f n:Int}{es:List (List UInt8)}(h:oL g d f n es):Laid g d f n es:=⟨h.chain,h.kD,h.files,h.nil,h.base,h.b0,h.b1,h.s0,h.s1,h.n1,h.fi,h.dM⟩
theorem Laid.inv{g:dJ}{d:DS}{f n:Int}{es:List (List UInt8)}(h:Laid g d f n es)(ho:d.off=false):oL g d f n es:=⟨h.chain,h.kD,h.files,h.nil,h.base,h.b0,h.b1,h.s0,h.s1,h.n1,h.fi,ho,h.dM⟩
def T_(n:Nat)(x:PF):Prop:=∀y,iD x.b=some y->y.2.length≠n
structure sB(n:Nat)(all:List cW)(I:List PF)(fX:Int)(m:Nat):Prop where
 sorted:f_ PF.id I
 ids:∀x∈I,x.id=0\/x.id=1
 safe:∀x∈I,x.safe=x.b.length
 none_:fX = -1->m=0
 new:fX = -1\/fX=0\/fX=1
 le:m<=all.length
 some_:fX≠-1->∃x∈I,x.id=fX/\x.b=dG (sd m (gV n (all.take m)))
 other:∀x∈I,x.id≠fX->T_ n x\/∃y,iD x.b=some y/\y.1<m/\fX≠-1
theorem XV{R:List PF}(hs:f_ PF.id R){n:Nat}{f:Int}:ij R n f=none\/∃x∈R,x.id=f/\∃y,iD x.b=some y/\y.2.length=n/\ij R n f=some y:=by
 unfold ij
 cases hg:dP PF.id R f with
 | none=>exact .inl rfl
 | some x=>
  have hx:=pV hg
  simp only
  cases hd:iD x.b with
  | none=>exact .inl rfl
  | some y=>
   simp only
   by_cases hl:y.2.length=n
   ·exact .inr ⟨x,hx.1,hx.2,y,hd,hl,by rw[if_pos hl]⟩
   ·exact .inl (if_neg hl)
theorem XW{R:List PF}(hs:f_ PF.id R){n:Nat}{x:PF}(hx:x∈R){y:Int × gg}(hd:iD x.b=some y)(hl:y.2.length=n):ij R n x.id=some y:=by
 unfold ij
 rw[vI hs hx]
 simp only[hd]
 rw[if_pos hl]
theorem sB.load{n:Nat}{all:List cW}{I:List PF}{fX:Int}{m:Nat}(h:sB n all I fX m)(hm:∀j,j<=all.length->g8 j (gV n (all.take j))=true):l8 I n=(fX,(m:Int),gV n (all.take m)):=by
 have hn:fX≠-1->ij I n fX=some ((m:Int),gV n (all.take m)):=λdV=>by
  obtain⟨x,hx,hf,hb⟩:=h.some_ dV
  rw[<- hf]
  exact XW h.sorted hx (by rw[hb];exact UT (hm m h.le)) (rn _ _)
 have ho:∀f,f≠fX->ij I n f=none\/∃y,ij I n f=some y/\y.1<m/\fX≠-1:=λf hf=>by
  rcases XV h.sorted (n:=n) (f:=f) with e|⟨x,hx,Ca,y,h1,h2,h3⟩
  ·exact .inl e
  ·rcases h.other x hx (by rw[Ca];exact hf) with hb|⟨z,hz,h4,h5⟩
   ·exact absurd h2 (hb y h1)
   ·rw[h1]at hz;cases hz
    exact .inr ⟨y,h3,h4,h5⟩
 unfold l8
 rcases h.new with e|e|e
 ·have OR:=h.none_ e
  have o0:ij I n 0=none:=by
   rcases ho 0 (by rw[e];decide) with h1|⟨_,_,_,h1⟩
   ·exact h1
   ·exact absurd e h1
  have o1:ij I n 1=none:=by
   rcases ho 1 (by rw[e];decide) with h1|⟨_,_,_,h1⟩
   ·exact h1
   ·exact absurd e h1
  unfold fh
  rw[o0,o1,e,OR]
  simp only[List.take_zero,Ha]
  rfl
 ·have hn:=hn (by rw[e];decide)
  rw[e]at hn
  have h0:fh I n 0 (-1,0,List.replicate n [])=(0,(m:Int),gV n (all.take m)):=by
   unfold fh;rw[hn];simp
  rw[h0,e]
  unfold fh
  rcases ho 1 (by rw[e];decide) with h1|⟨y,h1,h2,_⟩
  ·rw[h1]
  ·rw[h1]
   simp only
   rw[if_pos ⟨by decide,by omega⟩]
 ·have hn:=hn (by rw[e];decide)
  rw[e]at hn
  rcases ho 0 (by rw[e];decide) with h1|⟨y,h1,h2,_⟩
  ·have h0:fh I n 0 (-1,0,List.replicate n [])=(-1,0,List.replicate n []):=by unfold fh;rw[h1]
   rw[h0,e]
   unfold fh;rw[hn];simp
  ·have h0:fh I n 0 (-1,0,List.replicate n [])=(0,y.1,y.2):=by unfold fh;rw[h1];simp
   rw[h0,e]
   unfold fh;rw[hn]
   simp only
   rw[if_neg (by omega)]
def Hv(n:Nat)(all:List cW):Prop:=∀j,j<=all.length->g8 j (gV n (all.take j))=true
structure sG(n:Nat)(k:du)(all:List cW)(tr:Nat)(I:List PF)(d0:DS)(f:Int)(lo m:Nat):Prop where
 MR:k.d=gM I [] d0
 b8:fq 16 4112 I [] d0.R
 log:Laid k.g d0 f ((lo:Int)+1) ((all.drop lo).map iS)
 base:k.g.base=16
 FV:sB n all I k.fX m
 image:k.image=m
 lom:lo<=m
 b9k:lo<=tr
 ts:k.ts=gV n all
 file:f<=16+lo
theorem sB.mono{n:Nat}{all:List cW}{I:List PF}{fX:Int}{m:Nat}(h:sB n all I fX m)(l:List cW):sB n (all++l) I fX m:=
 ⟨h.sorted,h.ids,h.safe,h.none_,h.new,by have:=h.le;rw[List.length_append];omega,λhn=>by rw[List.take_append_of_le_length h.le];exact h.some_ hn,h.other⟩
theorem aiq{I M:List PF}(hI:∀x∈I,x.id=0\/x.id=1)(hM:∀x∈M,16<=x.id)(n:Nat):l8 (I++M++[]) n=l8 I n:=by
 have hw:fq 0 16 [] M I:=⟨by simp,λx hx=>by rcases hI x hx with h|h<;>omega,hM⟩
 have hg:∀f:Int,0<=f->f<16->ij (I++M++[]) n f=ij I n f:=λf h0 h1=>by
  unfold ij
  have:=hw.get h0 h1
  rw[List.nil_append]at this
  rw[List.append_nil,this]
 unfold l8 fh
 rw[hg 0 (by decide) (by decide),hg 1 (by decide) (by decide)]
theorem aRv{n:Nat}{all:List cW}(h:A9 n all){lo m:Nat}(h1:lo<=m)(h2:m<=all.length):kM n m ((all.drop lo).map iS) ((lo:Int)+1) (gV n (all.take m))=some (gV n all):=by
 have:=R2 h m (all.length-lo) lo (by omega)
 rw[show max lo m=m by omega,show max all.length m=all.length by omega,List.take_length]at this
 exact this
theorem aFg{n:Nat}(n1:1<=n)(n8:n<=8){all:List cW}(ht:A9 n all)(hi:Hv n all){I:List PF}{d1 d2:DS}{g:dJ}{size:Int}(ho:gD d1 16 size=(d2,.ok g))(hw:fq 16 4112 I [] d1.R){f fX:Int}{lo m tr:Nat}
  (hl:oL g d2 f ((lo:Int)+1) ((all.drop lo).map iS)) (hb:g.base=16) (ow:sB n all I fX m) (OP:lo<=m) (dZ:lo<=tr) (hf:f<=16+lo) :
  nL (gM I [] d1) n size=(gM I [] d2,.ok ⟨g,gM I [] d2,gV n all,fX,m⟩)/\sG n ⟨g,gM I [] d2,gV n all,fX,m⟩ all tr I d2 f lo m:=by
 obtain⟨e,FM⟩:=aFd (base:=16) (size:=size) (A:=I) (B:=[]) (d:=d1) hw
 rw[ho]at e FM
 have mW:l8 (gM I [] d2).R n=(fX,(m:Int),gV n (all.take m)):=by
  show l8 (I++d2.R++[]) n=_
  rw[aiq ow.ids λx hx=>(FM.m x hx).1]
  exact ow.load hi
 have s7:=ow.le
 have mA:=hl.head
 rw[List.length_map,List.length_drop]at mA
 have sZ:e_ g.bI=(lo:Int)+1:=by
  by_cases hs:g.bI=[]
  ·rw[hs]
   have:=(hl.nil hs).2
   show (1:Int)=_
   omega
  ·exact hl.chain.low hs
 refine⟨?_,⟨rfl,FM,hl.laid,hb,ow,rfl,OP,dZ,rfl,hf⟩⟩
 unfold nL
 rw[if_neg (by omega),e]
 simp only[Int.toNat_natCast]
 rw[mW,hl.kD,sZ]
 simp only
 rw[aRv ht OP s7]
 simp only
 rw[if_pos ⟨by omega,by omega⟩]
theorem Laid.VK{g:dJ}{d:DS}{f n:Int}{es:List (List UInt8)}(h:Laid g d f n es)(hb:g.base=16):vg 16 4112 g:=by
 have hle:=h.chain.Cn
 rw[h.kD]at hle
 have rT:=h.fi
 have hba:=h.base
 refine⟨by omega,by omega,λs hs=>?_,λx hx=>by rw[h.dM]at hx;cases hx⟩
 have:=h.chain.vv.mem (x:=jb s) (List.mem_map_of_mem hs)
 rw[List.length_map]at this
 have h1:(jb s).id=s.file:=rfl
 omega
theorem Vc{t:cW}(h:eH t=true):(iS t).length<=2000:=Nat.le_trans (Bi h) (by decide)
theorem sG.head{n:Nat}{k:du}{all:List cW}{tr:Nat}{I:List PF}{d0:DS}{f:Int}{lo m:Nat}(h:sG n k all tr I d0 f lo m)(ho:k.d.off=false):b9 k.g.bI=all.length:=by
 have hl:=h.log.inv (by have:=h.MR;rw[this]at ho;exact ho)
 have hm:=h.FV.le
 have:=h.lom
 rw[hl.head,List.length_map,List.length_drop];omega
theorem FX:∀(C:List Row) (c:Row) (i:Nat),i<=C.length->(∀j (h:j<C.length),j<i->C[j].key<c.key)->(∀h:i<C.length,c.key<=C[i].key) ->
  f' C c=C.take i++[c]++C.drop (if ∃h:i<C.length,C[i].key=c.key then i+1 else i)
 | [],c,i,hi,_,_=>by
  have:i=0:=by simpa using hi
  subst this;simp[f']
 | x::C,c,0,_,_,h2=>by
  have hx:=h2 (by simp)
  simp only[List.getElem_cons_zero]at hx
  have:¬x.key<c.key:=by omega
  by_cases he:x.key=c.key
  ·simp[f',he]
  ·simp[f',this,he]
 | x::C,c,i+1,hi,h1,h2=>by
  have hx:x.key<c.key:=h1 0 (by simp) (by omega)
  have ih:=FX C c i (by simpa using hi) (λj h hj=>by have:=h1 (j+1) (by simpa using h) (by omega);simpa using this) (λh=>by have:=h2 (by simpa using h);simpa using this)
  simp only[f',hx,if_true,ih,List.length_cons,List.getElem_cons_succ,Nat.add_lt_add_iff_right]
  split<;>simp
theorem D0:∀(C:List Row) (k:Int) (i:Nat) (h:i<C.length),(∀j (h:j<C.length),j<i->C[j].key≠k)->C[i].key=k->iK C k=C.take i++C.drop (i+1)
 | x::C,k,0,_,_,h2=>by simp at h2;simp[iK,h2]
 | x::C,k,i+1,h,h1,h2=>by
  have hx:x.key≠k:=h1 0 (by simp) (by omega)
  have ih:=D0 C k i (by simpa using h) (λj h hj=>by have:=h1 (j+1) (by simpa using h) (by omega);simpa using this) (by simpa using h2)
  simp[iK,hx,ih]
theorem D1:∀(C:List Row) (k:Int),(∀j (h:j<C.length),C[j].key≠k)->iK C k=C
 | [],k,_=>rfl
 | x::C,k,h=>by
  have hx:x.key≠k:=h 0 (by simp)
  simp[iK,hx,D1 C k (λj hj=>by have:=h (j+1) (by simpa using hj);simpa using this)]
theorem qk(H:aW)(v:Value)(C:List Row)(key:Int)(hC:dy H 2 v C.length (C.map dX).flatten)(hn:C.length<=1000000):
  SP 168 [v,.int .i64 key] [.mem H] (λr post=>∃(u:Value) (b:Bool) (H':aW),H.le H'/\r= .tuple #[u,.bool b]/\dy H' 2 u (iK C key).length ((iK C key).map dX).flatten/\post=[.mem H']):=by
 intro W F w hS;apply bFv;delta II aF a_ ai c_;(try simp only[app]at hS)
 refine⟨λus w=>∃i:Nat,us=[.int .i64 i]/\i<=C.length/\(∀j (h:j<C.length),j<i->C[j].key≠key)/\SL W (.mem H::F) w,λus _=>match us with|[.int _ i]=>(C.length-i).toNat|_=>0,⟨0,rfl,by omega,λj h hj=>by omega,hS⟩,?_⟩
 clear hS
 rintro v6 w ⟨i,da,hi,dV,hS⟩
 cases da
 refine zm hC ?_
 refine bR (λh=>?_) (λh=>?_)
 ·have bW:i<C.length:=by omega
  refine zJ hS Xh fQ hC (x:=C[i]) (by simp[bW]) bW (i:=0) rfl ?_
  refine bR (λhe=>?_) (λhe=>?_)
  ·refine yZ hS ?_
   clear hS;intro w hS
   refine q9 hC hi (λv23 gE=>?_)
   rw[od fQ]at gE
   refine Gp ?_
   refine QA hC (k:=i+1) (by omega) (λv28 xv=>?_)
   rw[nA fQ]at xv
   refine zy hS (cells:=[]) rfl ?_
   clear hS;intro b1 w hS
   have hS:=a7.full (n:=0) (sz:=2) rfl hS
   refine zx (n:=0) (m:=i) hS Xr (nQ hS Xh gE) (by rw[jF fQ,List.length_take];omega) rfl (m_ vA _) (by omega) (by omega) ?_
   clear hS;intro u1 w hS
   refine zx (n:=0+i) (m:=C.length-(i+1)) hS Xr (nQ hS Xh xv) (by rw[jF fQ,List.length_drop]) rfl (m_ vA _) (by omega) (by omega) ?_
   clear hS;intro u2 w hS
   have hd:=D0 C key i bW dV he
   have hl:(iK C key).length=0+i+(C.length-(i+1)):=by rw[hd];simp only[List.length_append,List.length_take,List.length_drop];omega
   have hf:[]++((C.take i).map dX).flatten++((C.drop (i+1)).map dX).flatten=((iK C key).map dX).flatten:=by rw[hd];simp
   rw[hf,<- hl]at hS
   obtain⟨H2,eh,hR,hS⟩:=zE (H:=H) (v:=u2) hS Xp
   exact⟨_,⟨u2,true,H2,eh,rfl,hR,rfl⟩,aR hS⟩
  ·refine Gp ?_
   refine⟨⟨i+1,rfl,by omega,λj h hj=>?_,hS⟩,by dsimp only;omega⟩
   rcases Nat.lt_or_ge j i with gZ|gZ
   ·exact dV j h gZ
   ·obtain rfl:j=i:=by omega
    exact he
 ·have hd:=D1 C key (λj hj=>dV j hj (by omega))
  rw[hd]
  exact⟨_,⟨v,false,H,aW.le_refl H,rfl,hC,rfl⟩,hS⟩
theorem ql(H:aW)(v:Value)(C:List Row)(key:Int)(val:ByteArray)(hC:dy H 2 v C.length (C.map dX).flatten)(hn:C.length<=1000000):
  SP 169 [v,.int .i64 key,.string val] [.mem H] (λr post=>∃(u:Value) (b:Bool) (H':aW),H.le H'/\r= .tuple #[u,.bool b]/\dy H' 2 u (f' C ⟨key,val⟩).length ((f' C ⟨key,val⟩).map dX).flatten/\post=[.mem H']):=by
 intro W F w hS;apply bFw;delta IJ aF a_ ai c_;(try simp only[app]at hS)
 refine⟨λus w=>∃i:Nat,us=[.int .i64 i]/\i<=C.length/\(∀j (h:j<C.length),j<i->C[j].key<key)/\(∀h:i<C.length,key<=C[i].key)/\SL W (.mem H::F) w,?_,?_⟩
 ·refine⟨λus w=>∃i:Nat,us=[.int .i64 i]/\i<=C.length/\(∀j (h:j<C.length),j<i->C[j].key<key)/\SL W (.mem H::F) w,λus _=>match us with|[.int _ i]=>(C.length-i).toNat|_=>0,⟨0,rfl,by omega,λj h hj=>by omega,hS⟩,?_⟩
  clear hS
  rintro v8 w ⟨i,da,hi,dZ,hS⟩
  cases da
  refine zm hC ?_
  refine Gp ?_
  refine za (λh=>?_) (λh=>⟨i,rfl,hi,dZ,λh=>by omega,hS⟩)
  have bW:i<C.length:=by omega
  refine zJ hS Xh fQ hC (x:=C[i]) (by simp[bW]) bW (i:=0) rfl ?_
  refine Gp ?_
  refine za (λhe=>?_) (λhe=>⟨i,rfl,hi,dZ,λh=>by omega,hS⟩)
  refine Gp ?_
  refine⟨⟨i+1,rfl,by omega,λj h hj=>?_,hS⟩,by dsimp only;omega⟩
  rcases Nat.lt_or_ge j i with gZ|gZ
  ·exact dZ j h gZ
  ·obtain rfl:j=i:=by omega
   exact he
 ·clear hS
  rintro v8 w ⟨i,da,hi,dZ,pc,hS⟩
  cases da
  have vQ:=FX C ⟨key,val⟩ i hi dZ pc
  refine zy hS (cells:=[]) rfl ?_
  clear hS;intro b1 w hS
  have hS:=a7.full (n:=0) (sz:=2) rfl hS
  refine q9 hC hi (λv28 xv=>?_)
  rw[od fQ]at xv
  refine zx (n:=0) (m:=i) hS Xr (nQ hS Xh xv) (by rw[jF fQ,List.length_take];omega) rfl (m_ vA _) (by omega) (by omega) ?_
  clear hS;intro u1 w hS
  refine Gm λb w hS=>?_
  refine zx (n:=0+i) (m:=1) hS Xr (iP (cs:=dX ⟨key,val⟩) hS .hd rfl) rfl rfl (vA _) (by omega) (by omega) ?_
  clear hS;intro u2 w hS
  refine zm hC ?_
  refine Gp ?_
  have jG:∀(j:Nat) (v':Value) (b:Bool) (w:World),j<=C.length->f' C ⟨key,val⟩=C.take i++[⟨key,val⟩]++C.drop j->dy H 2 v' (C.length-j) ((C.drop j).map dX).flatten ->
    SL W (.ob (a7 u2 52 2 (0+i+1) ([]++((C.take i).map dX).flatten++dX ⟨key,val⟩))::.mem H::F) w ->
    zt 2 24 [.int .i64 0,.string ⟨#[]⟩] 52 u2 v' w λC3 Hk=>∃post,(∃(u:Value) (b':Bool) (H':aW),H.le H'/\(.tuple #[C3,.bool b]:Value)= .tuple #[u,.bool b']/\dy H' 2 u (f' C ⟨key,val⟩).length ((f' C ⟨key,val⟩).map dX).flatten/\post=[.mem H'])/\SL W (app post F) Hk:=by
   intro j v' b w hj hI mC hS
   refine zx (n:=0+i+1) (m:=C.length-j) hS Xr (nQ hS Xh mC) (by rw[jF fQ,List.length_drop]) rfl (m_ vA _) (by omega) (by omega) ?_
   clear hS;intro u3 w hS
   have hl:(f' C ⟨key,val⟩).length=0+i+1+(C.length-j):=by rw[hI];simp only[List.length_append,List.length_take,List.length_drop,List.length_singleton];omega
   have hf:[]++((C.take i).map dX).flatten++dX ⟨key,val⟩++((C.drop j).map dX).flatten=((f' C ⟨key,val⟩).map dX).flatten:=by rw[hI];simp
   rw[hf,<- hl]at hS
   obtain⟨H2,eh,hR,hS⟩:=zE (H:=H) (v:=u3) hS Xp
   exact⟨_,⟨u3,b,H2,eh,rfl,hR,rfl⟩,aR hS⟩
  refine za (λh=>?_) (λh=>?_)
  ·have bW:i<C.length:=by omega
   refine zJ hS Xh fQ hC (x:=C[i]) (by simp[bW]) bW (i:=0) rfl ?_
   refine bR (λhe=>?_) (λhe=>?_)
   ·rw[if_pos ⟨bW,he⟩]at vQ
    refine Gp ?_
    refine QA hC (k:=i+1) (by omega) (λv53 sU=>?_)
    rw[nA fQ]at sU
    exact jG (i+1) v53 false w (by omega) vQ sU (aR hS)
   ·rw[if_neg (λx=>he x.2)]at vQ
    refine QA hC (k:=i) (by omega) (λv53 sU=>?_)
    rw[nA fQ]at sU
    exact jG i v53 true w (by omega) vQ sU (aR hS)
  ·rw[if_neg (λx=>by obtain⟨h9,_⟩:=x;omega)]at vQ
   refine QA hC (k:=i) (by omega) (λv53 sU=>?_)
   rw[nA fQ]at sU
   exact jG i v53 true w (by omega) vQ sU (aR hS)
def jo(H:aW)(vs:List Value)(ts:List (List Row)):Prop:=vs.length=ts.length/\∀(i:Nat) (v:Value) (C:List Row),vs[i]?=some v->ts[i]?=some C->dy H 2 v C.length (C.map dX).flatten
theorem jo.mono{H H':aW}{vs:List Value}{ts:List (List Row)}(hh:H.le H')(h:jo H vs ts):jo H' vs ts:=⟨h.1,λi v C h1 h2=>(h.2 i v C h1 h2).mono hh⟩
theorem jo.set{H:aW}{vs:List Value}{ts:List (List Row)}(h:jo H vs ts){t:Nat}{v:Value}{C:List Row}(hv:dy H 2 v C.length (C.map dX).flatten):jo H (vs.set t v) (ts.set t C):=by
 refine⟨by simpa using h.1,λi v' C' h1 h2=>?_⟩
 rw[List.getElem?_set]at h1 h2
 split at h1
 ·split at h1
  ·cases h1;rename_i e hl;simp only[e,if_true]at h2;split at h2
   ·cases h2;exact hv
   ·cases h2
  ·cases h1
 ·rename_i e;simp only[e,if_false]at h2;exact h.2 i v' C' h1 h2
def nW(H:aW)(r:Nat)(ts:List (List Row)):zC:=jQ λx:Nat × List Value=>zP (jo H x.2 ts/\ts.length<=8)
 [.pt r [.slice (some ⟨x.1,0,none⟩) ts.length ts.length] 157,.pt x.1 x.2 53]
theorem nW.iff{W w:World}{H:aW}{r:Nat}{ts:List (List Row)}{l:List Chunk}:SL W (.ob (nW H r ts)::l) w↔∃(bv:Nat) (vs:List Value),(jo H vs ts/\ts.length<=8) /\
  SL W (.pt r [.slice (some ⟨bv,0,none⟩) ts.length ts.length] 157::.pt bv vs 53::l) w:=by
 unfold nW
 simp only[SL.ex,SL.fact,List.cons_append,List.nil_append]
 constructor
 ·rintro ⟨⟨bv,vs⟩,h1,h2⟩;exact⟨bv,vs,h1,h2⟩
 ·rintro ⟨bv,vs,h1,h2⟩;exact⟨⟨bv,vs⟩,h1,h2⟩
theorem nW.mono{W w:World}{H H':aW}(hh:H.le H'){r:Nat}{ts:List (List Row)}{l:List Chunk}(h:SL W (.ob (nW H r ts)::l) w):SL W (.ob (nW H' r ts)::l) w:=by
 obtain⟨bv,vs,hA,hS⟩:=nW.iff.1 h
 exact nW.iff.2 ⟨bv,vs,⟨hA.1.mono hh,hA.2⟩,hS⟩
theorem awr(H:aW)(n:Nat)(h1:1<=n)(h2:n<=8):SP 75 [.int .i64 n] [] (λv post=>∃r:Nat,v= .pointer (some ⟨r,0,none⟩)/\post=[.ob (nW H r (List.replicate n []))]):=by
 intro W F w hS;apply b6e;delta Lj aF ai dk bF;(try simp only[app]at hS)
 refine Gp ?_
 refine za (λh=>by omega) (λ_=>?_)
 refine Gp ?_
 refine za (λh=>by omega) (λ_=>?_)
 refine AM hS (by omega) (by omega) (by omega) ?_
 clear hS;intro bv w hS
 refine Gp ?_
 refine⟨_,rfl,zI hS ?_⟩
 clear hS;intro r w hS
 have hz:db [.slice none 0 0] n=List.replicate n (.slice none 0 0:Value):=by simp[db]
 rw[hz]at hS
 have hS:SL W (.ob (nW H r (List.replicate n []))::F) w:=nW.iff.2 ⟨bv,List.replicate n (.slice none 0 0),⟨⟨by simp,λi v C h1 h2=>by
  rw[List.getElem?_replicate]at h1 h2
  split at h1
  ·cases h1;split at h2
   all_goals first|(cases h2;exact dy.nil H 2)|(cases h2)
  ·cases h1⟩,by simpa using h2⟩,by rw[List.length_replicate];exact hS⟩
 exact⟨_,⟨r,rfl,rfl⟩,hS⟩
structure AtR(C:List Row)(key:Int)(i:Nat):Prop where
 le:i<=C.length
 lo:∀j (h:j<C.length),j<i->C[j].key<key
 hi:∀h:i<C.length,key<=C[i].key
def kn(C:List Row)(key:Int)(i:Nat):Bool:=decide (∃h:i<C.length,C[i].key=key)
theorem AtR.gt{C:List Row}{key:Int}{i:Nat}(h:AtR C key i)(hs:fZ C):∀j (hj:j<C.length),i<j->key<C[j].key:=λj hj rW=>by
 have h1:=h.hi (by omega)
 have:=List.pairwise_iff_getElem.1 hs i j (by omega) hj rW
 omega
theorem AtR.up{C:List Row}{key:Int}{i:Nat}(h:AtR C key i)(hs:fZ C)(hn:kn C key i=false):∀j (hj:j<C.length),i<=j->key<C[j].key:=λj hj rW=>by
 rcases Nat.lt_or_ge i j with h1|h1
 ·exact h.gt hs j hj h1
 ·obtain rfl:j=i:=by omega
  have h1:=h.hi hj
  have h2:¬C[j].key=key:=λe=>of_decide_eq_false hn ⟨hj,e⟩
  omega
theorem AtR.ins{C:List Row}{key:Int}{i:Nat}(h:AtR C key i)(v:ByteArray):f' C ⟨key,v⟩=if kn C key i=true then C.set i ⟨key,v⟩ else C.take i++[⟨key,v⟩]++C.drop i:=by
 rw[FX C ⟨key,v⟩ i h.le h.lo h.hi]
 by_cases hk:∃h:i<C.length,C[i].key=key
 ·rw[if_pos hk,if_pos (show kn C key i=true from decide_eq_true hk)]
  rw[List.set_eq_take_append_cons_drop,if_pos hk.1];simp
 ·rw[if_neg hk,if_neg (by simpa [kn] using hk)]
theorem AtR.del{C:List Row}{key:Int}{i:Nat}(h:AtR C key i)(hs:fZ C):iK C key=if kn C key i=true then C.take i++C.drop (i+1) else C:=by
 cases hk:kn C key i with
 | true=>
  obtain⟨hi,e⟩:=of_decide_eq_true hk
  rw[if_pos rfl]
  exact D0 C key i hi (λj hj gZ=>by have:=h.lo j hj gZ;omega) e
 | false=>
  rw[if_neg (by decide)]
  refine D1 C key λj hj=>?_
  rcases Nat.lt_or_ge j i with h1|h1
  ·have:=h.lo j hj h1;omega
  ·have:=h.up hs hk j hj h1;omega
theorem AtR.get{C:List Row}{key:Int}{i:Nat}(h:AtR C key i)(hs:fZ C):(fe C key).isSome=kn C key i/\∀hi:i<C.length,C[i].key=key->fe C key=some C[i].val:=by
 have h2:∀hi:i<C.length,C[i].key=key->fe C key=some C[i].val:=λhi e=>by
  unfold fe
  have:C.find? (λc=>decide (c.key=key))=some C[i]:=by
   rw[List.find?_eq_some_iff_getElem]
   refine⟨by simpa using e,i,hi,rfl,λj hj=>?_⟩
   have:=h.lo j (by omega) hj
   simp;omega
  rw[this];rfl
 refine⟨?_,h2⟩
 cases hk:kn C key i with
 | true=>
  obtain⟨hi,e⟩:=of_decide_eq_true hk
  rw[h2 hi e];rfl
 | false=>
  unfold fe
  have:C.find? (λc=>decide (c.key=key))=none:=by
   rw[List.find?_eq_none]
   intro x hx
   obtain⟨j,hj,rfl⟩:=List.getElem_of_mem hx
   rcases Nat.lt_or_ge j i with h1|h1
   ·have:=h.lo j hj h1;simp;omega
   ·have:=h.up hs hk j hj h1;simp;omega
  rw[this];rfl
theorem Eh:∀(C:List Row) (key:Int) (k:Nat),(∀j (h:j<C.length),j<k->C[j].key<=key)->(∀j (h:j<C.length),k<=j->key<C[j].key)->C.filter (λr=>decide (key<r.key))=C.drop k
 | [],key,k,_,_=>by simp
 | x::C,key,0,_,h2=>by
  rw[List.drop_zero,List.filter_eq_self]
  intro y hy
  obtain⟨j,hj,rfl⟩:=List.getElem_of_mem hy
  exact decide_eq_true (h2 j hj (Nat.zero_le _))
 | x::C,key,k+1,h1,h2=>by
  have hx:x.key<=key:=h1 0 (by simp) (by omega)
  rw[List.filter_cons,if_neg (by simp;omega),List.drop_succ_cons]
  exact Eh C key k (λj h hj=>by have:=h1 (j+1) (by simpa using h) (by omega);simpa using this) (λj h hj=>by have:=h2 (j+1) (by simpa using h) (by omega);simpa using this)
theorem AtR.after{C:List Row}{key:Int}{i:Nat}(h:AtR C key i)(hs:fZ C)(n:Int):iu C key n=(C.drop (if kn C key i=true then i+1 else i)).take n.toNat:=by
 unfold iu
 cases hk:kn C key i with
 | true=>
  obtain⟨hi,e⟩:=of_decide_eq_true hk
  rw[if_pos rfl,Eh C key (i+1) (λj hj gZ=>?_) (λj hj gZ=>h.gt hs j hj (by omega))]
  rcases Nat.lt_or_ge j i with h1|h1
  ·have:=h.lo j hj h1;omega
  ·obtain rfl:j=i:=by omega
   omega
 | false=>
  rw[if_neg (by decide),Eh C key i (λj hj gZ=>by have:=h.lo j hj gZ;omega) (λj hj gZ=>h.up hs hk j hj gZ)]
def l_(C:List Row)(l:List Row):List Row:=l.foldl f' C
theorem Pz:∀(C:List Row) (r:Row),(∀x∈C,x.key<r.key)->f' C r=C++[r]
 | [],r,_=>rfl
 | x::C,r,h=>by
  unfold f'
  rw[if_pos (h x (.head _)),Pz C r λy hy=>h y (.tail _ hy)];rfl
theorem RQ:∀(l C:List Row),fZ (C++l)->l_ C l=C++l
 | [],C,_=>by simp[l_]
 | r::l,C,h=>by
  have h1:f' C r=C++[r]:=Pz C r λx hx=>(List.pairwise_append.1 h).2.2 x hx r (.head _)
  show l_ (f' C r) l=_
  rw[h1,RQ l (C++[r]) (by simpa using h)];simp
theorem aF7{l:List Row}(h:fZ l):l_ [] l=l:=RQ l [] h
theorem RP:∀(l:List Row) {C:List Row},fZ C->fZ (l_ C l)
 | [],C,h=>h
 | r::l,C,h=>RP l (C:=f' C r) (G0 h r)
theorem RO:∀(l:List Row) (C:List Row),(l_ C l).length<=C.length+l.length
 | [],C=>by simp[l_]
 | r::l,C=>by
  have h1:=RO l (f' C r)
  have h2:=F1 C r
  show (l_ (f' C r) l).length<=_
  rw[List.length_cons];omega
theorem aF8{l:List Row}{i:Nat}(h:i<l.length)(C:List Row):l_ C (l.take (i+1))=f' (l_ C (l.take i)) l[i]:=by
 unfold l_
 rw[List.take_succ_eq_append_getElem h,List.foldl_append];rfl
end Go.Proofs.YtfenmffiidchcaaGreat
