/-
  Texts of the proof, joined: Lib3, LawS, FldS3, SegS, SegS2, R01S, R01S2, BatchE, ItemR, BatchD, BatchR, TxnM, ImgM, WalM, WalP, SrcM, WinM, WalP2, WalP3, WalP4, WalM2, FrameM, SrcP, WalP5, SrcI, SrcK, SrcT, RefFS, IdxM.
-/
import Derived.Test.YtfenmffiidchcaaGreatJ7
import Derived.ProofKit
import Derived.OpenShut
import Derived.SizedLaws
import Derived.Deep.Slices
import Derived.JoinedCond
import Derived.Test.YtfenmffiidchcaaGreatQVcM
import Derived.Test.YtfenmffiidchcaaGreatQVcF
namespace Go.Proofs.YtfenmffiidchcaaGreat
set_option linter.unusedVariables false
open Go.RowKit Go.ChangeShapes Go.WideShapes Go.ChangeAt
def tUnit:GoT Unit:=.plain 0 (λ_=>[]) (λ_=>rfl) (λ_ u hu=>by cases hu)
def tPair{α β:Type}(S:GoT α)(T:GoT β):GoT (α × β) where
 n:=S.n+T.n
 rd:=λw M x cs=>∃c1 c2,cs=c1++c2∧S.rd w M x.1 c1∧T.rd w M x.2 c2
 len:=λ⟨c1,c2,h,h1,h2⟩=>by rw[h,List.length_append,S.len h1,T.len h2]
 one:=λ⟨c1,c2,h,h1,h2⟩ u hu=>by
  subst h
  rcases List.mem_append.1 hu with hu|hu
  ·exact S.one h1 u hu
  ·exact T.one h2 u hu
 keep:=λ⟨c1,c2,h,h1,h2⟩ hf hM=>⟨c1,c2,h,S.keep h1 hf hM,T.keep h2 hf hM⟩
def GoT.via{α β:Type}(T:GoT α)(f:β→α):GoT β where
 n:=T.n
 rd:=λw M y cs=>T.rd w M (f y) cs
 len:=λh=>T.len h
 one:=λh=>T.one h
 keep:=λh=>T.keep h
def Small{H:Type}(P:Program)(t:TypeId)(d:DataW H):Prop:=(d.weights P t).all (·≤reachBytes)=true
def Opens{α:Type}(P:Program)(t:TypeId)(T:GoT α)(ok:α→Prop):Prop:=
 P.cellsOf t=T.n∧∀{H:Type} (enc:TypeId × Value→H) (w:World) (sp:Nat→Bool) (hd:Bool) (fuel:Nat) (cs:List Value) (x:DataW H × List MemPlace),
  DataW.trod enc P w 0 sp hd fuel t cs=some x→Small P t x.1→∃a,T.rd w Nob a cs∧ok a
def inK(k:IntKind)(n:Int):Prop:=(Lit.int k n).wf=true
theorem inK_i64{n:Int}(h:inK .i64 n): -9223372036854775808≤n∧n≤9223372036854775807:=by
 simpa [inK,Lit.wf,IntKind.min,IntKind.max,IntKind.signed,IntKind.bits] using h
theorem opens_int{P:Program}{t:TypeId}{k:IntKind}(ht:P.underlying t=some (.int k))(hc:P.cellsOf t=1):Opens P t (tInt k) (inK k):=
 ⟨hc,λenc w sp hd fuel cs x h _=>by
  obtain⟨n,rfl,rfl,hw⟩:=DataW.trod_int ht h
  exact⟨n,rfl,hw⟩⟩
theorem qC{P:Program}{t:TypeId}(ht:P.underlying t=some .bool)(hc:P.cellsOf t=1):Opens P t tBool (λ_=>True):=
 ⟨hc,λenc w sp hd fuel cs x h _=>by
  obtain⟨n,rfl,rfl⟩:=DataW.trod_bool ht h
  exact⟨n,rfl,trivial⟩⟩
def okStr(s:ByteArray):Prop:=s.size≤140737488351232
theorem QR{P:Program}{t:TypeId}(ht:P.underlying t=some .string)(hc:P.cellsOf t=1):Opens P t tStr okStr:=
 ⟨hc,λenc w sp hd fuel cs x h hs=>by
  obtain⟨n,rfl,rfl,hw⟩:=DataW.trod_string ht h
  refine⟨n,rfl,?_⟩
  simp[Small,DataW.weights,reachBytes]at hs
  exact (of_decide_eq_true hs:n.size≤140737488351232)⟩
def okSlice{α:Type}(b:Nat)(ok:α→Prop)(xs:List α):Prop:=xs.length*b≤140737488351232∧∀x∈xs,ok x
theorem weightsAll_mem{H:Type}{P:Program}{e:TypeId}{n:Nat}:∀{l:List (DataW H)},(DataW.weightsAll P e l).all (·≤n)=true→∀d∈l,(d.weights P e).all (·≤n)=true
 | [],_,_,h=>by cases h
 | x::r,h,d,hd=>by
  simp only[DataW.weightsAll,List.all_append,Bool.and_eq_true]at h
  rcases List.mem_cons.1 hd with rfl|hd
  ·exact h.1
  ·exact weightsAll_mem h.2 d hd
theorem choose_list{α:Type}{p:Nat→α→Prop}:∀(n:Nat),(∀i,i<n→∃y,p i y)→∃ys:List α,ys.length=n∧∀i (h:i<ys.length),p i ys[i]
 | 0,_=>⟨[],rfl,λi h=>by simp at h⟩
 | n+1,h=>by
  obtain⟨ys,hl,hy⟩:=choose_list n (λi hi=>h i (by omega))
  obtain⟨y,hy'⟩:=h n (by omega)
  refine⟨ys++[y],by simp[hl],λi hi=>?_⟩
  by_cases hlt:i<ys.length
  ·rw[List.getElem_append_left hlt];exact hy i hlt
  ·have:i=n:=by simp at hi;omega
   subst this
   rw[List.getElem_append_right (by omega)]
   simpa [hl] using hy'
theorem opens_slice{α:Type}{P:Program}{t e:TypeId}{T:GoT α}{ok:α→Prop}{b:Nat}(h:Opens P e T ok)(ht:P.underlying t=some (.slice e))(hc:P.cellsOf t=1)(hb:P.bytesOf e=b)(hpos:0<T.n):Opens P t (tSlice T) (okSlice b ok):=by
 refine⟨hc,λenc w sp hd fuel cs x hx hs=>?_⟩
 rcases Go.Deep.open_slice ht hx with ⟨rfl,rfl⟩|⟨a,len,cap,m,n,D,Pl,rfl,_,hl,hm,hmm,rfl,hel⟩
 ·exact⟨[],⟨_,rfl,RdS.nil T w Nob⟩,by simp,λx hx=>by cases hx⟩
 ·have hle:len≤m:=by rw[hmm];split<;>omega
  simp only[Small,DataW.weights,ht,hb,List.all_cons,List.all_append,Bool.and_eq_true,decide_eq_true_eq,List.length_map,List.length_range]at hs
  have hel':∀i,i<len→∃y:α,ok y∧∃cs',T.rd w Nob y cs'∧At w Nob a.block (a.off+i*T.n) cs'∧a=⟨a.block,a.off,none⟩:=λi hi=>by
   obtain⟨cs',h1,h2⟩:=hel i (by omega)
   obtain⟨y,hy,hok⟩:=h.2 enc w sp hd n cs' _ h2 (weightsAll_mem hs.2.1 _ (List.mem_map.2 ⟨i,by simpa using hi,rfl⟩))
   obtain⟨_,hlen,hcell⟩:=World.cells?_some h1
   have hsp:a.spot=none:=by
    have h0:=hcell 0 (by rw[h.1];exact hpos)
    rw[List.getElem?_eq_getElem (by rw[hlen,h.1];exact hpos)]at h0
    cases hsp:a.spot with
    | none=>rfl
    | some q=>
     exfalso
     by_cases hi0:i*P.cellsOf e=0
     ·simp[Addr.add,hi0,World.cell?,hsp]at h0
      split at h0<;>cases h0
     ·have h00:=hel 0 (by omega)
      obtain⟨cs0,h10,_⟩:=h00
      obtain⟨_,hlen0,hcell0⟩:=World.cells?_some h10
      have h0':=hcell0 0 (by rw[h.1];exact hpos)
      rw[List.getElem?_eq_getElem (by rw[hlen0,h.1];exact hpos)]at h0'
      simp[Addr.add,World.cell?,hsp]at h0'
      split at h0'<;>cases h0'
   obtain⟨ab,ao,asp⟩:=a
   simp only at hsp
   subst hsp
   refine⟨y,hok,cs',hy,⟨λ_ x=>x,λj u hu=>?_⟩,rfl⟩
   have hj:=(List.getElem?_eq_some_iff.1 hu).1
   have:=hcell j (by omega)
   rw[Addr.add_lit,Addr.add_lit,hu,h.1]at this
   exact this
  obtain⟨ys,hyl,hy⟩:=choose_list len hel'
  subst hyl
  refine⟨ys,⟨_,rfl,some a,cap,rfl,hl,λi hi=>?_⟩,?_,λx hx=>?_⟩
  ·obtain⟨_,cs',h1,h2,h3⟩:=hy i hi
   exact⟨a.block,a.off,cs',congrArg some h3,h1,h2⟩
  ·have:=hs.1
   simp only[reachBytes]at this
   rw[Nat.add_mul]at this
   omega
  ·obtain⟨i,hi,rfl⟩:=List.getElem_of_mem hx
   exact (hy i hi).1
def FieldsOpen{α:Type}(P:Program)(fs:List Field)(o:Nat)(T:GoT α)(ok:α→Prop):Prop:=
 ∀{H:Type} (enc:TypeId × Value→H) (w:World) (sp:Nat→Bool) (hd:Bool) (n:Nat) (cs:List Value) (xs:List (DataW H × List MemPlace)),xs.length=fs.length →
  (∀(i:Nat) (f:Field),fs[i]?=some f→DataW.trod enc P w 0 sp hd n f.type ((cs.drop f.offset).take (P.cellsOf f.type))=xs[i]?) →
  (DataW.weightsEach P (fs.map (·.type)) (xs.map (·.1))).all (·≤reachBytes)=true→cs.length=o+T.n→∃a,T.rd w Nob a (cs.drop o)∧ok a
theorem fields_nil(P:Program)(o:Nat):FieldsOpen P [] o tUnit (λ_=>True):=λenc w sp hd n cs xs _ _ _ hl=>⟨(),by
 show cs.drop o=[]
 rw[List.drop_eq_nil_iff];have:tUnit.n=0:=rfl;omega,trivial⟩
theorem fields_cons{α β:Type}{P:Program}{f:Field}{fs:List Field}{o:Nat}{S:GoT α}{T:GoT β}{ok1:α→Prop}{ok2:β→Prop}(h1:Opens P f.type S ok1)(ho:f.offset=o)(h2:FieldsOpen P fs (o+S.n) T ok2):
  FieldsOpen P (f::fs) o (tPair S T) (λx=>ok1 x.1∧ok2 x.2):=λenc w sp hd n cs xs hl hx hs hc=>by
 match xs,hl with
 | y::ys,hl=>
  have hcn:(tPair S T).n=S.n+T.n:=rfl
  simp only[List.map_cons,DataW.weightsEach,List.all_append,Bool.and_eq_true]at hs
  have e0:=hx 0 f rfl
  rw[ho,h1.1]at e0
  obtain⟨a,ha,hoka⟩:=h1.2 enc w sp hd n _ y e0 hs.1
  obtain⟨b,hb,hokb⟩:=h2 enc w sp hd n cs ys (by simpa using hl) (λi g hg=>by simpa using hx (i+1) g (by simpa using hg)) hs.2 (by omega)
  refine⟨(a,b),⟨_,_,?_,ha,hb⟩,hoka,hokb⟩
  rw[← List.drop_drop]
  exact (List.take_append_drop _ _).symm
theorem Yw{α:Type}{P:Program}{t:TypeId}{fs:Array Field}{T:GoT α}{ok:α→Prop}(ht:P.underlying t=some (.struct fs))(hc:P.cellsOf t=T.n)(h:FieldsOpen P fs.toList 0 T ok):Opens P t T ok:=
 ⟨hc,λenc w sp hd fuel cs x hx hs=>by
  obtain⟨xs,n,_,rfl,hl,hlen,hf⟩:=DataW.trod_struct ht hx
  simp only[Small,DataW.weights,ht]at hs
  obtain⟨a,ha,hok⟩:=h enc w sp hd n cs xs (by simpa using hlen) (λi f hi=>hf i f (by simpa using hi)) hs (by omega)
  exact⟨a,by simpa using ha,hok⟩⟩
theorem QS{α β:Type}{P:Program}{t:TypeId}{T:GoT α}{ok:α→Prop}(f:β→α)(g:α→β)(hg:∀a,f (g a)=a)(h:Opens P t T ok):Opens P t (T.via f) (λb=>ok (f b)):=
 ⟨h.1,λenc w sp hd fuel cs x hx hs=>by
  obtain⟨a,ha,hok⟩:=h.2 enc w sp hd fuel cs x hx hs
  exact⟨g a,by show T.rd w Nob (f (g a)) cs;rw[hg];exact ha,by show ok (f (g a));rw[hg];exact hok⟩⟩
theorem opens_ok{α:Type}{P:Program}{t:TypeId}{T:GoT α}{ok ok':α→Prop}(h:Opens P t T ok)(hi:∀a,ok a→ok' a):Opens P t T ok':=
 ⟨h.1,λenc w sp hd fuel cs x hx hs=>let ⟨a,ha,hok⟩:=h.2 enc w sp hd fuel cs x hx hs;⟨a,ha,hi a hok⟩⟩
theorem trodAll_below{H:Type}{enc:TypeId × Value→H}{P:Program}(hl:laidOutB P=true){W W':World}(hb:Below W.heap.size W W'):∀{ts:List TypeId} {vs:List Value} {ds:List (DataW H)} {ps:List MemPlace},
  (∀t∈ts,P.readableRec t=true∧t<P.types.size)→DataW.TrodAll enc P W 0 (λ_=>true) true ts vs ds ps→(∀x∈ps,x.block<W.heap.size)→DataW.TrodAll enc P W' 0 (λb=>decide (b<W.heap.size)) true ts vs ds ps
 | [],_,_,_,_,h,_=>by
  obtain⟨rfl,rfl,rfl⟩:=trodAll_nil h
  exact trodAll_mk0
 | t::ts,_,_,_,hr,h,hlt=>by
  obtain⟨v,vs1,d,ds1,a,b,rfl,rfl,rfl,h1,h2⟩:=trodAll_cons h
  exact⟨a,b,Below.trod hl (hr t (by simp)).1 (hr t (by simp)).2 h1 hb (λx hx=>hlt x (by simp[hx])),trodAll_below hl hb (λt ht=>hr t (by simp[ht])) h2 (λx hx=>hlt x (by simp[hx])),rfl⟩
theorem law_post{H:Type}{enc:TypeId × Value→H}{P:Program}{f:Func}{s:ChangeSpec}{tb:TypeId}(hl:laidOutB P=true)(hr:∀t∈f.params.toList,P.readableRec t=true∧t<P.types.size)
  (hvars:s.vars=[]) (hres:f.resultTypes = #[tb]) (hb:P.underlying tb=some .bool) (hfn:∀ds:List (DataW H),ds.length=f.params.size→(s.fn H ds).results=[.lit (.bool true)]∧(s.fn H ds).args=ds∧(s.fn H ds).vars=[])
  {W W':World} {args:Array Value} {ds gs:List (DataW H)} {before:List MemPlace} (hW:DataW.Whole enc P f.params.toList s.vars false W args.toList ds gs before) (hbel:Below W.heap.size W W') :
  s.post enc P f false true false false W args (.bool true) W':=by
 have hlt:=hW.lt
 have hW':=hW
 obtain⟨p,q,hA,hV,rfl,hfz,_⟩:=hW
 rw[hvars]at hV
 obtain⟨rfl,rfl⟩:=trodVars_none hV
 have hlen:∀{ts:List TypeId} {vs:List Value} {ds:List (DataW H)} {ps:List MemPlace} {w:World} {base:Nat} {sp:Nat→Bool} {hd:Bool},DataW.TrodAll enc P w base sp hd ts vs ds ps→ds.length=ts.length:=by
  intro ts
  induction ts with
  | nil=>intro vs ds ps w base sp hd h;obtain⟨rfl,rfl,rfl⟩:=trodAll_nil h;rfl
  | cons t ts ih=>intro vs ds ps w base sp hd h;obtain⟨v,vs1,d,ds1,a,b,rfl,rfl,rfl,_,h2⟩:=trodAll_cons h;simp[ih h2]
 obtain⟨e1,e2,e3⟩:=hfn ds (by simpa using hlen hA)
 refine⟨ds,[],p++[],[],p,[],hW',?_,?_,?_,hbel.frame _,λh=>by cases h⟩
 ·rw[List.append_nil,e1,hres]
  exact trodAll_mk1 (shut_bool hb true)
 ·rw[List.append_nil,e2]
  exact trodAll_below hl hbel hr hA (λx hx=>hlt x (by simp[hx]))
 ·rw[List.append_nil,e3,hvars]
  rfl
def isFlat:Option TypeDesc→Bool
 | some .bool|some (.int _)|some .string|some (.slice _)=>true
 | _=>false
theorem flat_one{P:Program}{w:World}{r:Reach}{b0:Nat}{t:TypeId}{v:Value}(hf:isFlat (P.underlying t)=true)(hval:Value.okWide P w r b0 t v):v.cells.toList=[v]:=by
 unfold Value.okWide at hval
 cases hu:P.underlying t with
 | none=>rw[hu]at hf;cases hf
 | some d=>
  rw[hu]at hf hval
  cases d<;>first|(cases hf;done)|(unfold Cell.okWide Cell.ok at hval;rw[hu]at hval;cases v<;>first|rfl|(exfalso;simp_all))
theorem arg_one{α:Type}{P:Program}{t:TypeId}{T:GoT α}{ok:α→Prop}{H:Type}{enc:TypeId × Value→H}{W:World}{r:Reach}{b0:Nat}{v:Value}{d:DataW H}{ps:List MemPlace}{sp:Nat→Bool}{hd:Bool}
  (h:Opens P t T ok) (hf:isFlat (P.underlying t)=true) (hval:Value.okWide P W r b0 t v) (h0:DataW.Trod enc P W 0 sp hd t v d ps) (hs:Small P t d):∃a,T.rd W Nob a [v]∧ok a:=by
 obtain⟨fuel,hx⟩:=h0
 rw[flat_one hf hval]at hx
 exact h.2 enc W sp hd fuel [v] _ hx hs
theorem arg_agg{α:Type}{P:Program}{t:TypeId}{fs:Array Field}{T:GoT α}{ok:α→Prop}{H:Type}{enc:TypeId × Value→H}{W:World}{r:Reach}{b0:Nat}{v:Value}{d:DataW H}{ps:List MemPlace}{sp:Nat→Bool}{hd:Bool}
  (h:Opens P t T ok) (ht:P.underlying t=some (.struct fs)) (hval:Value.okWide P W r b0 t v) (h0:DataW.Trod enc P W 0 sp hd t v d ps) (hs:Small P t d):∃a cs,v= .agg cs∧T.rd W Nob a cs.toList∧ok a:=by
 obtain⟨fuel,hx⟩:=h0
 unfold Value.okWide at hval
 rw[ht]at hval
 obtain⟨cs,rfl,_⟩:=hval
 obtain⟨a,h1,h2⟩:=h.2 enc W sp hd fuel _ _ hx hs
 exact⟨a,cs,rfl,h1,h2⟩
end Go.Proofs.YtfenmffiidchcaaGreat
namespace Go.Proofs.YtfenmffiidchcaaGreat
set_option linter.unusedVariables false
open Go.RowKit
def LawS(P:Program)(f:FuncId)(args:List Value)(w:World):Prop:=z6 P f args w λv w'=>v= .bool true∧Below w.heap.size w w'
theorem YW{P:Program}{f:FuncId}{args:List Value}{w:World}(h:Spec P f args [.mem (Heap.of w)] λv post=>v= .bool true∧∃H l,(Heap.of w).le H∧post= .mem H::l):LawS P f args w:=by
 refine (h w [] w (SL.init w)).mono ?_
 rintro v w' ⟨post,⟨rfl,H,l,hH,rfl⟩,hS⟩
 exact⟨rfl,hS.below (.hd) hH⟩
theorem LawS.calls{P:Program}{f:FuncId}{args:List Value}{w:World}(h:LawS P f args w):Calls P f args.toArray w λe w'=>e= .returned (.bool true)∧Below w.heap.size w w':=
 Calls.mono h λe w' ⟨v,he,hv,hb⟩=>⟨by rw[he,hv],hb⟩
theorem RdS.flat{α:Type}{T:GoT α}{enc:α→List Value}{w:World}{xs:List α}{v:Value}(h:RdS T w Nob xs v)(he:∀{M x cs},T.rd w M x cs→cs=enc x)(hn:∀x,(enc x).length=T.n):
  RdSl (Heap.of w) T.n v xs.length (xs.map enc).flatten:=by
 obtain⟨a,cap,rfl,hc,hx⟩:=h.out
 have hlen:(xs.map enc).flatten.length=xs.length*T.n:=by
  rw[flatten_length (n:=T.n) _ (λx hx=>by obtain⟨y,_,rfl⟩:=List.mem_map.1 hx;exact hn y),List.length_map]
 refine⟨hlen,a,cap,rfl,hc,?_⟩
 rcases Nat.eq_zero_or_pos xs.length with h0|h0
 ·exact .inl h0
 ·right
  obtain⟨b,off,_,rfl,_,_⟩:=hx 0 h0
  refine⟨b,off,rfl,λj u hu=>?_⟩
  have hj:=(List.getElem?_eq_some_iff.1 hu).1
  rcases Nat.eq_zero_or_pos T.n with hz|hz
  ·rw[hlen,hz]at hj;omega
  have hi:j / T.n<xs.length:=by rw[hlen]at hj;exact (Nat.div_lt_iff_lt_mul hz).2 hj
  obtain⟨b',off',cs,hab,hr,hat⟩:=hx (j / T.n) hi
  simp at hab
  obtain⟨rfl,rfl⟩:=hab
  have hcs:=he hr
  subst hcs
  have hmod:j % T.n<(enc xs[j / T.n]).length:=by rw[hn];exact Nat.mod_lt _ hz
  have hg:=flatten_get (n:=T.n) (xs.map enc) (λx hx=>by obtain⟨y,_,rfl⟩:=List.mem_map.1 hx;exact hn y) (j / T.n) (j % T.n) (by simpa using hi) ((enc xs[j / T.n])[j % T.n]'hmod) (by simp[List.getElem?_eq_getElem hmod])
  have hdm:j / T.n*T.n+j % T.n=j:=by rw[Nat.mul_comm];exact Nat.div_add_mod j T.n
  rw[hdm]at hg
  rw[hu]at hg
  have hu':u=(enc xs[j / T.n])[j % T.n]:=Option.some.inj hg
  have:=hat.2 (j % T.n) u (by rw[hu'];exact List.getElem?_eq_getElem hmod)
  rw[show off+j / T.n*T.n+j % T.n=off+j by omega]at this
  unfold World.cell? at this
  unfold Heap.cell Heap.of
  simp only at this ⊢
  split at this
  ·rename_i c t f he';rw[he'];simpa using this
  ·cases this
theorem flat_get{α:Type}{enc:α→List Value}{n:Nat}{xs:List α}(hn:∀x,(enc x).length=n){j i:Nat}(hj:j<xs.length){u:Value}(hu:(enc xs[j])[i]?=some u):((xs.map enc).flatten)[j*n+i]?=some u:=
 flatten_get (n:=n) (xs.map enc) (λx hx=>by obtain⟨y,_,rfl⟩:=List.mem_map.1 hx;exact hn y) j i (by simpa using hj) u (by simpa using hu)
set_option maxRecDepth 100000
structure Rdn(X:Chunk)(sz:Nat)(v:Value)(n:Nat)(cs:List Value):Prop where
 sl:∀{W w:World} {l:List Chunk},SL W l w→Has X l→∃a c,v= .slice a n c∧n≤c
 src:∀{W w:World} {l:List Chunk},SL W l w→Has X l→srcCells w sz v n cs
theorem Rdn.own{v:Value}{t:TypeId}{sz n:Nat}{cs:List Value}:Rdn (.ob (OwnSl v t sz n cs)) sz v n cs:=
 ⟨λh m=>by
  obtain⟨l2,r⟩:=m.rem
  rcases OwnSl.open (h.perm r.perm) with ⟨⟨a',rfl⟩,rfl,_,_⟩|⟨b',cap',rest,rfl,hc,_⟩
  ·exact⟨a',0,rfl,Nat.le_refl _⟩
  ·exact⟨_,_,rfl,hc⟩,λh m=>src_own h m⟩
theorem Rdn.pt{p n sz:Nat}{t:TypeId}{cs:List Value}(h:cs.length=n*sz):Rdn (.pt p cs t) sz (.slice (some ⟨p,0,none⟩) n n) n cs:=
 ⟨λ_ _=>⟨_,_,rfl,Nat.le_refl _⟩,λhS m=>src_pt0 hS m h⟩
section
variable {W w:World} {l:List Chunk} {X:Chunk} {v:Value} {sz n:Nat} {cs:List Value}
theorem Zt{K:Value→Prop}(hS:SL W l w)(m:Has X l)(hb:Rdn X sz v n cs)(k:K (.int .i64 n)):zf v K:=by
 obtain⟨a,c,rfl,_⟩:=hb.sl hS m
 exact yj k
theorem qi{α:Type}{enc:α→List Value}{xs:List α}{j:Nat}{kk:IntKind}{K:Value→Prop}(hS:SL W l w)(m:Has X l)(hb:Rdn X sz v n (xs.map enc).flatten)(he:∀x,(enc x).length=sz)(hsz:0<sz)(hx:xs.length=n)(hj:j<n)
  (hK:K (.agg (enc (xs[j]'(by omega))).toArray)):zj sz v (.int kk (j:Int)) λp=>zk sz p w K:=by
 obtain⟨a,c,rfl,hc⟩:=hb.sl hS m
 have hs:=hb.src hS m
 have hlen:(xs.map enc).flatten.length=n*sz:=by
  rw[← hx];clear hx hs hb hK hj hc
  induction xs with
  | nil=>simp
  | cons x xs ih=>simp[he,ih,Nat.add_mul];omega
 cases a with
 | none=>
  have e:(xs.map enc).flatten=[]:=hs.2
  have e2:(enc (xs[j]'(by omega))).length=0:=by
   rw[e]at hlen
   simp only[List.length_nil]at hlen
   rw[he]
   rcases Nat.eq_zero_or_pos sz with h|h
   ·exact h
   ·have:0<n*sz:=Nat.mul_pos (by omega) h
    omega
  rw[he]at e2;omega
 | some p=>
  refine⟨p,_,c,kk,j,rfl,rfl,hj,?_⟩
  refine⟨_,enc (xs[j]'(by omega)),rfl,he _,λi u hu=>?_,hK⟩
  rw[addr_add2]
  refine hs.2.2 (j*sz+i) u ?_
  exact flat_get he (by omega) hu
end
def EncQ(X:Chunk)(l:List PFd)(u:Value)(post:List Chunk):Prop:=match encFs l with
 | .error e=>u= .tuple #[.slice none 0 0,.int .i64 e]∧post=[X]
 | .ok b=>∃v,u= .tuple #[v,.int .i64 0]∧post=[.ob (OwnSl v 5 1 b.length (b.map u8c)),X]
theorem EncQ.er{X:Chunk}{l:List PFd}{e:Int}(h:encFs l= .error e):EncQ X l (.tuple #[.slice none 0 0,.int .i64 e]) [X]:=by
 unfold EncQ;rw[h];exact⟨rfl,rfl⟩
theorem EncQ.ok{X:Chunk}{l:List PFd}{b:List UInt8}(h:encFs l= .ok b)(v:Value):EncQ X l (.tuple #[v,.int .i64 0]) [.ob (OwnSl v 5 1 b.length (b.map u8c)),X]:=by
 unfold EncQ;rw[h];exact⟨v,rfl,rfl⟩
theorem encF_len{x:PFd}(h:rightF x=true):(encF x).length≤5000:=by
 unfold encF
 unfold rightF at h
 by_cases h1:x.kind=1
 ·rw[if_pos h1];simp[numB_len]
 ·rw[if_neg h1]at h ⊢
  by_cases h2:x.kind=2
  ·rw[if_pos h2]at h
   have h3:x.s.size≤4096:=by
    rw[Bool.and_eq_true]at h
    exact of_decide_eq_true h.2
   have:x.s.data.toList.length=x.s.size:=rfl
   simp only[List.length_cons,List.length_append,numB_len];omega
  ·rw[if_neg h2]at h;cases h
theorem encFl_len:∀{l:List PFd},l.all rightF=true→(l.map encF).flatten.length≤l.length*5000
 | [],_=>by simp
 | x::l,h=>by
  rw[List.all_cons,Bool.and_eq_true]at h
  have h1:=encF_len h.1
  have h2:=encFl_len h.2
  simp only[List.map_cons,List.flatten_cons,List.length_append,List.length_cons];omega
theorem Zw(X:Chunk)(v:Value)(xs:List PFd)(hx:Rdn X 3 v xs.length (xs.map fdcells).flatten)(hN:xs.length≤140737488355328):SP 228 [v] [X] (EncQ X xs):=by
 intro W F w hS;apply vc228;unfold Vc228;(try simp only[app]at hS)
 refine Zt hS .hd hx ?_
 refine Gp ?_
 refine zc (λh=>?_) (λh=>?_)
 ·exact⟨_,.er (by unfold encFs;rw[if_pos (by omega)]),hS⟩
 ·refine Zt hS .hd hx ?_
  refine zR ?_
  rw[wrap_u64 (by omega) (by omega)]
  have hS:=OwnSl.nil (t:=5) (sz:=1) hS
  have hS:SL W (.ob (OwnSl (.slice none 0 0) 5 1 ([]:List UInt8).length (([]:List UInt8).map u8c))::X::F) w:=hS
  (refine Cc (Zo [] (.slice none 0 0) xs.length 2 (by omega) (by simp)) ?_;clear hS)
  rintro v13 post rfl w hS;(try simp only[app]at hS)
  rw[List.nil_append]at hS
  refine Zt hS Xh hx ?_
  have hb:∀i,i≤xs.length→(xs.take i).all rightF=true→(numB xs.length 2++((xs.take i).map encF).flatten).length≤200000000:=λi hi ha=>by
   have:=encFl_len ha
   rw[List.length_append,numB_len]
   rw[List.length_take]at this
   omega
  refine⟨λvs w=>∃(i:Nat) (u:Value),i≤xs.length∧vs=[u,.int .i64 i]∧(xs.take i).all rightF=true∧SL W (.ob (OwnSl u 5 1 (numB xs.length 2++((xs.take i).map encF).flatten).length ((numB xs.length 2++((xs.take i).map encF).flatten).map u8c))::X::F) w,λvs _=>match vs with
   | [_,.int _ i]=>xs.length-i.toNat
   | _=>0,⟨0,v13,by omega,rfl,rfl,(by simpa using hS)⟩,?_⟩
  clear hS
  rintro u1 u2 w1 ⟨i,u,hi,hv,ha,hS⟩
  cases hv
  have hbi:=hb i hi ha
  refine Gp ?_
  refine zc (λh=>?_) (λh=>?_)
  ·have hi:i<xs.length:=by omega
   refine qi hS Xh hx fdcells_len (by omega) rfl hi ?_
   have hxi:xs[i]∈xs:=List.getElem_mem hi
   have htk:xs.take (i+1)=xs.take i++[xs[i]]:=by rw[List.take_add_one];simp[hi]
   generalize xs[i]=x at *
   unfold fdcells
   refine Gm λb w hS=>?_
   (refine Cc (Y8 x) ?_;clear hS)
   rintro v post ⟨rfl,rfl⟩ w hS;(try simp only[app]at hS)
   refine zP ?_
   cases hr:rightF x with
   | false=>
    refine zy ?_
    refine⟨[X],.er ?_,SL.into hS Xi⟩
    unfold encFs
    rw[if_neg (by omega),if_neg]
    intro h
    have:=List.all_eq_true.1 h x hxi
    rw[hr]at this;cases this
   | true=>
    refine zt ?_
    have ha2:(xs.take (i+1)).all rightF=true:=by rw[htk,List.all_append,ha];simp[hr]
    have hb2:=hb (i+1) (by omega) ha2
    have hen:((xs.take (i+1)).map encF).flatten=((xs.take i).map encF).flatten++encF x:=by rw[htk];simp
    rw[hen]at hb2
    rw[List.length_append,List.length_append]at hb2
    have hk:x.kind=1∨x.kind=2:=by
     unfold rightF at hr
     by_cases h1:x.kind=1
     ·exact .inl h1
     ·rw[if_neg h1]at hr
      by_cases h2:x.kind=2
      ·exact .inr h2
      ·rw[if_neg h2]at hr;cases hr
    generalize hc:numB xs.length 2++((xs.take i).map encF).flatten=c at *
    have hcl:c.length+(encF x).length≤200000000:=by rw[← hc,List.length_append];omega
    refine Gp ?_
    refine zR ?_
    rw[wrap_u8]
    refine zB (cells:=[u8c (lowB x.kind)]) hS rfl ?_
    clear hS;intro p w hS
    refine zz (m:=1) (cs:=[u8c (lowB x.kind)]) hS Xr (src_pt0 hS .hd rfl) rfl rfl (by intro v hv;simp only[List.mem_singleton]at hv;subst hv;rfl) (by omega) (by omega) ?_
    clear hS;intro u' w hS
    refine Gp ?_
    have hS:SL W (.ob (OwnSl u' 5 1 (c++[lowB x.kind]).length ((c++[lowB x.kind]).map u8c))::.pt b [.int .i64 x.kind,.int .i64 x.n,.string x.s] 174::X::F) w:=by
     simp only[List.length_append,List.length_cons,List.length_nil,List.map_append,List.map_cons,List.map_nil]
     exact SL.into hS Xi
    refine zc (λh1=>?_) (λh1=>?_)
    ·refine Gp ?_
     refine zR ?_
     have eu:IntKind.u64.wrap x.n=unsig x.n:=rfl
     rw[eu]
     (refine Cc (Zo (c++[lowB x.kind]) u' (unsig x.n) 8 (by omega) (by simp;omega)) ?_;clear hS)
     rintro v36 post rfl w hS;(try simp only[app]at hS);refine Gp ?_
     refine⟨⟨i+1,v36,by omega,rfl,ha2,?_⟩,?_⟩
     ·have e:numB xs.length 2++((xs.take (i+1)).map encF).flatten=c++[lowB x.kind]++numB (unsig x.n) 8:=by
       rw[hen,← List.append_assoc,hc]
       have:encF x=lowB x.kind::numB (unsig x.n) 8:=by unfold encF;rw[if_pos h1]
       rw[this];simp
      rw[e]
      exact SL.into hS Xi
     ·simp only[Int.toNat_natCast];omega
    ·have hsz:x.s.size≤4096:=by
      unfold rightF at hr
      rw[if_neg h1,if_pos (by omega),Bool.and_eq_true]at hr
      exact of_decide_eq_true hr.2
     have hef:encF x=lowB x.kind::(numB x.s.size 2++x.s.data.toList):=by unfold encF;rw[if_neg h1]
     refine Gn λw hS=>?_
     refine zR ?_
     rw[wrap_u64 (by omega) (by omega)]
     refine Gp ?_
     (refine Cc (Zo (c++[lowB x.kind]) u' x.s.size 2 (by omega) (by simp;omega)) ?_;clear hS)
     rintro v42 post rfl w hS;(try simp only[app]at hS);refine Gp ?_
     have hsl:x.s.data.toList.length=x.s.size:=rfl
     have hel:(encF x).length=1+(2+x.s.size):=by rw[hef];simp only[List.length_cons,List.length_append,numB_len];omega
     refine zz (m:=x.s.size) (cs:=x.s.data.toList.map u8c) hS Xr src_str (by simp) rfl (u8c_one _) (by simp only[List.length_append,List.length_cons,List.length_nil,numB_len];omega) (by simp only[List.length_append,List.length_cons,List.length_nil,numB_len];omega) ?_
     clear hS;intro v45 w hS
     refine Gp ?_
     refine⟨⟨i+1,v45,by omega,rfl,ha2,?_⟩,?_⟩
     ·have e:numB xs.length 2++((xs.take (i+1)).map encF).flatten=(c++[lowB x.kind]++numB x.s.size 2)++x.s.data.toList:=by
       rw[hen,← List.append_assoc,hc,hef];simp
      rw[e]
      generalize c++[lowB x.kind]++numB x.s.size 2=A at *
      rw[List.length_append,List.map_append,hsl]
      exact SL.into hS Xi
     ·simp only[Int.toNat_natCast];omega
  ·obtain rfl:i=xs.length:=by omega
   rw[List.take_length]at hS ha
   exact⟨_,.ok (by unfold encFs;rw[if_neg (by omega),if_pos ha]) u1,hS⟩
abbrev BEnt:=Value × List UInt8
def BEntO(x:BEnt):zC:=OwnSl x.1 5 1 x.2.length (x.2.map u8c)
def vals(es:List BEnt):List Value:=es.map Prod.fst
def byts(es:List BEnt):List (List UInt8):=es.map Prod.snd
def ScanQ(X:Chunk)(q:List UInt8)(r:Value)(post:List Chunk):Prop:=∃(u:Value) (es:List BEnt),byts es=(scanA q).1∧r= .tuple #[u,.int .i64 ((scanA q).2:Nat)]∧post=[.ob (OwnSl u 62 1 es.length (vals es)),.ob (zh BEntO es),X]
theorem Q2(X:Chunk)(v:Value)(q:List UInt8)(hq:Rdb X v q)(hN:q.length≤10000000000):SP 279 [v] [X] (ScanQ X q):=by
 intro W F w hS;apply vc279;unfold Vc279;(try simp only[app]at hS)
 have hS:=OwnSl.nil (t:=62) (sz:=1) (zh.nil (A:=BEntO) hS)
 refine⟨λvs w=>∃(u:Value) (es:List BEnt) (at_:Nat),vs=[u,.int .i64 at_]∧at_≤q.length∧es.length*8≤at_∧byts es++(scanA (q.drop at_)).1=(scanA q).1∧at_+(scanA (q.drop at_)).2=(scanA q).2 ∧
   SL W (.ob (OwnSl u 62 1 es.length (vals es))::.ob (zh BEntO es)::X::F) w,λvs _=>match vs with
  | [_,.int _ i]=>q.length-i.toNat
  | _=>0,⟨_,[],0,rfl,Nat.zero_le _,Nat.le_refl _,rfl,by simp,hS⟩,?_⟩
 clear hS
 rintro u1 u2 w1 ⟨u,es,i,hv,hi,h8,h1,h2,hS⟩
 cases hv
 refine YJ hS Xh hq hi ?_
 intro v12 h12
 (refine Cc (Yp X v12 (q.drop i) h12 (by rw[List.length_drop];omega)) ?_;clear hS)
 intro v13 post hQ w hS
 unfold TakeQ at hQ
 cases ht:takeR (q.drop i) with
 | error e=>
  rw[ht]at hQ
  obtain⟨rfl,rfl⟩:=hQ
  (try simp only[app]at hS);refine Gp ?_
  have he:=takeR_err ht
  rw[scanA_er ht]at h1 h2
  refine zc (λ_=>?_) (λh=>by omega)
  refine⟨_,⟨u1,es,by simpa using h1,?_,rfl⟩,SL.into hS Xi⟩
  rw[← h2];rfl
 | ok x=>
  obtain⟨p,n⟩:=x
  rw[ht]at hQ
  obtain⟨y,rfl,rfl⟩:=hQ
  (try simp only[app]at hS);refine Gp ?_
  have hl:=takeR_len ht
  rw[scanA_ok ht]at h1 h2
  rw[List.length_drop]at hl
  refine zc (λh=>absurd rfl h) (λ_=>?_)
  have hone:=hS.ownOne .hd
  obtain⟨ay,cy,ey,_⟩:=OwnSl.at hS .hd
  subst ey
  refine zB (cells:=[.slice ay p.length cy]) hS rfl ?_
  clear hS;intro b w hS
  refine zz (m:=1) (cs:=[.slice ay p.length cy]) hS Xr (src_pt0 hS .hd rfl) rfl rfl (by intro v hv;simp only[List.mem_singleton]at hv;subst hv;rfl) (by omega) (by omega) ?_
  clear hS;intro u' w hS
  have hS:=zh.snoc (A:=BEntO) (xs:=es) (x:=(.slice ay p.length cy,p)) (SL.into hS (t:=.ob (zh BEntO es)::.ob (OwnSl (.slice ay p.length cy) 5 1 p.length (p.map u8c))::.ob (OwnSl u' 62 1 (es.length+1) (vals es++[.slice ay p.length cy]))::X::F) Xi)
  refine yd (a:=i) (b:=n) (by omega) ?_
  refine⟨⟨u',es++[(.slice ay p.length cy,p)],i+n,rfl,by omega,by simp;omega,?_,?_,?_⟩,?_⟩
  ·rw[← h1,← List.drop_drop];simp[byts]
  ·rw[← h2,← List.drop_drop];simp only;omega
  ·rw[show (es++[((Value.slice ay p.length cy,p):BEnt)]).length=es.length+1 by simp,show vals (es++[((Value.slice ay p.length cy,p):BEnt)])=vals es++[.slice ay p.length cy] by simp[vals]]
   exact SL.into hS Xi
  ·simp only[Int.toNat_natCast];omega
theorem encFs_hd{n:Nat}(h:n≤1099511627776):encFs [⟨1,n,⟨#[]⟩⟩]= .ok (hdB n):=by
 have e:unsig (n:Int)=(n:Int):=by unfold unsig;omega
 unfold encFs
 rw[if_neg (by simp),if_pos (by simp[rightF])]
 show Except.ok (numB ((1:Nat):Int) 2++(encF ⟨1,n,⟨#[]⟩⟩++[]))=_
 unfold encF
 rw[if_pos rfl,e]
 show Except.ok ([lowB ((1:Int).fdiv (2 ^ (8*1))),lowB ((1:Int).fdiv (2 ^ (8*0)))]++(lowB 1::numB n 8++[]))=_
 rw[List.append_nil]
 rfl
def HeadQ(n:Int)(r:Value)(post:List Chunk):Prop:=if n<1∨1099511627776<n then r= .tuple #[.slice none 0 0,.int .i64 1]∧post=[] else ∃u,r= .tuple #[u,.int .i64 0]∧post=[.ob (OwnSl u 5 1 (recB (hdB n.toNat)).length ((recB (hdB n.toNat)).map u8c))]
theorem YL(n:Int):SP 328 [.int .i64 n] [] (HeadQ n):=by
 intro W F w hS;apply vc328;unfold Vc328;(try simp only[app]at hS)
 unfold HeadQ
 refine Gp ?_
 refine zc (λh=>?_) (λh=>?_)
 ·exact⟨[],by rw[if_pos (.inl h)];exact⟨rfl,rfl⟩,hS⟩
 ·refine Gp ?_
  refine zc (λh2=>?_) (λh2=>?_)
  ·exact⟨[],by rw[if_pos (.inr h2)];exact⟨rfl,rfl⟩,hS⟩
  ·obtain⟨k,rfl⟩:=Int.eq_ofNat_of_zero_le (show 0≤n by omega)
   have hx:=encFs_hd (n:=k) (by omega)
   refine yq (cells:=fdcells ⟨1,k,⟨#[]⟩⟩) rfl ?_
   refine zB (cells:=fdcells ⟨1,k,⟨#[]⟩⟩) hS rfl ?_
   clear hS;intro p w hS
   (refine Cc (Zw (.pt p (fdcells ⟨1,k,⟨#[]⟩⟩) 174) _ [⟨1,k,⟨#[]⟩⟩] (Rdn.pt rfl) (by simp)) ?_;clear hS)
   intro v post hQ w hS
   unfold EncQ at hQ
   rw[hx]at hQ
   obtain⟨u,rfl,rfl⟩:=hQ
   (try simp only[app]at hS);refine Gp ?_
   refine zc (λh=>absurd rfl h) (λ_=>?_)
   (refine Cc (Y3 (.ob (OwnSl u 5 1 (hdB k).length ((hdB k).map u8c))) u (hdB k) Rdb.own (by rw[hdB_len];omega)) ?_;clear hS)
   intro v post hQ w hS
   unfold PutQ at hQ
   rw[if_neg (by rw[hdB_len];omega)]at hQ
   obtain⟨y,rfl,rfl⟩:=hQ
   (try simp only[app]at hS);refine Gp ?_
   refine⟨[.ob (OwnSl y 5 1 (recB (hdB k)).length ((recB (hdB k)).map u8c))],?_,SL.into hS Xi⟩
   rw[if_neg (by omega)]
   exact⟨y,rfl,rfl⟩
abbrev SRdX(rp:Nat)(lv:Value)(n f:Int)(es:List BEnt):List Chunk:=[.pt rp [lv,.int .i64 n,.int .i64 f] 371,.ob (OwnSl lv 62 1 es.length (vals es)),.ob (zh BEntO es)]
def hdR(es:List BEnt):Option Int:=match es with
 | []=>none
 | e::_=>hdOf e.2
theorem ZX(rp:Nat)(lv:Value)(n f:Int)(es:List BEnt):SP 280 [.pointer (some ⟨rp,0,none⟩)] (SRdX rp lv n f es) (Gives (.bool (hdR es).isSome) (SRdX rp lv n ((hdR es).getD f) es)):=by
 intro W F w hS;apply vc280;unfold Vc280;(try simp only[app]at hS)
 refine Gp ?_
 refine zx hS (t:=62) (sz:=1) (n:=es.length) (cells:=vals es) Xh ?_
 refine Gp ?_
 refine zc (λh=>?_) (λh=>?_)
 ·have:es=[]:=List.eq_nil_of_length_eq_zero (by omega)
  subst this
  exact⟨_,⟨rfl,rfl⟩,hS⟩
 ·obtain⟨e,es,rfl⟩:∃e es',es=e::es':=by
   cases es with
   | nil=>simp at h
   | cons e es'=>exact⟨e,es',rfl⟩
  refine Gp ?_
  refine z7 (j:=0) hS (t:=62) (n:=(e::es).length) (cells:=vals (e::es)) Xh (by simp) (u:=e.1) rfl ?_
  have hS:=zh.take (t:=0) (x:=e) (SL.into hS (t:=.ob (zh BEntO (e::es))::.pt rp [lv,.int .i64 n,.int .i64 f] 371::.ob (OwnSl lv 62 1 (e::es).length (vals (e::es)))::F) Xi) rfl
  have hback:∀{w:World} {k:Int},SL W (.ob (BEntO e)::.ob (zh BEntO ((e::es).eraseIdx 0))::.pt rp [lv,.int .i64 n,.int .i64 k] 371::.ob (OwnSl lv 62 1 (e::es).length (vals (e::es)))::F) w →
    SL W (.pt rp [lv,.int .i64 n,.int .i64 k] 371::.ob (OwnSl lv 62 1 (e::es).length (vals (e::es)))::.ob (zh BEntO (e::es))::F) w:=λ{w k} h=>by
   have h2:SL W (.ob (zh BEntO (e::es))::.pt rp [lv,.int .i64 n,.int .i64 k] 371::.ob (OwnSl lv 62 1 (e::es).length (vals (e::es)))::F) w:=zh.put h (by simp)
   exact SL.into h2 Xi
  have hR:Rdb (.ob (BEntO e)) e.1 e.2:=Rdb.own
  (refine Cc (yS (.ob (BEntO e)) e.1 e.2 hR) ?_;clear hS)
  intro v post hQ w hS
  unfold DecQ at hQ
  have hh:hdR (e::es)=hdOf e.2:=rfl
  rw[hh]
  unfold hdOf
  cases hd:decF e.2 with
  | error k=>
   rw[hd]at hQ
   obtain⟨rfl,rfl⟩:=hQ
   (try simp only[app]at hS);refine Gp ?_
   have hk:k≠0:=by
    intro hk
    rw[decF_eq]at hd
    split at hd
    ·cases hd
    ·rename_i h0
     cases hd;exact h0 hk
   refine zc (λ_=>?_) (λh=>absurd hk h)
   exact⟨_,⟨rfl,rfl⟩,hback hS⟩
  | ok l=>
   rw[hd]at hQ
   obtain⟨y,rfl,rfl⟩:=hQ
   (try simp only[app]at hS);refine Gp ?_
   refine zc (λh=>absurd rfl h) (λ_=>?_)
   refine zx hS (t:=174) (sz:=3) (n:=l.length) (cells:=(l.map fdcells).flatten) Xh ?_
   refine Gp ?_
   refine zc (λh1=>?_) (λh1=>?_)
   ·have:hdF l=none:=by
     match l,h1 with
     | [],_=>rfl
     | [x],h1=>simp at h1
     | _::_::_,_=>rfl
    simp only[this]
    exact⟨_,⟨rfl,rfl⟩,hback (k:=f) (SL.into hS Xi)⟩
   ·obtain⟨x,rfl⟩:∃x,l=[x]:=List.length_eq_one_iff.1 (by omega)
    have hx:hdF [x]=if x.kind=1∧1≤x.n∧x.n≤1099511627776 then some x.n else none:=rfl
    simp only[hx]
    refine zD (j:=0) (i:=0) (x:=x) (xs:=[x]) hS (t:=174) (sz:=3) (n:=1) Xh fdcells_len rfl (by omega) (u:=.int .i64 x.kind) rfl ?_
    refine Gp ?_
    refine zc (λh2=>?_) (λh2=>?_)
    ·rw[if_neg (by omega)]
     exact⟨_,⟨rfl,rfl⟩,hback (k:=f) (SL.into hS Xi)⟩
    ·refine zD (j:=0) (i:=1) (x:=x) (xs:=[x]) hS (t:=174) (sz:=3) (n:=1) Xh fdcells_len rfl (by omega) (u:=.int .i64 x.n) rfl ?_
     refine Gp ?_
     refine zc (λh3=>?_) (λh3=>?_)
     ·rw[if_neg (by omega)]
      exact⟨_,⟨rfl,rfl⟩,hback (k:=f) (SL.into hS Xi)⟩
     ·refine zD (j:=0) (i:=1) (x:=x) (xs:=[x]) hS (t:=174) (sz:=3) (n:=1) Xh fdcells_len rfl (by omega) (u:=.int .i64 x.n) rfl ?_
      refine Gp ?_
      refine zc (λh4=>?_) (λh4=>?_)
      ·rw[if_neg (by omega)]
       exact⟨_,⟨rfl,rfl⟩,hback (k:=f) (SL.into hS Xi)⟩
      ·rw[if_pos ⟨by omega,by omega,by omega⟩]
       refine zD (j:=0) (i:=1) (x:=x) (xs:=[x]) hS (t:=174) (sz:=3) (n:=1) Xh fdcells_len rfl (by omega) (u:=.int .i64 x.n) rfl ?_
       refine Gn λw hS=>?_
       exact⟨_,⟨rfl,rfl⟩,hback (k:=x.n) (SL.into hS Xi)⟩
def ReadQ2(X:Chunk)(q:List UInt8)(r:Value)(post:List Chunk):Prop:=match readS q with
 | none=>r= .tuple #[.int .i64 0,.slice none 0 0,.int .i64 0,.int .i64 3]∧post=[X]
 | some (f,l,n)=>∃(u:Value) (es:List BEnt),byts es=l∧r= .tuple #[.int .i64 f,u,.int .i64 (n:Nat),.int .i64 0]∧post=[.ob (OwnSo u 62 1 es.length (vals es)),.ob (zh BEntO es),X]
def readE(es:List BEnt)(n:Nat):Option (Int × List (List UInt8) × Nat):=match es with
 | []=>none
 | e::es'=>(hdOf e.2).map λk=>(k,byts es',n)
theorem readS_es{q:List UInt8}{es:List BEnt}(he:byts es=(scanA q).1):readS q=readE es (scanA q).2:=by
 unfold readS
 rw[← he]
 cases es with
 | nil=>rfl
 | cons e es=>rfl
theorem YM(X:Chunk)(v:Value)(q:List UInt8)(hq:Rdb X v q)(hN:q.length≤10000000000):SP 218 [v] [X] (ReadQ2 X q):=by
 intro W F w hS;apply vc218;unfold Vc218;(try simp only[app]at hS)
 (refine Cc (Q2 X v q hq hN) ?_;clear hS)
 rintro r post ⟨u,es,he,rfl,rfl⟩ w hS;(try simp only[app]at hS)
 have hone:=hS.ownOne .hd
 obtain⟨au,cu,eu,_⟩:=OwnSl.at hS .hd
 subst eu
 refine Gp ?_
 refine⟨_,rfl,zN hS ?_⟩
 clear hS;intro rp w hS
 have hS:SL W (.pt rp [.slice au es.length cu,.int .i64 ((scanA q).2:Nat),.int .i64 0] 371::.ob (OwnSl (.slice au es.length cu) 62 1 es.length (vals es))::.ob (zh BEntO es)::X::F) w:=hS
 (refine Cc (ZX rp (.slice au es.length cu) ((scanA q).2:Nat) 0 es) ?_;clear hS)
 rintro v post ⟨rfl,rfl⟩ w hS;(try simp only[app]at hS)
 refine zP ?_
 have hr:=readS_es he
 cases hd:hdR es with
 | none=>
  refine zy ?_
  refine⟨[X],?_,SL.into hS Xi⟩
  unfold ReadQ2
  have:readS q=none:=by
   rw[hr]
   cases es with
   | nil=>rfl
   | cons e es=>have hd:hdOf e.2=none:=hd;show (hdOf e.2).map _=none;rw[hd];rfl
  rw[this];exact⟨rfl,rfl⟩
 | some k=>
  refine zt ?_
  cases es with
  | nil=>cases hd
  | cons e es=>
   have hd:hdOf e.2=some k:=hd
   have hr:readS q=some (k,byts es,(scanA q).2):=by
    rw[hr];show (hdOf e.2).map _=_;rw[hd];rfl
   rw[show (hdR (e::es)).getD 0=k by show (hdOf e.2).getD 0=k;rw[hd];rfl]at hS
   refine Gn λw hS=>?_
   have hS:=zh.take (t:=0) (x:=e) (SL.into hS (t:=.ob (zh BEntO (e::es))::.pt rp [.slice au (e::es).length cu,.int .i64 ((scanA q).2:Nat),.int .i64 k] 371::.ob (OwnSl (.slice au (e::es).length cu) 62 1 (e::es).length (vals (e::es)))::X::F) Xi) rfl
   have hS:=OwnSo.of (SL.into hS (t:=.ob (OwnSl (.slice au (e::es).length cu) 62 1 (e::es).length (vals (e::es)))::.pt rp [.slice au (e::es).length cu,.int .i64 ((scanA q).2:Nat),.int .i64 k] 371::.ob (zh BEntO ((e::es).eraseIdx 0))::X::F) Xi)
   refine qZ (k:=1) hS (by simp) ?_
   clear hS;intro y hS
   have e1:(e::es).length-1=es.length:=by simp
   have e2:(vals (e::es)).drop (1*1)=vals es:=rfl
   have e3:(e::es).eraseIdx 0=es:=rfl
   rw[e1,e2,e3]at hS
   refine Gp ?_
   refine⟨[.ob (OwnSo y 62 1 es.length (vals es)),.ob (zh BEntO es),X],?_,SL.into hS Xi⟩
   unfold ReadQ2
   rw[hr]
   exact⟨y,es,rfl,rfl,rfl⟩
theorem Zb(X:Chunk)(s:Int)(v:Value)(b:List UInt8)(hb:Rdb X v b)(hN:b.length≤140737488355328):SP 187 [.int .u32 s,v] [X] (Gives (.int .u32 (moreC s b)) [X]):=by
 intro W F w hS;apply vc187;unfold Vc187;(try simp only[app]at hS)
 refine ZE ?_
 refine⟨λvs w=>∃i:Nat,i≤b.length∧vs=[.int .u32 ((b.take i).foldl stepC (cpl32 s)),.int .i64 i]∧SL W (X::F) w,λvs _=>match vs with
  | [_,.int _ i]=>b.length-i.toNat
  | _=>0,⟨0,by omega,rfl,hS⟩,?_⟩
 clear hS
 rintro v1 v2 w1 ⟨i,hi,hv,hS⟩
 cases hv
 refine zH hS .hd hb ?_
 refine Gp ?_
 refine zc (λh=>?_) (λh=>?_)
 ·have hi:i<b.length:=by omega
  have hx:=b[i].toNat_lt
  refine yD hS .hd hb hi ?_
  refine zR ?_
  rw[wrap_u32 (by omega) (by omega)]
  refine ZG ?_
  refine⟨λvs w=>∃k:Nat,k≤8∧vs=[.int .u32 (bitsC k (xor32 ((b.take i).foldl stepC (cpl32 s)) (b[i].toNat:Int))),.int .i64 k]∧SL W (X::F) w,λvs _=>match vs with
   | [_,.int _ k]=>8-k.toNat
   | _=>0,⟨0,by omega,rfl,hS⟩,?_⟩
  clear hS
  rintro u1 u2 w2 ⟨k,hk,hu,hS⟩
  cases hu
  refine Gp ?_
  refine zc (λh1=>?_) (λh1=>?_)
  ·have hbb:∀c,bitsC (k+1) c=bitC (bitsC k c):=λc=>rfl
   refine Qo ?_
   refine s_eq ?_
   refine Zl (n:=1) (by omega) ?_
   refine zc (λh2=>?_) (λh2=>?_)
   ·refine ZG ?_
    refine Gp ?_
    refine⟨⟨k+1,by omega,?_,hS⟩,?_⟩
    ·rw[hbb,bitC,if_pos h2]
    ·simp only[Int.toNat_natCast];omega
   ·refine Gp ?_
    refine⟨⟨k+1,by omega,?_,hS⟩,?_⟩
    ·rw[hbb,bitC,if_neg h2]
    ·simp only[Int.toNat_natCast];omega
  ·obtain rfl:k=8:=by omega
   refine Gp ?_
   refine⟨⟨i+1,by omega,?_,hS⟩,?_⟩
   ·rw[show b.take (i+1)=b.take i++[b[i]] by rw[List.take_add_one];simp[hi],List.foldl_append];rfl
   ·simp only[Int.toNat_natCast];omega
 ·obtain rfl:i=b.length:=by omega
  refine ZE ?_
  rw[List.take_length]
  exact⟨_,⟨rfl,rfl⟩,hS⟩
theorem Yj(X:Chunk)(v:Value)(b:List UInt8)(hb:Rdb X v b)(hN:b.length≤140737488355328):SP 188 [v] [X] (Gives (.int .u32 (moreC 0 b)) [X]):=by
 intro W F w hS;apply vc188;unfold Vc188;(try simp only[app]at hS)
 refine Cg (Zb X 0 v b hb hN) λw hS=>?_
 exact⟨_,⟨rfl,rfl⟩,hS⟩
theorem yG(x:Int)(n:Nat)(hn:n≤8):SP 185 [.int .u64 x,.int .i64 n] [] (λu post=>post=[.ob (OwnSl u 5 1 (numB x n).length ((numB x n).map u8c))]):=by
 intro W F w hS;apply vc185;unfold Vc185;(try simp only[app]at hS)
 refine Gp ?_
 have hS:=OwnSl.nil (t:=5) (sz:=1) hS
 have hS:SL W (.ob (OwnSl (.slice none 0 0) 5 1 ([]:List UInt8).length (([]:List UInt8).map u8c))::F) w:=hS
 refine⟨λvs w=>∃(u:Value) (c:List UInt8) (k:Nat),vs=[u,.int .i64 ((k:Int)-1)]∧k≤n∧c++numB x k=numB x n∧SL W (.ob (OwnSl u 5 1 c.length (c.map u8c))::F) w,λvs _=>match vs with
  | [_,.int _ i]=>(i+1).toNat
  | _=>0,⟨_,[],n,rfl,Nat.le_refl _,rfl,hS⟩,?_⟩
 clear hS
 rintro u1 u2 w1 ⟨u,c,k,hv,hk,hc,hS⟩
 cases hv
 refine Gp ?_
 refine zc (λh=>?_) (λh=>?_)
 ·obtain⟨j,rfl⟩:∃j,k=j+1:=⟨k-1,by omega⟩
  have e0:((j+1:Nat):Int)-1=(j:Int):=by omega
  rw[e0]
  refine s_mul (by omega) ?_
  have e1:(8:Int)*(j:Int)=((8*j:Nat):Int):=by omega
  rw[e1]
  refine zR ?_
  rw[wrap_u64 (by omega) (by omega)]
  refine s_shrU (by omega) ?_
  refine zR ?_
  rw[wrap_u8]
  refine zB (cells:=[u8c (lowB (x.fdiv (2 ^ (8*j))))]) hS rfl ?_
  clear hS;intro p w hS
  have hcl:c.length+(j+1)=n:=by
   have:=congrArg List.length hc
   simpa [numB_len] using this
  refine zz (m:=1) (cs:=[u8c (lowB (x.fdiv (2 ^ (8*j))))]) hS Xr (src_pt0 hS .hd rfl) rfl rfl (by intro v hv;simp only[List.mem_singleton]at hv;subst hv;rfl) (by omega) (by omega) ?_
  clear hS;intro u' w hS
  refine Gp ?_
  refine⟨⟨u',c++[lowB (x.fdiv (2 ^ (8*j)))],j,rfl,by omega,?_,?_⟩,?_⟩
  ·rw[← hc];simp[numB]
  ·simp only[List.length_append,List.length_cons,List.length_nil,List.map_append,List.map_cons,List.map_nil]
   exact SL.into hS Xi
  ·show ((j:Int)-1+1).toNat<((j:Int)+1).toNat
   omega
 ·obtain rfl:k=0:=by omega
  have e:c=numB x n:=by simpa [numB] using hc
  rw[e]at hS
  exact⟨_,rfl,hS⟩
theorem s_shl8{x:Nat}{K:Value→Prop}(h:K (.int .u64 (((x*256) % 18446744073709551616:Nat):Int))):za .shl (.int .u64 (x:Int)) (.int .u64 8) K:=by
 refine⟨.int .u64 (((x*256) % 18446744073709551616:Nat):Int),?_,h⟩
 show (if (8:Int)<0 then none else some (Value.int .u64 (IntKind.u64.wrap ((x:Int)*2 ^ (min (8:Int).toNat IntKind.u64.bits)))))=_
 rw[if_neg (by omega)]
 congr 2
theorem s_or8{x:Nat}{c:UInt8}{K:Value→Prop}(h:K (.int .u64 (((x*256+c.toNat) % 18446744073709551616:Nat):Int))):
  zK .u64 (u8c c) λy=>za .or (.int .u64 (((x*256) % 18446744073709551616:Nat):Int)) y K:=by
 have hc:=c.toNat_lt
 refine zR ?_
 rw[wrap_u64 (by omega) (by omega)]
 refine⟨_,or64 (by omega) (by omega),?_⟩
 have e:(x*256) % 18446744073709551616=((x*256) % 18446744073709551616 / 256) <<< 8:=by rw[Nat.shiftLeft_eq];omega
 have e2:(x*256) % 18446744073709551616 ||| c.toNat=(x*256+c.toNat) % 18446744073709551616:=by
  rw[e,← Nat.shiftLeft_add_eq_or_of_lt (show c.toNat<2 ^ 8 by omega),Nat.shiftLeft_eq];omega
 rw[e2];exact h
theorem yg(X:Chunk)(v:Value)(b:List UInt8)(hb:Rdb X v b)(hN:b.length≤140737488355328):SP 300 [v] [X] (Gives (.int .u64 (bigN b:Nat)) [X]):=by
 intro W F w hS;apply vc300;unfold Vc300;(try simp only[app]at hS)
 refine⟨λvs w=>∃i:Nat,i≤b.length∧vs=[.int .u64 (bigN (b.take i):Nat),.int .i64 i]∧SL W (X::F) w,λvs _=>match vs with
  | [_,.int _ i]=>b.length-i.toNat
  | _=>0,⟨0,by omega,rfl,hS⟩,?_⟩
 clear hS
 rintro v1 v2 w1 ⟨i,hi,hv,hS⟩
 cases hv
 refine zH hS Xh hb ?_
 refine Gp ?_
 refine zc (λh=>?_) (λh=>?_)
 ·have hi:i<b.length:=by omega
  refine s_shl8 ?_
  refine yD hS Xh hb hi ?_
  refine s_or8 ?_
  refine Gp ?_
  refine⟨⟨i+1,by omega,?_,hS⟩,?_⟩
  ·rw[bigN_take hi]
  ·simp only[Int.toNat_natCast];omega
 ·have:b.take i=b:=List.take_of_length_le (by omega)
  rw[this]
  exact⟨_,⟨rfl,rfl⟩,hS⟩
theorem Zr(X:Chunk)(v:Value)(q:List UInt8)(hq:Rdb X v q)(hN:q.length≤140737488355328):SP 95 [v] [X] (PutQ X q):=by
 intro W F w hS;apply vc95;unfold Vc95;(try simp only[app]at hS)
 refine zH hS .hd hq ?_
 refine Gp ?_
 refine zc (λh=>?_) (λh=>?_)
 ·exact⟨_,.big (by omega),hS⟩
 ·have hq1:q.length≤1048576:=by omega
  refine zH hS .hd hq ?_
  refine zR ?_
  rw[wrap_u64 (by omega) (by omega)]
  (refine Cc (yG q.length 4 (by omega)) ?_;clear hS)
  rintro v12 post rfl w hS;(try simp only[app]at hS)
  rw[numB4]at hS
  have hr1:Rdb (.ob (OwnSl v12 5 1 (four q.length).length ((four q.length).map u8c))) v12 (four q.length):=Rdb.own
  (refine Cc (Yj _ v12 (four q.length) hr1 (by rw[four_len];omega)) ?_;clear hS)
  rintro v post ⟨rfl,rfl⟩ w hS;(try simp only[app]at hS)
  (refine Cc (Zb X (moreC 0 (four q.length)) v q hq hN) ?_;clear hS)
  rintro v post ⟨rfl,rfl⟩ w hS;(try simp only[app]at hS)
  have hs:moreC (moreC 0 (four q.length)) q=sumOf q:=rfl
  have hrg:=moreC_rng (moreC 0 (four q.length)) q
  rw[hs]at hrg ⊢
  refine zR ?_
  rw[wrap_u64 (by omega) (by omega)]
  (refine Cc (yG (sumOf q) 4 (by omega)) ?_;clear hS)
  rintro v20 post rfl w hS;(try simp only[app]at hS)
  rw[numB4]at hS
  refine zz (t:=5) (sz:=1) (x:=v12) (n:=(four q.length).length) (cells:=(four q.length).map u8c) (m:=(four (sumOf q)).length) (cs:=(four (sumOf q)).map u8c) hS Xr (src_own hS Xh) (by simp) rfl (u8c_one _) (by simp[four_len]) (by simp[four_len]) ?_
  clear hS;intro v21 w hS
  rw[← List.map_append,← List.length_append]at hS
  refine zz (t:=5) (sz:=1) (m:=q.length) (cs:=q.map u8c) hS .hd (hq.src hS Xh) (by simp) rfl (u8c_one _) (by simp only[List.length_append,four_len];omega) (by simp only[List.length_append,four_len];omega) ?_
  clear hS;intro v24 w hS
  rw[← List.map_append,← List.length_append]at hS
  have e:four (q.length:Nat)++four (sumOf q)++q=recB q:=rfl
  rw[e]at hS
  exact⟨_,.ok hq1 v24,SL.into hS Xi⟩
theorem ZT(X:Chunk)(v:Value)(q:List UInt8)(hq:Rdb X v q)(hN:q.length≤140737488355328):SP 243 [v] [X] (TakeQ X q):=by
 intro W F w hS;apply vc243;unfold Vc243;(try simp only[app]at hS)
 refine zH hS .hd hq ?_
 refine Gp ?_
 refine zc (λh=>?_) (λh=>?_)
 ·exact⟨_,.er (take_er1 (by omega)),hS⟩
 ·have h8:8≤q.length:=by omega
  refine ZF (hi:=4) hS .hd hq (by omega) ?_
  intro v11 h11
  (refine Cc (yg X v11 (q.take 4) h11 (by rw[List.length_take];omega)) ?_;clear hS)
  rintro v post ⟨rfl,rfl⟩ w hS;(try simp only[app]at hS)
  rw[bigN_num4 (by omega)]
  have hlt:=num4_lt q
  refine yC (by omega) ?_
  have hsm:=λ(p:List UInt8) hp=>sum_same (q:=q) (p:=p) h8 hp
  have te2:=take_er2 (q:=q) h8
  have te3:=take_er3 (q:=q) h8
  have te4:=take_er4 (q:=q) h8
  have tok:=take_ok (q:=q) h8
  generalize num4 q=k at *
  refine Gp ?_
  refine zc (λh2=>?_) (λh2=>?_)
  ·exact⟨_,.er (te2 (by omega)),hS⟩
  ·refine zH hS .hd hq ?_
   refine Gp ?_
   refine zc (λh3=>?_) (λh3=>?_)
   ·exact⟨_,.er (te3 (by omega) (by omega)),hS⟩
   ·refine yd (a:=8) (b:=k) (by omega) ?_
    refine ZW (lo:=8) (hi:=8+k) hS .hd hq (by omega) (by omega) ?_
    intro v44 h44
    rw[show 8+k-8=k by omega]at h44
    have hl44:((q.drop 8).take k).length=k:=by rw[List.length_take,List.length_drop];omega
    generalize hp:(q.drop 8).take k=p at *
    refine Gn λw hS=>?_
    refine ZF (hi:=4) hS .hd hq (by omega) ?_
    intro v26 h26
    refine ZW (lo:=4) (hi:=8) hS Xh hq (by omega) (by omega) ?_
    intro v32 h32
    rw[show 8-4=4 from rfl]at h32
    (refine Cc (Yj X v26 (q.take 4) h26 (by rw[List.length_take];omega)) ?_;clear hS)
    rintro v post ⟨rfl,rfl⟩ w hS;(try simp only[app]at hS)
    (refine Cc (Zb X (moreC 0 (q.take 4)) v44 p h44 (by omega)) ?_;clear hS)
    rintro v post ⟨rfl,rfl⟩ w hS;(try simp only[app]at hS)
    have hrg:=moreC_rng (moreC 0 (q.take 4)) p
    refine zR ?_
    rw[wrap_u64 (by omega) (by omega)]
    (refine Cc (yg X v32 ((q.drop 4).take 4) h32 (by rw[List.length_take];omega)) ?_;clear hS)
    rintro v post ⟨rfl,rfl⟩ w hS;(try simp only[app]at hS);refine Gp ?_
    rw[show decide (moreC (moreC 0 (q.take 4)) p≠((bigN ((q.drop 4).take 4):Nat):Int))=decide (four (sumOf p)≠(q.drop 4).take 4) from hsm p hl44]
    refine zc (λh4=>?_) (λh4=>?_)
    ·exact⟨_,.er (te4 (by omega) (by omega) h4),SL.into hS Xi⟩
    ·refine Gm λb w hS=>?_
     have hS:=OwnSl.full (n:=0) (sz:=1) rfl hS
     refine zz (t:=5) (sz:=1) (n:=0) (m:=k) (cs:=p.map u8c) hS .hd (by have:=h44.src hS Xh;rw[hl44]at this;exact this) (by simp[hl44]) rfl (u8c_one _) (by omega) (by omega) ?_
     clear hS;intro v37 w hS
     rw[Nat.zero_add,List.nil_append]at hS
     refine yd (a:=8) (b:=k) (by omega) ?_
     have ht:=tok (by omega) (by omega) (Classical.not_not.1 h4)
     rw[← hl44]at hS
     exact⟨_,.ok ht v37,SL.into hS Xi⟩
theorem qT(X:Chunk)(v:Value)(q:List UInt8)(hq:Rdb X v q)(hN:q.length≤10000000000):SP 241 [v] [X] (ScanQ X q):=by
 intro W F w hS;apply vc241;unfold Vc241;(try simp only[app]at hS)
 have hS:=OwnSl.nil (t:=62) (sz:=1) (zh.nil (A:=BEntO) hS)
 refine⟨λvs w=>∃(u:Value) (es:List BEnt) (at_:Nat),vs=[u,.int .i64 at_]∧at_≤q.length∧es.length*8≤at_∧byts es++(scanA (q.drop at_)).1=(scanA q).1∧at_+(scanA (q.drop at_)).2=(scanA q).2 ∧
   SL W (.ob (OwnSl u 62 1 es.length (vals es))::.ob (zh BEntO es)::X::F) w,λvs _=>match vs with
  | [_,.int _ i]=>q.length-i.toNat
  | _=>0,⟨_,[],0,rfl,Nat.zero_le _,Nat.le_refl _,rfl,by simp,hS⟩,?_⟩
 clear hS
 rintro u1 u2 w1 ⟨u,es,i,hv,hi,h8,h1,h2,hS⟩
 cases hv
 refine zH hS Xh hq ?_
 refine Gp ?_
 refine zc (λh0=>?_) (λh0=>?_)
 ·refine YJ hS Xh hq hi ?_
  intro v12 h12
  (refine Cc (ZT X v12 (q.drop i) h12 (by rw[List.length_drop];omega)) ?_;clear hS)
  intro v13 post hQ w hS
  unfold TakeQ at hQ
  cases ht:takeR (q.drop i) with
  | error e=>
   rw[ht]at hQ
   obtain⟨rfl,rfl⟩:=hQ
   (try simp only[app]at hS);refine Gp ?_
   have he:=takeR_err ht
   rw[scanA_er ht]at h1 h2
   refine zc (λ_=>?_) (λh=>by omega)
   refine⟨_,⟨u1,es,by simpa using h1,?_,rfl⟩,SL.into hS Xi⟩
   rw[← h2];rfl
  | ok x=>
   obtain⟨p,n⟩:=x
   rw[ht]at hQ
   obtain⟨y,rfl,rfl⟩:=hQ
   (try simp only[app]at hS);refine Gp ?_
   have hl:=takeR_len ht
   rw[scanA_ok ht]at h1 h2
   rw[List.length_drop]at hl
   refine zc (λh=>absurd rfl h) (λ_=>?_)
   have hone:=hS.ownOne .hd
   obtain⟨ay,cy,ey,_⟩:=OwnSl.at hS .hd
   subst ey
   refine zB (cells:=[.slice ay p.length cy]) hS rfl ?_
   clear hS;intro b w hS
   refine zz (m:=1) (cs:=[.slice ay p.length cy]) hS Xr (src_pt0 hS .hd rfl) rfl rfl (by intro v hv;simp only[List.mem_singleton]at hv;subst hv;rfl) (by omega) (by omega) ?_
   clear hS;intro u' w hS
   have hS:=zh.snoc (A:=BEntO) (xs:=es) (x:=(.slice ay p.length cy,p)) (SL.into hS (t:=.ob (zh BEntO es)::.ob (OwnSl (.slice ay p.length cy) 5 1 p.length (p.map u8c))::.ob (OwnSl u' 62 1 (es.length+1) (vals es++[.slice ay p.length cy]))::X::F) Xi)
   refine yd (a:=i) (b:=n) (by omega) ?_
   refine⟨⟨u',es++[(.slice ay p.length cy,p)],i+n,rfl,by omega,by simp;omega,?_,?_,?_⟩,?_⟩
   ·rw[← h1,← List.drop_drop];simp[byts]
   ·rw[← h2,← List.drop_drop];simp only;omega
   ·rw[show (es++[((Value.slice ay p.length cy,p):BEnt)]).length=es.length+1 by simp,show vals (es++[((Value.slice ay p.length cy,p):BEnt)])=vals es++[.slice ay p.length cy] by simp[vals]]
    exact SL.into hS Xi
   ·simp only[Int.toNat_natCast];omega
 ·have hd:q.drop i=[]:=List.drop_eq_nil_of_le (by omega)
  rw[hd,scanA_er takeR_nil]at h1 h2
  refine⟨_,⟨u1,es,by simpa using h1,?_,rfl⟩,SL.into hS Xi⟩
  rw[← h2];rfl
section
variable {W w:World} {l:List Chunk} {X:Chunk} {v:Value} {sz n:Nat}
theorem yH{α:Type}{enc:α→List Value}{xs:List α}{j i:Nat}{u:Value}{kk:IntKind}{K:Value→Prop}(hS:SL W l w)(m:Has X l)(hb:Rdn X sz v n (xs.map enc).flatten)(he:∀x,(enc x).length=sz)(hsz:0<sz)(hx:xs.length=n)(hj:j<n)
  (hu:(enc (xs[j]'(by omega)))[i]?=some u) (hK:K u):zj sz v (.int kk (j:Int)) λp=>zd i p λq=>HLd q w K:=by
 obtain⟨a,c,rfl,hc⟩:=hb.sl hS m
 have hs:=hb.src hS m
 have hlen:(xs.map enc).flatten.length=n*sz:=by rw[← hx];exact flat_len he xs
 have hg:=flat_get he (by omega) hu
 cases a with
 | none=>
  have e:(xs.map enc).flatten=[]:=hs.2
  rw[e]at hg;simp at hg
 | some p=>
  refine⟨p,_,c,kk,j,rfl,rfl,hj,?_⟩
  refine⟨_,rfl,?_⟩
  refine⟨_,u,rfl,?_,hK⟩
  rw[addr_add2]
  exact hs.2.2 (j*sz+i) u hg
end
theorem zM(n:Int):SP 92 [.int .i64 n] [] (Gives (.agg (fdcells ⟨1,n,⟨#[]⟩⟩).toArray) []):=by
 intro W F w hS;apply vc92;unfold Vc92;(try simp only[app]at hS)
 refine Gm λb w hS=>?_
 exact⟨_,⟨rfl,rfl⟩,SL.into hS Xi⟩
theorem y5(s:ByteArray):SP 93 [.string s] [] (Gives (.agg (fdcells ⟨2,0,s⟩).toArray) []):=by
 intro W F w hS;apply vc93;unfold Vc93;(try simp only[app]at hS)
 refine Gm λb w hS=>?_
 exact⟨_,⟨rfl,rfl⟩,SL.into hS Xi⟩
theorem YC(x:PFd):SP 186 [.agg (fdcells x).toArray] [] (Gives (.bool (rightF x)) []):=by
 intro W F w hS;apply vc186;unfold Vc186;(try simp only[app]at hS)
 refine⟨fdcells x,rfl,?_⟩
 unfold fdcells
 refine Gm λb w hS=>?_
 unfold rightF
 refine zc (λh=>?_) (λh=>?_)
 ·rw[if_pos h]
  refine Gp ?_
  refine zc (λh1=>?_) (λh1=>?_)
  ·rw[decide_eq_true h1]
   exact⟨_,⟨rfl,rfl⟩,SL.into hS Xi⟩
  ·refine Gp ?_
   refine zc (λh2=>by omega) (λh2=>?_)
   rw[decide_eq_false h1]
   exact⟨_,⟨rfl,rfl⟩,SL.into hS Xi⟩
 ·rw[if_neg h]
  refine Gp ?_
  refine zc (λh2=>?_) (λh2=>?_)
  ·rw[if_pos h2]
   refine Gp ?_
   refine zc (λh3=>?_) (λh3=>?_)
   ·refine Gp ?_
    rw[decide_eq_true h3,Bool.true_and]
    have e:decide ((x.s.size:Int)≤4096)=decide (x.s.size≤4096):=by congr 1;exact propext ⟨λ_=>by omega,λ_=>by omega⟩
    rw[e]
    exact⟨_,⟨rfl,rfl⟩,SL.into hS Xi⟩
   ·rw[decide_eq_false h3,Bool.false_and]
    exact⟨_,⟨rfl,rfl⟩,SL.into hS Xi⟩
  ·rw[if_neg h2]
   exact⟨_,⟨rfl,rfl⟩,SL.into hS Xi⟩
theorem yN(X:Chunk)(v:Value)(xs:List PFd)(hx:Rdn X 3 v xs.length (xs.map fdcells).flatten)(hN:xs.length≤140737488355328):SP 94 [v] [X] (EncQ X xs):=by
 intro W F w hS;apply vc94;unfold Vc94;(try simp only[app]at hS)
 refine Zt hS .hd hx ?_
 refine Gp ?_
 refine zc (λh=>?_) (λh=>?_)
 ·exact⟨_,.er (by unfold encFs;rw[if_pos (by omega)]),hS⟩
 ·refine Zt hS .hd hx ?_
  refine zR ?_
  rw[wrap_u64 (by omega) (by omega)]
  (refine Cc (yG xs.length 2 (by omega)) ?_;clear hS)
  rintro v13 post rfl w hS;(try simp only[app]at hS)
  have hb:∀i,i≤xs.length→(xs.take i).all rightF=true→(numB xs.length 2++((xs.take i).map encF).flatten).length≤200000000:=λi hi ha=>by
   have:=encFl_len ha
   rw[List.length_append,numB_len]
   rw[List.length_take]at this
   omega
  refine⟨λvs w=>∃(i:Nat) (u:Value),i≤xs.length∧vs=[u,.int .i64 i]∧(xs.take i).all rightF=true∧SL W (.ob (OwnSl u 5 1 (numB xs.length 2++((xs.take i).map encF).flatten).length ((numB xs.length 2++((xs.take i).map encF).flatten).map u8c))::X::F) w,λvs _=>match vs with
   | [_,.int _ i]=>xs.length-i.toNat
   | _=>0,⟨0,v13,by omega,rfl,rfl,(by simpa using hS)⟩,?_⟩
  clear hS
  rintro u1 u2 w1 ⟨i,u,hi,hv,ha,hS⟩
  cases hv
  have hbi:=hb i hi ha
  refine Zt hS Xh hx ?_
  refine Gp ?_
  refine zc (λh=>?_) (λh=>?_)
  ·have hi:i<xs.length:=by omega
   refine qi hS Xh hx fdcells_len (by omega) rfl hi ?_
   have hxi:xs[i]∈xs:=List.getElem_mem hi
   have htk:xs.take (i+1)=xs.take i++[xs[i]]:=by rw[List.take_add_one];simp[hi]
   (refine Cc (YC xs[i]) ?_;clear hS)
   rintro v post ⟨rfl,rfl⟩ w hS;(try simp only[app]at hS)
   refine zP ?_
   cases hr:rightF xs[i] with
   | false=>
    refine zy ?_
    refine⟨[X],.er ?_,SL.into hS Xi⟩
    unfold encFs
    rw[if_neg (by omega),if_neg]
    intro h
    have:=List.all_eq_true.1 h xs[i] hxi
    rw[hr]at this;cases this
   | true=>
    refine zt ?_
    have ha2:(xs.take (i+1)).all rightF=true:=by rw[htk,List.all_append,ha];simp[hr]
    have hb2:=hb (i+1) (by omega) ha2
    have hen:((xs.take (i+1)).map encF).flatten=((xs.take i).map encF).flatten++encF xs[i]:=by rw[htk,List.map_append,List.flatten_append];simp only[List.map_cons,List.map_nil,List.flatten_cons,List.flatten_nil,List.append_nil]
    rw[hen]at hb2
    rw[List.length_append,List.length_append]at hb2
    have hk:xs[i].kind=1∨xs[i].kind=2:=by
     unfold rightF at hr
     by_cases h1:xs[i].kind=1
     ·exact .inl h1
     ·rw[if_neg h1]at hr
      by_cases h2:xs[i].kind=2
      ·exact .inr h2
      ·rw[if_neg h2]at hr;cases hr
    generalize hc:numB xs.length 2++((xs.take i).map encF).flatten=c at *
    have hcl:c.length+(encF xs[i]).length≤200000000:=by rw[← hc,List.length_append];omega
    refine yH (i:=0) hS Xh hx fdcells_len (by omega) rfl hi (u:=.int .i64 xs[i].kind) rfl ?_
    refine zR ?_
    rw[wrap_u8]
    refine zB (cells:=[u8c (lowB xs[i].kind)]) hS rfl ?_
    clear hS;intro p w hS
    refine zz (m:=1) (cs:=[u8c (lowB xs[i].kind)]) hS Xr (src_pt0 hS .hd rfl) rfl rfl (by intro v hv;simp only[List.mem_singleton]at hv;subst hv;rfl) (by omega) (by omega) ?_
    clear hS;intro u' w hS
    have hS:SL W (.ob (OwnSl u' 5 1 (c++[lowB xs[i].kind]).length ((c++[lowB xs[i].kind]).map u8c))::X::F) w:=by
     simp only[List.length_append,List.length_cons,List.length_nil,List.map_append,List.map_cons,List.map_nil]
     exact SL.into hS Xi
    refine yH (i:=0) hS Xh hx fdcells_len (by omega) rfl hi (u:=.int .i64 xs[i].kind) rfl ?_
    refine Gp ?_
    refine zc (λh1=>?_) (λh1=>?_)
    ·refine yH (i:=1) hS Xh hx fdcells_len (by omega) rfl hi (u:=.int .i64 xs[i].n) rfl ?_
     refine zR ?_
     have eu:IntKind.u64.wrap xs[i].n=unsig xs[i].n:=rfl
     rw[eu]
     (refine Cc (yG (unsig xs[i].n) 8 (by omega)) ?_;clear hS)
     rintro v47 post rfl w hS;(try simp only[app]at hS)
     refine zz (t:=5) (sz:=1) (x:=u') (n:=(c++[lowB xs[i].kind]).length) (cells:=(c++[lowB xs[i].kind]).map u8c) (m:=(numB (unsig xs[i].n) 8).length) (cs:=(numB (unsig xs[i].n) 8).map u8c) hS Xr (src_own hS Xh) (by simp) rfl (u8c_one _) (by rw[numB_len,List.length_append,List.length_singleton];omega) (by rw[numB_len,List.length_append,List.length_singleton];omega) ?_
     clear hS;intro v48 w hS
     rw[← List.map_append,← List.length_append]at hS
     refine Gp ?_
     refine⟨⟨i+1,v48,by omega,rfl,ha2,?_⟩,?_⟩
     ·have e:numB xs.length 2++((xs.take (i+1)).map encF).flatten=c++[lowB xs[i].kind]++numB (unsig xs[i].n) 8:=by
       rw[hen,← List.append_assoc,hc]
       have:encF xs[i]=lowB xs[i].kind::numB (unsig xs[i].n) 8:=by unfold encF;rw[if_pos h1]
       rw[this];simp
      rw[e]
      exact SL.into hS Xi
     ·simp only[Int.toNat_natCast];omega
    ·have hsz:xs[i].s.size≤4096:=by
      unfold rightF at hr
      rw[if_neg h1,if_pos (by omega),Bool.and_eq_true]at hr
      exact of_decide_eq_true hr.2
     have hef:encF xs[i]=lowB xs[i].kind::(numB xs[i].s.size 2++xs[i].s.data.toList):=by unfold encF;rw[if_neg h1]
     refine yH (i:=2) hS Xh hx fdcells_len (by omega) rfl hi (u:=.string xs[i].s) rfl ?_
     refine Gp ?_
     refine zR ?_
     rw[wrap_u64 (by omega) (by omega)]
     (refine Cc (yG xs[i].s.size 2 (by omega)) ?_;clear hS)
     rintro v57 post rfl w hS;(try simp only[app]at hS)
     refine zz (t:=5) (sz:=1) (x:=u') (n:=(c++[lowB xs[i].kind]).length) (cells:=(c++[lowB xs[i].kind]).map u8c) (m:=(numB xs[i].s.size 2).length) (cs:=(numB xs[i].s.size 2).map u8c) hS Xr (src_own hS Xh) (by simp) rfl (u8c_one _) (by rw[numB_len,List.length_append,List.length_singleton];omega) (by rw[numB_len,List.length_append,List.length_singleton];omega) ?_
     clear hS;intro v58 w hS
     rw[← List.map_append,← List.length_append]at hS
     refine yH (i:=2) hS Xh hx fdcells_len (by omega) rfl hi (u:=.string xs[i].s) rfl ?_
     have hsl:xs[i].s.data.toList.length=xs[i].s.size:=rfl
     have hel:(encF xs[i]).length=1+(2+xs[i].s.size):=by rw[hef];simp only[List.length_cons,List.length_append,numB_len];omega
     refine zz (m:=xs[i].s.size) (cs:=xs[i].s.data.toList.map u8c) hS Xr src_str (by simp) rfl (u8c_one _) (by simp only[List.length_append,List.length_cons,List.length_nil,numB_len];omega) (by simp only[List.length_append,List.length_cons,List.length_nil,numB_len];omega) ?_
     clear hS;intro v65 w hS
     refine Gp ?_
     refine⟨⟨i+1,v65,by omega,rfl,ha2,?_⟩,?_⟩
     ·have e:numB xs.length 2++((xs.take (i+1)).map encF).flatten=(c++[lowB xs[i].kind]++numB xs[i].s.size 2)++xs[i].s.data.toList:=by
       rw[hen,← List.append_assoc,hc,hef];simp
      rw[e]
      generalize c++[lowB xs[i].kind]++numB xs[i].s.size 2=A at *
      rw[List.length_append,List.map_append,hsl]
      exact SL.into hS Xi
     ·simp only[Int.toNat_natCast];omega
  ·obtain rfl:i=xs.length:=by omega
   rw[List.take_length]at hS ha
   exact⟨_,.ok (by unfold encFs;rw[if_neg (by omega),if_pos ha]) u1,SL.into hS Xi⟩
theorem qP(n:Int):SP 303 [.int .i64 n] [] (HeadQ n):=by
 intro W F w hS;apply vc303;unfold Vc303;(try simp only[app]at hS)
 refine Gp ?_
 unfold HeadQ
 refine zc (λh=>?_) (λh=>?_)
 ·refine⟨[],?_,hS⟩
  rw[if_pos (.inl (by omega))]
  exact⟨rfl,rfl⟩
 ·refine Gp ?_
  refine zc (λh2=>?_) (λh2=>?_)
  ·refine⟨[],?_,hS⟩
   rw[if_pos (.inr (by omega))]
   exact⟨rfl,rfl⟩
  ·simp only[if_neg (c:=n<1∨1099511627776<n) (by omega)]
   obtain⟨k,rfl⟩:∃k:Nat,n=(k:Int):=⟨n.toNat,by omega⟩
   (refine Cc (zM (k:Int)) ?_;clear hS)
   rintro v post ⟨rfl,rfl⟩ w hS;(try simp only[app]at hS)
   refine zB (cells:=fdcells ⟨1,(k:Int),⟨#[]⟩⟩) hS rfl ?_
   clear hS;intro b w hS
   (refine Cc (yN (.pt b (fdcells ⟨1,(k:Int),⟨#[]⟩⟩) 174) (.slice (some ⟨b,0,none⟩) 1 1) [⟨1,(k:Int),⟨#[]⟩⟩] (Rdn.pt rfl) (by simp)) ?_;clear hS)
   intro r post hQ w hS
   unfold EncQ at hQ
   rw[encFs_hd (by omega)]at hQ
   obtain⟨u,rfl,rfl⟩:=hQ
   (try simp only[app]at hS);refine Gp ?_
   have hr1:Rdb (.ob (OwnSl u 5 1 (hdB k).length ((hdB k).map u8c))) u (hdB k):=Rdb.own
   (refine Cc (Zr _ u (hdB k) hr1 (by rw[hdB_len];omega)) ?_;clear hS)
   intro r post hQ w hS
   unfold PutQ at hQ
   rw[if_neg (by rw[hdB_len];omega)]at hQ
   obtain⟨y,rfl,rfl⟩:=hQ
   (try simp only[app]at hS);refine Gp ?_
   rw[Int.toNat_natCast]
   exact⟨_,⟨y,rfl,rfl⟩,SL.into hS Xi⟩
theorem yM(X:Chunk)(v:Value)(q:List UInt8)(hq:Rdb X v q)(hN:q.length≤140737488355328):SP 242 [v] [X] (DecQ X q):=by
 intro W F w hS;apply vc242;unfold Vc242;(try simp only[app]at hS)
 have hE:∀{e:Int} {w:World},decF q= .error e→SL W (X::F) w→∃post,DecQ X q (.tuple #[.slice none 0 0,.int .i64 e]) post∧SL W (app post F) w:=λh hS=>⟨[X],by unfold DecQ;rw[h];exact⟨rfl,rfl⟩,hS⟩
 refine zH hS .hd hq ?_
 refine Gp ?_
 refine zc (λh=>hE (decF_short (by omega)) hS) (λh=>?_)
 have h2:2≤q.length:=by omega
 refine ZF (hi:=2) hS .hd hq h2 ?_
 intro v14 h14
 (refine Cc (yg X v14 (q.take 2) h14 (by rw[List.length_take];omega)) ?_;clear hS)
 rintro v post ⟨rfl,rfl⟩ w hS;(try simp only[app]at hS)
 have hlt:bigN (q.take 2)<65536:=by
  have:=bigN_lt 2 (q.take 2) (by rw[List.length_take];omega)
  exact this
 refine yC (by omega) ?_
 refine Gp ?_
 refine zc (λh3=>hE (decF_big h2 (by omega)) hS) (λh3=>?_)
 have hdg:=decF_go h2 (by omega)
 generalize hm:bigN (q.take 2)=m at *
 have hS:=OwnSl.nil (t:=174) (sz:=3) hS
 refine⟨λvs w=>∃(i at_:Nat) (u:Value) (l:List PFd),vs=[.int .i64 at_,u,.int .i64 i]∧i≤m∧l.length=i∧at_≤q.length∧decF q=decG l (m-i) ⟨q.drop at_,0⟩∧SL W (.ob (OwnSl u 174 3 l.length (l.map fdcells).flatten)::X::F) w,
  λvs _=>match vs with|[_,_,.int _ i]=>(m-i).toNat|_=>0,⟨0,2,_,[],rfl,by omega,rfl,h2,hdg,hS⟩,?_⟩
 clear hS hdg
 rintro v5 v6 v7 w ⟨i,at_,u,l,hvs,him,hli,hat,hdg,hS⟩
 cases hvs
 refine Gp ?_
 refine zc (λh4=>?_) (λh4=>?_)
 ·have him:i<m:=by omega
  obtain⟨r,hr⟩:∃r,m-i=r+1:=⟨m-i-1,by omega⟩
  have hr2:m-(i+1)=r:=by omega
  rw[hr]at hdg
  refine zH hS Xh hq ?_
  refine Gp ?_
  refine zc (λh5=>?_) (λh5=>?_)
  ·have:q.drop at_=[]:=List.drop_eq_nil_of_le (by omega)
   rw[this,decG_nil]at hdg
   exact hE hdg (SL.into hS Xi)
  ·have hal:at_<q.length:=by omega
   rw[List.drop_eq_getElem_cons hal]at hdg
   have hx:=q[at_].toNat_lt
   refine yD hS Xh hq hal ?_
   refine yC (by omega) ?_
   refine Gp ?_
   refine zc (λh6=>?_) (λh6=>?_)
   ·rw[decG_one (by omega)]at hdg
    rw[List.length_drop]at hdg
    refine zH hS Xh hq ?_
    refine Gp ?_
    refine zc (λh7=>?_) (λh7=>?_)
    ·rw[if_pos (by omega)]at hdg
     exact hE hdg (SL.into hS Xi)
    ·rw[if_neg (by omega)]at hdg
     refine yd (a:=at_+1) (b:=8) (by omega) ?_
     refine ZW (lo:=at_+1) (hi:=at_+1+8) hS Xh hq (by omega) (by omega) ?_
     intro v48 h48
     rw[show at_+1+8-(at_+1)=8 by omega]at h48
     (refine Cc (yg X v48 ((q.drop (at_+1)).take 8) h48 (by rw[List.length_take];omega)) ?_;clear hS)
     rintro v post ⟨rfl,rfl⟩ w hS;(try simp only[app]at hS)
     have hb8:bigN ((q.drop (at_+1)).take 8)<18446744073709551616:=bigN_lt 8 _ (by rw[List.length_take,List.length_drop];omega)
     refine zR ?_
     rw[sig_cv hb8]
     (refine Cc (zM (sig (bigN ((q.drop (at_+1)).take 8)))) ?_;clear hS)
     rintro v post ⟨rfl,rfl⟩ w hS;(try simp only[app]at hS)
     refine zB (cells:=fdcells ⟨1,sig (bigN ((q.drop (at_+1)).take 8)),⟨#[]⟩⟩) hS rfl ?_
     clear hS;intro p w hS
     refine zz (m:=1) (cs:=fdcells ⟨1,sig (bigN ((q.drop (at_+1)).take 8)),⟨#[]⟩⟩) hS Xr (src_pt0 hS .hd rfl) rfl rfl (fd_one _) (by omega) (by omega) ?_
     clear hS;intro u' w hS
     refine yd (a:=at_+1) (b:=8) (by omega) ?_
     refine Gp ?_
     refine⟨⟨i+1,at_+1+8,u',l++[⟨1,sig (bigN ((q.drop (at_+1)).take 8)),⟨#[]⟩⟩],rfl,by omega,by simp;omega,by omega,?_,?_⟩,by dsimp only;omega⟩
     ·rw[hdg,hr2,List.drop_drop]
     ·rw[show (l++[(⟨1,sig (bigN ((q.drop (at_+1)).take 8)),⟨#[]⟩⟩:PFd)]).length=l.length+1 by simp,show ((l++[(⟨1,sig (bigN ((q.drop (at_+1)).take 8)),⟨#[]⟩⟩:PFd)]).map fdcells).flatten=(l.map fdcells).flatten++fdcells ⟨1,sig (bigN ((q.drop (at_+1)).take 8)),⟨#[]⟩⟩ by simp]
      exact SL.into hS Xi
   ·refine Gp ?_
    refine zc (λh7=>?_) (λh7=>?_)
    ·rw[decG_two (by omega)]at hdg
     rw[List.length_drop]at hdg
     refine zH hS Xh hq ?_
     refine Gp ?_
     refine zc (λh8=>?_) (λh8=>?_)
     ·rw[if_pos (by omega)]at hdg
      exact hE hdg (SL.into hS Xi)
     ·rw[if_neg (by omega)]at hdg
      refine yd (a:=at_+1) (b:=2) (by omega) ?_
      refine ZW (lo:=at_+1) (hi:=at_+1+2) hS Xh hq (by omega) (by omega) ?_
      intro v67 h67
      rw[show at_+1+2-(at_+1)=2 by omega]at h67
      (refine Cc (yg X v67 ((q.drop (at_+1)).take 2) h67 (by rw[List.length_take];omega)) ?_;clear hS)
      rintro v post ⟨rfl,rfl⟩ w hS;(try simp only[app]at hS)
      have hb2:bigN ((q.drop (at_+1)).take 2)<65536:=bigN_lt 2 _ (by rw[List.length_take,List.length_drop];omega)
      generalize bigN ((q.drop (at_+1)).take 2)=z at *
      refine yC (by omega) ?_
      refine yd (a:=at_+1) (b:=2) (by omega) ?_
      refine Gp ?_
      refine zc (λh9=>?_) (λh9=>?_)
      ·rw[if_pos (by omega)]at hdg
       exact hE hdg (SL.into hS Xi)
      ·rw[if_neg (by omega)]at hdg
       refine zH hS Xh hq ?_
       refine Gp ?_
       refine zc (λh10=>?_) (λh10=>?_)
       ·rw[if_pos (by omega)]at hdg
        exact hE hdg (SL.into hS Xi)
       ·rw[if_neg (by omega)]at hdg
        refine yd (a:=at_+1+2) (b:=z) (by omega) ?_
        refine ZW (lo:=at_+1+2) (hi:=at_+1+2+z) hS Xh hq (by omega) (by omega) ?_
        intro v86 h86
        rw[show at_+1+2+z-(at_+1+2)=z by omega]at h86
        obtain⟨a86,c86,rfl,_⟩:=h86.sl hS Xh
        refine ZU (bs:=(q.drop (at_+1+2)).take z) ⟨_,_,_,rfl⟩ (h86.src hS Xh) Tryz.underlying62 Tryz.underlying9 Tryz.underlying5 ?_
        (refine Cc (y5 (bstr ((q.drop (at_+1+2)).take z))) ?_;clear hS)
        rintro v post ⟨rfl,rfl⟩ w hS;(try simp only[app]at hS)
        refine zB (cells:=fdcells ⟨2,0,bstr ((q.drop (at_+1+2)).take z)⟩) hS rfl ?_
        clear hS;intro p w hS
        refine zz (m:=1) (cs:=fdcells ⟨2,0,bstr ((q.drop (at_+1+2)).take z)⟩) hS Xr (src_pt0 hS .hd rfl) rfl rfl (fd_one _) (by omega) (by omega) ?_
        clear hS;intro u' w hS
        refine yd (a:=at_+1+2) (b:=z) (by omega) ?_
        refine Gp ?_
        refine⟨⟨i+1,at_+1+2+z,u',l++[⟨2,0,bstr ((q.drop (at_+1+2)).take z)⟩],rfl,by omega,by simp;omega,by omega,?_,?_⟩,by dsimp only;omega⟩
        ·rw[hdg,hr2,List.drop_drop,List.drop_drop];rfl
        ·rw[show (l++[(⟨2,0,bstr ((q.drop (at_+1+2)).take z)⟩:PFd)]).length=l.length+1 by simp,show ((l++[(⟨2,0,bstr ((q.drop (at_+1+2)).take z)⟩:PFd)]).map fdcells).flatten=(l.map fdcells).flatten++fdcells ⟨2,0,bstr ((q.drop (at_+1+2)).take z)⟩ by simp]
         exact SL.into hS Xi
    ·rw[decG_else (by omega) (by omega)]at hdg
     exact hE hdg (SL.into hS Xi)
 ·have hmi:m-i=0:=by omega
  rw[hmi,decG_zero,List.length_drop]at hdg
  refine zH hS Xh hq ?_
  refine Gp ?_
  refine zc (λh5=>?_) (λh5=>?_)
  ·rw[if_pos (by omega)]at hdg
   exact hE hdg (SL.into hS Xi)
  ·rw[if_neg (by omega)]at hdg
   refine⟨[.ob (OwnSl v6 174 3 l.length (l.map fdcells).flatten),X],?_,SL.into hS Xi⟩
   unfold DecQ
   rw[hdg]
   exact⟨v6,rfl,rfl⟩
abbrev FdO(u:Value)(L:List PFd):Chunk:=.ob (OwnSl u 174 3 L.length (L.map fdcells).flatten)
theorem fds_one(L:List PFd):∀v∈(L.map fdcells).flatten,v.oneCell'=true:=recs_one encFd_one L
theorem yy{W w:World}{l F:List Chunk}{x y:Value}{L M:List PFd}{K:Value→World→Prop}(hS:SL W l w)(hr:Rem (FdO x L) l F)(hsrc:srcCells w 3 y M.length (M.map fdcells).flatten)(hb:L.length+M.length≤1000000)
  (h:∀v' w',SL W (FdO v' (L++M)::F) w'→K v' w'):zw 3 32 [.int .i64 0,.int .i64 0,.string ⟨#[]⟩] 174 x y w K:=
 zz hS hr hsrc (flat_len fd_len M) rfl (fds_one M) (by omega) (by omega) λv' w' hS=>h v' w' (by
  have e:((L++M).map fdcells).flatten=(L.map fdcells).flatten++(M.map fdcells).flatten:=by simp
  show SL W (.ob (OwnSl v' 174 3 (L++M).length ((L++M).map fdcells).flatten)::F) w'
  rw[e,List.length_append];exact hS)
theorem src_fd1{W w:World}{l:List Chunk}{b:Nat}{x:PFd}(hS:SL W l w)(m:Has (.pt b (fdcells x) 174) l):srcCells w 3 (.slice (some ⟨b,0,none⟩) 1 1) [x].length ([x].map fdcells).flatten:=by
 simpa using src_pt0 (m:=1) (sz:=3) (cap:=1) hS m rfl
section
variable (b:Nat) (x1 x2 x3 x4 x5 x6 x7:Int) (t:TypeId)
theorem ints1:SP 225 [.slice (some ⟨b,0,none⟩) 1 1] [.pt b [.int .i64 x1] t] (λu post=>post=[FdO u [iF x1]]):=Zn b [x1] t (by simp)
theorem ints4:SP 225 [.slice (some ⟨b,0,none⟩) 4 4] [.pt b [.int .i64 x1,.int .i64 x2,.int .i64 x3,.int .i64 x4] t] (λu post=>post=[FdO u [iF x1,iF x2,iF x3,iF x4]]):=Zn b [x1,x2,x3,x4] t (by simp)
end
theorem flatN_len{α β:Type}{f:α→List β}{n:Nat}(hn:∀x,(f x).length=n)(xs:List α):((xs.map f).flatten).length=xs.length*n:=by
 induction xs with
 | nil=>simp
 | cons x xs ih=>simp[hn,ih,Nat.add_mul];omega
theorem qO(on:Bool):SP 302 [.bool on] [] (Gives (agg (fdcells (iF (bitI on)))) []):=by
 intro W F w hS;apply vc302;unfold Vc302;(try simp only[app]at hS)
 refine Gm λb w hS=>?_
 cases on with
 | true=>
  refine zy ?_
  refine Cg (zM 1) λw hS=>?_
  (exact⟨_,⟨rfl,rfl⟩,SL.into hS Xi⟩)
 | false=>
  refine zt ?_
  refine Cg (zM 0) λw hS=>?_
  (exact⟨_,⟨rfl,rfl⟩,SL.into hS Xi⟩)
section
variable (a b c d e f g:PFd)
abbrev zF:List Value:=[.int .i64 0,.int .i64 0,.string ⟨#[]⟩]
theorem fill2F:fillL (zrow zF 2) [(0,3,agg (fdcells a)),(3,3,agg (fdcells b))]=some ([a,b].map fdcells).flatten:=by simp[fillL,zrow,Value.cells,fdcells]
theorem fill4F:fillL (zrow zF 4) [(0,3,agg (fdcells a)),(3,3,agg (fdcells b)),(6,3,agg (fdcells c)),(9,3,agg (fdcells d))]=some ([a,b,c,d].map fdcells).flatten:=by simp[fillL,zrow,Value.cells,fdcells]
end
def fdsCh(c:Chg):List PFd:=[iF c.table,iF c.key,iF (bitI c.gone),tF c.val]
theorem QW(c:Chg):SP 249 [agg (encChg c)] [] (λu post=>post=[FdO u (fdsCh c)]):=by
 intro W F w hS;apply vc249;unfold Vc249;(try simp only[app]at hS)
 refine zJ hS λcb w hS=>?_
 unfold encChg at hS
 refine Gn λw hS=>?_
 refine Cg (zM c.table) λw hS=>?_
 refine Cg (zM c.key) λw hS=>?_
 refine Cg (qO c.gone) λw hS=>?_
 refine Cg (y5 c.val) λw hS=>?_
 refine zB hS (fill4F (iF c.table) (iF c.key) (iF (bitI c.gone)) (tF c.val)) λb w hS=>?_
 have hS:=OwnSl.full (n:=4) (sz:=3) rfl hS
 exact⟨_,rfl,SL.into (show SL W (FdO _ (fdsCh c)::_) _ from hS) Xi⟩
def intR(m:Int)(r:PRd):Int × PRd:=match r.bad,r.l with
 | false,f::l=>if f.kind=1∧0≤f.n∧f.n≤m then (f.n,⟨l,false⟩) else (0,⟨f::l,true⟩)
 | _,l=>(0,⟨l,true⟩)
def flagR(r:PRd):Bool × PRd:=(decide ((intR 1 r).1=1),(intR 1 r).2)
section
variable {α β γ:Type}
def Mono(p:PRd→α × PRd):Prop:=∀r,r.bad=true→(p r).2.bad=true
structure Agr(p q:PRd→α × PRd)(V:α→Prop):Prop where
 same:∀r,(q r).2.bad=false→p r=q r
 bad:∀r,(q r).2.bad=true→(p r).2.bad=true∨V (p r).1
def seqP(p:PRd→α × PRd)(f:α→PRd→β × PRd)(r:PRd):(α × β) × PRd:=(((p r).1,(f (p r).1 (p r).2).1),(f (p r).1 (p r).2).2)
def mapP(g:α→β)(p:PRd→α × PRd)(r:PRd):β × PRd:=(g (p r).1,(p r).2)
theorem Mono.seq{p:PRd→α × PRd}{f:α→PRd→β × PRd}(hp:Mono p)(hf:∀a,Mono (f a)):Mono (seqP p f):=λr h=>hf _ _ (hp r h)
theorem Mono.map{p:PRd→α × PRd}(g:α→β)(hp:Mono p):Mono (mapP g p):=λr h=>hp r h
theorem Agr.seq{p q:PRd→α × PRd}{f g:α→PRd→β × PRd}{V:α→Prop}{U:β→Prop}(h:Agr p q V)(k:∀a,Agr (f a) (g a) U)(hg:∀a,Mono (g a))(hf:∀a,Mono (f a)):Agr (seqP p f) (seqP q g) λx=>V x.1∨U x.2:=by
 refine⟨λr hr=>?_,λr hr=>?_⟩
 ·have h1:(q r).2.bad=false:=by
   cases hb:(q r).2.bad with
   | false=>rfl
   | true=>have h2:(g (q r).1 (q r).2).2.bad=false:=hr;rw[hg _ _ hb]at h2;cases h2
  unfold seqP
  rw[h.same r h1,(k _).same _ hr]
 ·cases h1:(q r).2.bad with
  | false=>
   have e:=h.same r h1
   have hr':(g (q r).1 (q r).2).2.bad=true:=hr
   rcases (k _).bad _ hr' with h2|h2
   ·left;unfold seqP;rw[e];exact h2
   ·right;right;unfold seqP;rw[e];exact h2
  | true=>
   rcases h.bad r h1 with h2|h2
   ·exact .inl (hf _ _ h2)
   ·exact .inr (.inl h2)
theorem Agr.map{p q:PRd→α × PRd}{V:α→Prop}{U:β→Prop}(h:Agr p q V)(g:α→β)(hv:∀x,V x→U (g x)):Agr (mapP g p) (mapP g q) U:=
 ⟨λr hr=>by unfold mapP;rw[h.same r hr],λr hr=>(h.bad r hr).imp id (hv _)⟩
theorem Mono.many{p:PRd→α × PRd}(hp:Mono p):∀i,Mono (manyP p i)
 | 0,r,h=>h
 | i+1,r,h=>by unfold manyP;rw[if_pos h];exact h
theorem Agr.many{p q:PRd→α × PRd}{V:α→Prop}(h:Agr p q V)(hp:Mono p)(hq:Mono q):∀i,Agr (manyP p i) (manyP q i) λl=>∃x∈l,V x
 | 0=>⟨λr _=>rfl,λr hr=>.inl hr⟩
 | i+1=>by
  have ih:=Agr.many h hp hq i
  refine⟨λr hr=>?_,λr hr=>?_⟩
  ·unfold manyP at hr ⊢
   cases hb:r.bad with
   | true=>simp[hb]at hr ⊢
   | false=>
    simp only[hb]at hr ⊢
    have hr:(manyP q i (q r).2).2.bad=false:=hr
    have h1:(q r).2.bad=false:=by
     cases h1:(q r).2.bad with
     | false=>rfl
     | true=>rw[Mono.many hq i _ h1]at hr;cases hr
    rw[h.same r h1,ih.same _ hr]
  ·unfold manyP at hr ⊢
   cases hb:r.bad with
   | true=>left;simp[hb]
   | false=>
    simp only[hb]at hr ⊢
    have hr:(manyP q i (q r).2).2.bad=true:=hr
    show (manyP p i (p r).2).2.bad=true∨∃x∈(p r).1::(manyP p i (p r).2).1,V x
    cases h1:(q r).2.bad with
    | false=>
     rw[h.same r h1]
     rcases ih.bad _ hr with h2|⟨x,h2,h3⟩
     ·exact .inl h2
     ·exact .inr ⟨x,.tail _ h2,h3⟩
    | true=>
     rcases h.bad r h1 with h2|h2
     ·exact .inl (Mono.many hp i _ h2)
     ·exact .inr ⟨_,.head _,h2⟩
end
theorem nextP_bad(k:Int){r:PRd}(h:r.bad=true):(nextP k r).2.bad=true:=by unfold nextP;rw[h]
theorem intP_mono:Mono intP:=λr h=>nextP_bad 1 h
theorem textP_mono:Mono textP:=λr h=>nextP_bad 2 h
theorem smallP_mono(m:Int):Mono (smallP m):=λr h=>by unfold smallP;split;rfl;exact intP_mono r h
theorem bitP_mono:Mono bitP:=λr h=>smallP_mono 1 r h
theorem intR_mono(m:Int):Mono (intR m):=λr h=>by unfold intR;rw[h]
theorem flagR_mono:Mono flagR:=λr h=>intR_mono 1 r h
theorem intR_cons(m:Int)(f:PFd)(l:List PFd):intR m ⟨f::l,false⟩=if f.kind=1∧0≤f.n∧f.n≤m then (f.n,⟨l,false⟩) else (0,⟨f::l,true⟩):=rfl
theorem intP_cons(f:PFd)(l:List PFd):intP ⟨f::l,false⟩=if f.kind=1 then (f.n,⟨l,false⟩) else (0,⟨f::l,true⟩):=by
 unfold intP nextP
 simp only
 split<;>rfl
theorem intR_agr(m:Int):Agr intP (intR m) λn=>¬(0≤n∧n≤m):=by
 refine⟨λr h=>?_,λr h=>?_⟩
 ·obtain⟨l,b⟩:=r
  cases b with
  | true=>cases h
  | false=>
   cases l with
   | nil=>cases h
   | cons f l=>
    rw[intR_cons]at h ⊢
    rw[intP_cons]
    split at h
    ·rename_i hc;rw[if_pos hc,if_pos hc.1]
    ·cases h
 ·obtain⟨l,b⟩:=r
  cases b with
  | true=>exact .inl rfl
  | false=>
   cases l with
   | nil=>exact .inl rfl
   | cons f l=>
    rw[intR_cons]at h
    rw[intP_cons]
    split at h
    ·cases h
    ·rename_i hc
     by_cases hk:f.kind=1
     ·right;rw[if_pos hk];exact λhh=>hc ⟨hk,hh⟩
     ·left;rw[if_neg hk]
theorem smallP_agr(m k:Int)(hk:k≤m):Agr (smallP m) (intR k) λn=>¬(0≤n∧n≤k):=by
 have h0:=intR_agr k
 have hin:∀r,(intR k r).2.bad=false→0≤(intR k r).1∧(intR k r).1≤k:=λr h=>by
  obtain⟨l,b⟩:=r
  unfold intR at h ⊢
  cases b<;>cases l<;>simp only at h ⊢
  ·cases h
  ·split at h
   ·rename_i hc;rw[if_pos hc];exact⟨hc.2.1,hc.2.2⟩
   ·cases h
  ·cases h
  ·cases h
 refine⟨λr h=>?_,λr h=>?_⟩
 ·have:=hin r h
  unfold smallP
  rw[h0.same r h,if_neg (by omega)]
 ·unfold smallP
  split
  ·exact .inl rfl
  ·exact h0.bad r h
theorem bitP_agr:Agr bitP flagR λ_=>False:=by
 have h0:=smallP_agr 1 1 (Int.le_refl _)
 refine⟨λr h=>?_,λr h=>?_⟩
 ·unfold bitP flagR;rw[h0.same r h]
 ·left
  rcases h0.bad r h with h1|h1
  ·exact h1
  ·show (smallP 1 r).2.bad=true
   unfold smallP at h1 ⊢
   split
   ·rfl
   ·rename_i hc
    rw[if_neg hc]at h1
    exact absurd ⟨by omega,by omega⟩ h1
theorem textP_agr:Agr textP textP λ_=>False:=⟨λr h=>rfl,λr h=>.inl h⟩
theorem smallS_agr(m:Int):Agr (smallP m) (intR m) λ_=>False:=by
 have h0:=smallP_agr m m (Int.le_refl _)
 refine⟨h0.same,λr h=>?_⟩
 rcases h0.bad r h with h1|h1
 ·exact .inl h1
 ·left
  unfold smallP at h1 ⊢
  split
  ·rfl
  ·rename_i hc
   rw[if_neg hc]at h1
   exact absurd ⟨by omega,by omega⟩ h1
theorem decF_len{b:List UInt8}{l:List PFd}(h:decF b= .ok l):l.length≤32767:=by
 rw[decF_eq]at h
 split at h
 ·have h1:=fieldsF_len (mostF 32767 ⟨b,0⟩).1 (mostF 32767 ⟨b,0⟩).2
  have h2:=mostF_le 32767 ⟨b,0⟩
  cases h;omega
 ·cases h
theorem smallP_in{m:Int}(hm:0≤m)(r:PRd):0≤(smallP m r).1∧(smallP m r).1≤m:=by
 unfold smallP
 split
 ·exact⟨Int.le_refl _,hm⟩
 ·omega
theorem intR_in{m:Int}(hm:0≤m)(r:PRd):0≤(intR m r).1∧(intR m r).1≤m:=by
 obtain⟨l,b⟩:=r
 unfold intR
 cases b with
 | true=>exact⟨Int.le_refl _,hm⟩
 | false=>
  cases l with
  | nil=>exact⟨Int.le_refl _,hm⟩
  | cons f l=>
   simp only
   split
   ·rename_i h;exact⟨h.2.1,h.2.2⟩
   ·exact⟨Int.le_refl _,hm⟩
theorem manyP_stop{α:Type}(one:PRd→α × PRd){i:Nat}{r:PRd}(h:i=0∨r.bad=true):manyP one i r=([],r):=by
 cases i with
 | zero=>rfl
 | succ i=>unfold manyP;rw[if_pos (by rcases h with h|h;cases h;exact h)]
theorem manyP_go{α:Type}(one:PRd→α × PRd){i:Nat}{r:PRd}(h:r.bad=false):manyP one (i+1) r=((one r).1::(manyP one i (one r).2).1,(manyP one i (one r).2).2):=by
 conv=>lhs;unfold manyP
 rw[if_neg (by rw[h];decide)]
structure ManyAt{α:Type}(one:PRd→α × PRd)(n:Nat)(r0:PRd)(xs:List α)(k:Nat)(r:PRd):Prop where
 eq:manyP one n r0=(xs++(manyP one k r).1,(manyP one k r).2)
 le:xs.length+k≤n
theorem ManyAt.start{α:Type}(one:PRd→α × PRd)(n:Nat)(r:PRd):ManyAt one n r [] n r:=⟨rfl,by simp⟩
theorem ManyAt.step{α:Type}{one:PRd→α × PRd}{n:Nat}{r0:PRd}{xs:List α}{k:Nat}{r:PRd}(h:ManyAt one n r0 xs (k+1) r)(hb:r.bad=false):ManyAt one n r0 (xs++[(one r).1]) k (one r).2:=
 ⟨by rw[h.eq,manyP_go one hb];simp,by have:=h.le;rw[List.length_append,List.length_singleton];omega⟩
theorem ManyAt.stop{α:Type}{one:PRd→α × PRd}{n:Nat}{r0:PRd}{xs:List α}{k:Nat}{r:PRd}(h:ManyAt one n r0 xs k r)(hb:k=0∨r.bad=true):manyP one n r0=(xs,r):=by
 rw[h.eq,manyP_stop one hb,List.append_nil]
theorem decF_er{b:List UInt8}{e:Int}(h:decF b= .error e):e≠0:=by
 rw[decF_eq]at h
 split at h
 ·cases h
 ·rename_i h2;cases h;exact h2
def RRdX(rp:Nat)(v:Value)(L:List PFd)(k:Nat)(bad:Bool):List Chunk:=[.pt rp [v,.int .i64 k,.bool bad] 339,FdO v L]
def RRdO(rp:Nat)(r:PRd):zC:=HEx λx:Value × List PFd × Nat=>zQ (x.2.2≤x.2.1.length∧x.2.1.length≤32767∧r.l=x.2.1.drop x.2.2) (RRdX rp x.1 x.2.1 x.2.2 r.bad)
theorem RRdO.iff{W w:World}{rp:Nat}{r:PRd}{l:List Chunk}:SL W (.ob (RRdO rp r)::l) w↔∃(v:Value) (L:List PFd) (k:Nat),(k≤L.length∧L.length≤32767∧r.l=L.drop k)∧SL W (.pt rp [v,.int .i64 k,.bool r.bad] 339::FdO v L::l) w:=by
 unfold RRdO RRdX
 simp only[SL.ex,SL.fact,List.cons_append,List.nil_append]
 exact⟨λ⟨x,h1,h2⟩=>⟨x.1,x.2.1,x.2.2,h1,h2⟩,λ⟨a,b,c,h1,h2⟩=>⟨(a,b,c),h1,h2⟩⟩
theorem drop_nil{α:Type}{L:List α}{k:Nat}(h:k≤L.length):L.drop k=[]↔k=L.length:=by
 rw[List.drop_eq_nil_iff];omega
theorem zO(rp:Nat)(r:PRd)(m:Int):SP 244 [.pointer (some ⟨rp,0,none⟩),.int .i64 m] [.ob (RRdO rp r)] (Gives (.int .i64 (intR m r).1) [.ob (RRdO rp (intR m r).2)]):=by
 obtain⟨l,bad⟩:=r
 intro W F w hS;apply vc244;unfold Vc244;(try simp only[app]at hS)
 obtain⟨v,L,k,⟨hk,hL,hl⟩,hS⟩:=RRdO.iff.1 hS
 have hl:l=L.drop k:=hl
 subst hl
 simp only at hS
 have hbad:∀{w:World},intR m ⟨L.drop k,bad⟩=(0,⟨L.drop k,true⟩)→SL W (.pt rp [v,.int .i64 k,.bool true] 339::FdO v L::F) w→∃post,Gives (.int .i64 (intR m ⟨L.drop k,bad⟩).1) [.ob (RRdO rp (intR m ⟨L.drop k,bad⟩).2)] (.int .i64 0) post∧SL W (app post F) w:=λe hS=>by
  rw[e];exact⟨_,⟨rfl,rfl⟩,RRdO.iff.2 ⟨v,L,k,⟨hk,hL,rfl⟩,hS⟩⟩
 refine Gn λw hS=>?_
 cases bad with
 | true=>
  refine zy ?_
  refine Gn λw hS=>?_
  exact hbad rfl hS
 | false=>
  refine zt ?_
  refine Gp ?_
  refine zx hS (v:=v) Xh ?_
  refine Gp ?_
  refine zc (λh=>?_) (λh=>?_)
  ·refine Gn λw hS=>?_
   exact hbad (by rw[List.drop_eq_nil_of_le (by omega)];rfl) hS
  ·have hkl:k<L.length:=by omega
   have hx:L[k]?=some L[k]:=List.getElem?_eq_getElem hkl
   have hc:L.drop k=L[k]::L.drop (k+1):=List.drop_eq_getElem_cons hkl
   have hI:∀bad,intR m ⟨L.drop k,bad⟩=match bad with|true=>(0,⟨L.drop k,true⟩)|false=>if L[k].kind=1∧0≤L[k].n∧L[k].n≤m then (L[k].n,⟨L.drop (k+1),false⟩) else (0,⟨L.drop k,true⟩):=λbad=>by
    cases bad with
    | true=>rfl
    | false=>rw[hc];exact intR_cons m _ _
   have hI:=hI false
   simp only at hI
   refine Gp ?_
   refine zD (i:=0) hS (v:=v) Xh fd_len hx hkl rfl ?_
   refine Gp ?_
   refine zc (λh1=>?_) (λh1=>?_)
   ·refine Gn λw hS=>?_
    exact hbad (by rw[hI,if_neg λh=>h1 h.1]) hS
   refine Gp ?_
   refine zD (i:=1) hS (v:=v) Xh fd_len hx hkl rfl ?_
   refine Gp ?_
   refine zc (λh2=>?_) (λh2=>?_)
   ·refine Gn λw hS=>?_
    exact hbad (by rw[hI,if_neg λh=>by omega]) hS
   refine Gp ?_
   refine zD (i:=1) hS (v:=v) Xh fd_len hx hkl rfl ?_
   refine Gp ?_
   refine zc (λh3=>?_) (λh3=>?_)
   ·refine Gn λw hS=>?_
    exact hbad (by rw[hI,if_neg λh=>by omega]) hS
   refine Gn λw hS=>?_
   rw[show ((k+1:Nat):Int)-1=(k:Int) by omega]
   refine zD (i:=1) hS (v:=v) Xh fd_len hx hkl rfl ?_
   rw[hI,if_pos ⟨Classical.not_not.1 h1,by omega,by omega⟩]
   exact⟨_,⟨rfl,rfl⟩,RRdO.iff.2 ⟨v,L,k+1,⟨hkl,hL,rfl⟩,SL.into hS Xi⟩⟩
theorem Y7(rp:Nat)(r:PRd):SP 301 [.pointer (some ⟨rp,0,none⟩)] [.ob (RRdO rp r)] (Gives (.bool (flagR r).1) [.ob (RRdO rp (flagR r).2)]):=by
 intro W F w hS;apply vc301;unfold Vc301;(try simp only[app]at hS)
 refine Cg (zO rp r 1) λw hS=>?_
 exact⟨_,⟨rfl,rfl⟩,hS⟩
theorem yX(rp:Nat)(r:PRd):SP 245 [.pointer (some ⟨rp,0,none⟩)] [.ob (RRdO rp r)] (Gives (.string (textP r).1) [.ob (RRdO rp (textP r).2)]):=by
 obtain⟨l,bad⟩:=r
 intro W F w hS;apply vc245;unfold Vc245;(try simp only[app]at hS)
 obtain⟨v,L,k,⟨hk,hL,hl⟩,hS⟩:=RRdO.iff.1 hS
 have hl:l=L.drop k:=hl
 subst hl
 simp only at hS
 have hbad:∀{w:World},nextP 2 ⟨L.drop k,bad⟩=(fd0,⟨L.drop k,true⟩)→SL W (.pt rp [v,.int .i64 k,.bool true] 339::FdO v L::F) w→∃post,Gives (.string (textP ⟨L.drop k,bad⟩).1) [.ob (RRdO rp (textP ⟨L.drop k,bad⟩).2)] (.string ⟨#[]⟩) post∧SL W (app post F) w:=λe hS=>by
  unfold textP
  rw[e];exact⟨_,⟨rfl,rfl⟩,RRdO.iff.2 ⟨v,L,k,⟨hk,hL,rfl⟩,hS⟩⟩
 refine Gn λw hS=>?_
 cases bad with
 | true=>
  refine zy ?_
  refine Gn λw hS=>?_
  exact hbad rfl hS
 | false=>
  refine zt ?_
  refine Gp ?_
  refine zx hS (v:=v) Xh ?_
  refine Gp ?_
  refine zc (λh=>?_) (λh=>?_)
  ·refine Gn λw hS=>?_
   exact hbad (by rw[List.drop_eq_nil_of_le (by omega)];rfl) hS
  ·have hkl:k<L.length:=by omega
   have hx:L[k]?=some L[k]:=List.getElem?_eq_getElem hkl
   have hc:L.drop k=L[k]::L.drop (k+1):=List.drop_eq_getElem_cons hkl
   have hI:nextP 2 ⟨L.drop k,false⟩=if L[k].kind=2 then (L[k],⟨L.drop (k+1),false⟩) else (fd0,⟨L.drop k,true⟩):=by rw[hc];rfl
   refine Gp ?_
   refine zD (i:=0) hS (v:=v) Xh fd_len hx hkl rfl ?_
   refine Gp ?_
   refine zc (λh1=>?_) (λh1=>?_)
   ·refine Gn λw hS=>?_
    exact hbad (by rw[hI,if_neg λh=>h1 h]) hS
   refine Gn λw hS=>?_
   rw[show ((k+1:Nat):Int)-1=(k:Int) by omega]
   refine zD (i:=2) hS (v:=v) Xh fd_len hx hkl rfl ?_
   unfold textP
   rw[hI,if_pos (Classical.not_not.1 h1)]
   exact⟨_,⟨rfl,rfl⟩,RRdO.iff.2 ⟨v,L,k+1,⟨hkl,hL,rfl⟩,SL.into hS Xi⟩⟩
theorem Yi(rp:Nat)(r:PRd):SP 246 [.pointer (some ⟨rp,0,none⟩)] [.ob (RRdO rp r)] (Gives (.bool (decide (r.bad=false∧r.l=[]))) [.ob (RRdO rp r)]):=by
 obtain⟨l,bad⟩:=r
 intro W F w hS;apply vc246;unfold Vc246;(try simp only[app]at hS)
 obtain⟨v,L,k,⟨hk,hL,hl⟩,hS⟩:=RRdO.iff.1 hS
 simp only at hl
 refine Gn λw hS=>?_
 cases bad with
 | true=>
  refine zt ?_
  rw[decide_eq_false (by simp)]
  exact⟨_,⟨rfl,rfl⟩,RRdO.iff.2 ⟨v,L,k,⟨hk,hL,hl⟩,SL.into hS Xi⟩⟩
 | false=>
  refine zy ?_
  refine Gp ?_
  refine zx hS (v:=v) Xh ?_
  refine Gp ?_
  have e:decide ((k:Int)=(L.length:Int))=decide ((PRd.mk l false).bad=false∧(PRd.mk l false).l=[]):=by
   rw[decide_eq_decide]
   simp only[true_and]
   rw[hl,drop_nil hk];omega
  rw[e]
  exact⟨_,⟨rfl,rfl⟩,RRdO.iff.2 ⟨v,L,k,⟨hk,hL,hl⟩,SL.into hS Xi⟩⟩
def chR(r:PRd):Chg × PRd:=
 let b:=intR 7 r;let c:=intR 1099511627776 b.2;let d:=flagR c.2;let e:=textP d.2
 (⟨b.1,c.1,d.1,e.1⟩,e.2)
theorem QX(rp:Nat)(r:PRd):SP 247 [.pointer (some ⟨rp,0,none⟩)] [.ob (RRdO rp r)] (Gives (agg (encChg (chR r).1)) [.ob (RRdO rp (chR r).2)]):=by
 intro W F w hS;apply vc247;unfold Vc247;(try simp only[app]at hS)
 refine Gm λb w hS=>?_
 refine Cg (zO rp r 7) λw hS=>?_;refine Gm λb w hS=>?_
 refine Cg (zO rp _ 1099511627776) λw hS=>?_
 refine Cg (Y7 rp _) λw hS=>?_
 refine Cg (yX rp _) λw hS=>?_
 simp only[chR]
 exact⟨_,⟨rfl,rfl⟩,SL.into hS Xi⟩
theorem RRdO.badAt{W w:World}{rp:Nat}{r:PRd}{l:List Chunk}(h:SL W (.ob (RRdO rp r)::l) w){K:Value→Prop}(hK:K (.bool r.bad)):HLd (.pointer (some ⟨rp,2,none⟩)) w K:=by
 obtain⟨v,L,k,_,hS⟩:=RRdO.iff.1 h
 exact ye hS .hd rfl hK
def mayTx(t:TxnD):Bool:=decide (1≤t.lsn∧t.lsn≤1099511627776) &&
 (if t.kind=1 then decide (t.mark=0∧t.changes.length≤16∧t.signals.length≤2) && t.changes.all (λc=>mayCh c 8) && t.signals.all (λs=>decide (s.size≤40))
  else decide ((t.kind=2∨t.kind=3)∧1≤t.mark∧t.mark≤1099511627776∧t.changes=[]∧t.signals=[]))
theorem mayCh_iff{c:Chg}{k:Int}:mayCh c k=true↔0≤c.table∧c.table<k∧1≤c.key∧c.key≤1099511627776∧c.val.size≤32∧(c.gone=true→c.val=emp):=by unfold mayCh;rw[decide_eq_true_eq]
theorem mayTx_iff{t:TxnD}:mayTx t=true↔(1≤t.lsn∧t.lsn≤1099511627776) ∧
  ((t.kind=1∧t.mark=0∧t.changes.length≤16∧t.signals.length≤2∧(∀c∈t.changes,mayCh c 8=true)∧∀s∈t.signals,s.size≤40) ∨
   ((t.kind=2∨t.kind=3)∧1≤t.mark∧t.mark≤1099511627776∧t.changes=[]∧t.signals=[])):=by
 unfold mayTx
 rw[Bool.and_eq_true,decide_eq_true_eq]
 refine and_congr_right λ_=>?_
 split
 ·rename_i hk
  rw[Bool.and_eq_true,Bool.and_eq_true,decide_eq_true_eq,List.all_eq_true,List.all_eq_true]
  constructor
  ·rintro ⟨⟨⟨h1,h2,h3⟩,h4⟩,h5⟩
   exact .inl ⟨hk,h1,h2,h3,h4,λs hs=>of_decide_eq_true (h5 s hs)⟩
  ·rintro (⟨_,h1,h2,h3,h4,h5⟩|⟨h,_⟩)
   ·exact⟨⟨⟨h1,h2,h3⟩,h4⟩,λs hs=>decide_eq_true (h5 s hs)⟩
   ·omega
 ·rename_i hk
  rw[decide_eq_true_eq]
  constructor
  ·exact λh=>.inr h
  ·rintro (⟨h,_⟩|h)
   ·exact absurd h hk
   ·exact h
theorem mayTx_all{t:TxnD}(h:mayTx t=true):(1≤t.lsn∧t.lsn≤1099511627776)∧(1≤t.kind∧t.kind≤3)∧(0≤t.mark∧t.mark≤1099511627776)∧t.changes.length≤16∧t.signals.length≤2∧(∀c∈t.changes,mayCh c 8=true)∧∀s∈t.signals,s.size≤40:=by
 obtain⟨h1,h2⟩:=mayTx_iff.1 h
 rcases h2 with ⟨k,m,a,b,c,d⟩|⟨k,m1,m2,a,b⟩
 ·exact⟨h1,by omega,by omega,a,b,c,d⟩
 ·rw[a,b];exact⟨h1,by omega,by omega,by simp,by simp,by simp,by simp⟩
def fdsTx(t:TxnD):List PFd:=[iF t.lsn,iF t.kind,iF t.mark,iF t.changes.length]++(t.changes.map fdsCh).flatten++([iF t.signals.length]++t.signals.map tF)
def encTxn(t:TxnD):Except Int (List UInt8):=if mayTx t=true then encFs (fdsTx t) else .error 1
theorem fdsTx_len(t:TxnD):(fdsTx t).length=5+t.changes.length*4+t.signals.length:=by
 unfold fdsTx
 simp only[List.length_append,List.length_cons,List.length_nil,List.length_map]
 rw[flat_const (f:=fdsCh) (k:=4) (λ_=>rfl)]
 omega
theorem fdsTx_in{t:TxnD}(h:mayTx t=true):∀f∈fdsTx t,inF f:=by
 obtain⟨h1,h2,h3,h4,h5,h6,h7⟩:=mayTx_all h
 intro f hf
 unfold fdsTx at hf
 simp only[List.mem_append,List.mem_cons,List.mem_flatten,List.mem_map,List.not_mem_nil,or_false]at hf
 rcases hf with ((rfl|rfl|rfl|rfl)|⟨l,⟨c,hc,rfl⟩,hf⟩)|rfl|⟨s,hs,rfl⟩
 ·exact inF_i (by omega)
 ·exact inF_i (by omega)
 ·exact inF_i (by omega)
 ·exact inF_i (by omega)
 ·have h8:=mayCh_iff.1 (h6 c hc)
  have hb:=bitI_rng c.gone
  unfold fdsCh at hf
  simp only[List.mem_cons,List.not_mem_nil,or_false]at hf
  rcases hf with rfl|rfl|rfl|rfl
  ·exact inF_i (by omega)
  ·exact inF_i (by omega)
  ·exact inF_i (by omega)
  ·exact .inr ⟨rfl,rfl,by show c.val.size≤4096;omega⟩
 ·exact inF_i (by omega)
 ·have:=h7 s hs
  exact .inr ⟨rfl,rfl,by show s.size≤4096;omega⟩
theorem encTxn_ok{t:TxnD}(h:mayTx t=true):encTxn t= .ok (numB (fdsTx t).length 2++((fdsTx t).map encF).flatten)∧decF (numB (fdsTx t).length 2++((fdsTx t).map encF).flatten)= .ok (fdsTx t):=by
 have hl:=fdsTx_len t
 obtain⟨_,_,_,h4,h5,_,_⟩:=mayTx_all h
 obtain⟨e1,e2⟩:=decF_enc (l:=fdsTx t) (by omega) (fdsTx_in h)
 exact⟨by unfold encTxn;rw[if_pos h,e1],e2⟩
def manyA{α:Type}(one:PRd→α × PRd):Nat→PRd→List α × PRd
 | 0,r=>([],r)
 | i+1,r=>((one r).1::(manyA one i (one r).2).1,(manyA one i (one r).2).2)
theorem Mono.manyA{α:Type}{p:PRd→α × PRd}(hp:Mono p):∀i,Mono (manyA p i)
 | 0,r,h=>h
 | i+1,r,h=>Mono.manyA hp i _ (hp r h)
theorem Agr.manyA{α:Type}{p q:PRd→α × PRd}{V:α→Prop}(h:Agr p q V)(hp:Mono p)(hq:Mono q):∀i,Agr (manyA p i) (manyP q i) λl=>∃x∈l,V x
 | 0=>⟨λr _=>rfl,λr hr=>.inl hr⟩
 | i+1=>by
  have ih:=Agr.manyA h hp hq i
  refine⟨λr hr=>?_,λr hr=>?_⟩
  ·unfold YtfenmffiidchcaaGreat.manyA manyP
   unfold manyP at hr
   cases hb:r.bad with
   | true=>simp[hb]at hr
   | false=>
    simp only[hb]at hr ⊢
    have hr:(manyP q i (q r).2).2.bad=false:=hr
    have h1:(q r).2.bad=false:=by
     cases h1:(q r).2.bad with
     | false=>rfl
     | true=>rw[Mono.many hq i _ h1]at hr;cases hr
    rw[h.same r h1,ih.same _ hr];rfl
  ·cases hb:r.bad with
   | true=>exact .inl (Mono.manyA hp (i+1) r hb)
   | false=>
    unfold manyP at hr
    simp only[hb]at hr
    have hr:(manyP q i (q r).2).2.bad=true:=hr
    show (YtfenmffiidchcaaGreat.manyA p i (p r).2).2.bad=true∨∃x∈(p r).1::(YtfenmffiidchcaaGreat.manyA p i (p r).2).1,V x
    cases h1:(q r).2.bad with
    | false=>
     rw[h.same r h1]
     rcases ih.bad _ hr with h2|⟨x,h2,h3⟩
     ·exact .inl h2
     ·exact .inr ⟨x,.tail _ h2,h3⟩
    | true=>
     rcases h.bad r h1 with h2|h2
     ·exact .inl (Mono.manyA hp i _ h2)
     ·exact .inr ⟨_,.head _,h2⟩
def chP(r:PRd):Chg × PRd:=
 let b:=smallP 8 r;let c:=intP b.2;let d:=bitP c.2;let e:=textP d.2
 (⟨b.1,c.1,d.1,e.1⟩,e.2)
def mkCh(x:Int × Int × Bool × ByteArray):Chg:=⟨x.1,x.2.1,x.2.2.1,x.2.2.2⟩
theorem chP_eq:chP=mapP mkCh (seqP (smallP 8) λ_=>seqP intP λ_=>seqP bitP λ_=>textP):=by funext r;simp only[chP,mapP,seqP,mkCh]
theorem chR_eq:chR=mapP mkCh (seqP (intR 7) λ_=>seqP (intR 1099511627776) λ_=>seqP flagR λ_=>textP):=by funext r;simp only[chR,mapP,seqP,mkCh]
theorem chP_mono:Mono chP:=by rw[chP_eq];exact ((smallP_mono 8).seq λ_=>intP_mono.seq λ_=>bitP_mono.seq λ_=>textP_mono).map _
theorem chR_mono:Mono chR:=by rw[chR_eq];exact ((intR_mono 7).seq λ_=>(intR_mono _).seq λ_=>flagR_mono.seq λ_=>textP_mono).map _
def VCh(c:Chg):Prop:=¬(0≤c.table∧c.table≤7)∨¬(0≤c.key∧c.key≤1099511627776)
theorem ch_agr:Agr chP chR VCh:=by
 rw[chP_eq,chR_eq]
 have a4:=bitP_agr.seq (f:=λ_=>textP) (g:=λ_=>textP) (λ_=>textP_agr) (λ_=>textP_mono) (λ_=>textP_mono)
 have m4p:Mono (seqP bitP λ_=>textP):=bitP_mono.seq λ_=>textP_mono
 have m4q:Mono (seqP flagR λ_=>textP):=flagR_mono.seq λ_=>textP_mono
 have a3:=(intR_agr 1099511627776).seq (f:=λ_=>seqP bitP λ_=>textP) (g:=λ_=>seqP flagR λ_=>textP) (λ_=>a4) (λ_=>m4q) (λ_=>m4p)
 have m3p:Mono (seqP intP λ_=>seqP bitP λ_=>textP):=intP_mono.seq λ_=>m4p
 have m3q:Mono (seqP (intR 1099511627776) λ_=>seqP flagR λ_=>textP):=(intR_mono _).seq λ_=>m4q
 have a2:=(smallP_agr 8 7 (by decide)).seq (f:=λ_=>seqP intP λ_=>seqP bitP λ_=>textP) (g:=λ_=>seqP (intR 1099511627776) λ_=>seqP flagR λ_=>textP) (λ_=>a3) (λ_=>m3q) (λ_=>m3p)
 refine a2.map mkCh λx h=>?_
 rcases h with h|h|h|h
 ·exact .inl h
 ·exact .inr h
 ·exact h.elim
 ·exact h.elim
def mkTx(x:Int × Int × Int × (Int × List Chg) × (Int × List ByteArray)):TxnD:=⟨x.1,x.2.1,x.2.2.2.1.2,x.2.2.2.2.2,x.2.2.1⟩
def cntP{α:Type}(i:PRd→Int × PRd)(m:Nat→PRd→List α × PRd):PRd→(Int × List α) × PRd:=seqP i λn=>m n.toNat
def txP:PRd→TxnD × PRd:=mapP mkTx (seqP intP λ_=>seqP (smallP 3) λ_=>seqP intP λ_=>seqP (cntP (smallP 16) (manyA chP)) λ_=>cntP (smallP 2) (manyA textP))
def txR:PRd→TxnD × PRd:=mapP mkTx (seqP (intR 1099511627776) λ_=>seqP (intR 3) λ_=>seqP (intR 1099511627776) λ_=>seqP (cntP (intR 16) (manyP chR)) λ_=>cntP (intR 2) (manyP textP))
def VTx(t:TxnD):Prop:=¬(0≤t.lsn∧t.lsn≤1099511627776)∨¬(0≤t.mark∧t.mark≤1099511627776)∨∃c∈t.changes,VCh c
theorem tx_agr:Agr txP txR VTx:=by
 unfold txP txR
 have c1:Agr (cntP (smallP 16) (manyA chP)) (cntP (intR 16) (manyP chR)) λx=>False∨∃o∈x.2,VCh o:=(smallS_agr 16).seq (λn=>ch_agr.manyA chP_mono chR_mono n.toNat) (λn=>chR_mono.many _) (λn=>chP_mono.manyA _)
 have s1:Agr (cntP (smallP 2) (manyA textP)) (cntP (intR 2) (manyP textP)) λx=>False∨∃o∈x.2,False:=(smallS_agr 2).seq (λn=>textP_agr.manyA textP_mono textP_mono n.toNat) (λn=>textP_mono.many _) (λn=>textP_mono.manyA _)
 have mc:Mono (cntP (smallP 16) (manyA chP)):=(smallP_mono _).seq λn=>chP_mono.manyA _
 have mc':Mono (cntP (intR 16) (manyP chR)):=(intR_mono _).seq λn=>chR_mono.many _
 have ms:Mono (cntP (smallP 2) (manyA textP)):=(smallP_mono _).seq λn=>textP_mono.manyA _
 have ms':Mono (cntP (intR 2) (manyP textP)):=(intR_mono _).seq λn=>textP_mono.many _
 have a4:=c1.seq (f:=λ_=>cntP (smallP 2) (manyA textP)) (g:=λ_=>cntP (intR 2) (manyP textP)) (λ_=>s1) (λ_=>ms') (λ_=>ms)
 have p4:=mc.seq (f:=λ_=>cntP (smallP 2) (manyA textP)) λ_=>ms
 have q4:=mc'.seq (f:=λ_=>cntP (intR 2) (manyP textP)) λ_=>ms'
 have a3:=(intR_agr 1099511627776).seq (f:=λ_=>seqP (cntP (smallP 16) (manyA chP)) λ_=>cntP (smallP 2) (manyA textP)) (g:=λ_=>seqP (cntP (intR 16) (manyP chR)) λ_=>cntP (intR 2) (manyP textP)) (λ_=>a4) (λ_=>q4) (λ_=>p4)
 have p3:=intP_mono.seq (f:=λ_=>seqP (cntP (smallP 16) (manyA chP)) λ_=>cntP (smallP 2) (manyA textP)) λ_=>p4
 have q3:=(intR_mono 1099511627776).seq (f:=λ_=>seqP (cntP (intR 16) (manyP chR)) λ_=>cntP (intR 2) (manyP textP)) λ_=>q4
 have a2:=(smallS_agr 3).seq (f:=λ_=>seqP intP λ_=>seqP (cntP (smallP 16) (manyA chP)) λ_=>cntP (smallP 2) (manyA textP)) (g:=λ_=>seqP (intR 1099511627776) λ_=>seqP (cntP (intR 16) (manyP chR)) λ_=>cntP (intR 2) (manyP textP)) (λ_=>a3) (λ_=>q3) (λ_=>p3)
 have p2:=(smallP_mono 3).seq (f:=λ_=>seqP intP λ_=>seqP (cntP (smallP 16) (manyA chP)) λ_=>cntP (smallP 2) (manyA textP)) λ_=>p3
 have q2:=(intR_mono 3).seq (f:=λ_=>seqP (intR 1099511627776) λ_=>seqP (cntP (intR 16) (manyP chR)) λ_=>cntP (intR 2) (manyP textP)) λ_=>q3
 have a1:=(intR_agr 1099511627776).seq (f:=λ_=>seqP (smallP 3) λ_=>seqP intP λ_=>seqP (cntP (smallP 16) (manyA chP)) λ_=>cntP (smallP 2) (manyA textP)) (g:=λ_=>seqP (intR 3) λ_=>seqP (intR 1099511627776) λ_=>seqP (cntP (intR 16) (manyP chR)) λ_=>cntP (intR 2) (manyP textP)) (λ_=>a2) (λ_=>q2) (λ_=>p2)
 refine a1.map mkTx λx h=>?_
 rcases h with h|h|h|(h|h)|(h|⟨_,_,h⟩)
 ·exact .inl h
 ·exact h.elim
 ·exact .inr (.inl h)
 ·exact h.elim
 ·exact .inr (.inr h)
 ·exact h.elim
 ·exact h.elim
theorem mayTx_V{t:TxnD}(h:mayTx t=true):¬VTx t:=by
 obtain⟨h1,h2,h3,h4,h5,h6,h7⟩:=mayTx_all h
 rintro (hv|hv|⟨c,hc,hv⟩)
 ·omega
 ·omega
 ·have:=mayCh_iff.1 (h6 c hc)
  unfold VCh at hv
  omega
def decTI(l:List PFd):Option TxnD:=
 let x:=txP ⟨l,false⟩
 if x.2.bad=false∧x.2.l=[]∧mayTx x.1=true then some x.1 else none
def decTR(l:List PFd):Option TxnD:=
 let x:=txR ⟨l,false⟩
 if x.2.bad=false∧x.2.l=[]∧mayTx x.1=true then some x.1 else none
theorem decTR_eq(l:List PFd):decTR l=decTI l:=by
 unfold decTR decTI
 simp only
 cases hb:(txR ⟨l,false⟩).2.bad with
 | false=>rw[tx_agr.same _ hb,hb]
 | true=>
  rw[if_neg (by simp),if_neg]
  rintro ⟨h1,_,h3⟩
  rcases tx_agr.bad _ hb with h|h
  ·rw[h]at h1;cases h1
  ·exact mayTx_V h3 h
def decTxn(b:List UInt8):Except Int TxnD:=match decF b with
 | .error e=>.error e
 | .ok l=>match decTI l with
  | some t=>.ok t
  | none=>.error 3
theorem manyA_ok{α:Type}{one:PRd→α × PRd}{f:α→List PFd}:∀(xs:List α) (l:List PFd),(∀x∈xs,∀l,one ⟨f x++l,false⟩=(x,⟨l,false⟩))→manyA one xs.length ⟨(xs.map f).flatten++l,false⟩=(xs,⟨l,false⟩)
 | [],l,_=>rfl
 | x::xs,l,h=>by
  have ih:=manyA_ok xs l λy hy=>h y (.tail _ hy)
  have h1:=h x (.head _) ((xs.map f).flatten++l)
  rw[List.map_cons,List.flatten_cons,List.append_assoc,List.length_cons,manyA,h1,ih]
theorem chP_ok{c:Chg}{l:List PFd}(h:0≤c.table∧c.table≤8):chP ⟨fdsCh c++l,false⟩=(c,⟨l,false⟩):=by
 unfold chP fdsCh
 have e2:smallP 8 ⟨[iF c.table,iF c.key,iF (bitI c.gone),tF c.val]++l,false⟩=(c.table,⟨[iF c.key,iF (bitI c.gone),tF c.val]++l,false⟩):=smallP_ok h
 have e3:intP ⟨[iF c.key,iF (bitI c.gone),tF c.val]++l,false⟩=(c.key,⟨[iF (bitI c.gone),tF c.val]++l,false⟩):=rfl
 have e4:bitP ⟨[iF (bitI c.gone),tF c.val]++l,false⟩=(c.gone,⟨[tF c.val]++l,false⟩):=bitP_ok
 have e5:textP ⟨[tF c.val]++l,false⟩=(c.val,⟨l,false⟩):=rfl
 simp only[e2,e3,e4,e5]
theorem txP_ok{t:TxnD}(h:mayTx t=true):txP ⟨fdsTx t,false⟩=(t,⟨[],false⟩):=by
 obtain⟨h1,h2,h3,h4,h5,h6,h7⟩:=mayTx_all h
 have e0:fdsTx t=iF t.lsn::(iF t.kind::(iF t.mark::(iF t.changes.length::((t.changes.map fdsCh).flatten++(iF t.signals.length::((t.signals.map λs=>[tF s]).flatten++[])))))):=by
  unfold fdsTx
  have:∀l:List ByteArray,l.map tF=(l.map λs=>[tF s]).flatten:=λl=>by induction l with
   | nil=>rfl
   | cons x l ih=>rw[List.map_cons,List.map_cons,List.flatten_cons,ih];rfl
  rw[this];simp
 rw[e0]
 have e1:∀n l,intP ⟨iF n::l,false⟩=(n,⟨l,false⟩):=λn l=>rfl
 have e2:∀l,smallP 3 ⟨iF t.kind::l,false⟩=(t.kind,⟨l,false⟩):=λl=>smallP_ok (by omega)
 have e3:∀l,smallP 16 ⟨iF t.changes.length::l,false⟩=((t.changes.length:Int),⟨l,false⟩):=λl=>smallP_ok (by omega)
 have e4:∀l,manyA chP t.changes.length ⟨(t.changes.map fdsCh).flatten++l,false⟩=(t.changes,⟨l,false⟩):=λl=>manyA_ok t.changes l λc hc l=>chP_ok (by have:=mayCh_iff.1 (h6 c hc);omega)
 have e5:∀l,smallP 2 ⟨iF t.signals.length::l,false⟩=((t.signals.length:Int),⟨l,false⟩):=λl=>smallP_ok (by omega)
 have e6:∀l,manyA textP t.signals.length ⟨(t.signals.map λs=>[tF s]).flatten++l,false⟩=(t.signals,⟨l,false⟩):=λl=>manyA_ok t.signals l λs hs l=>rfl
 unfold txP cntP mapP seqP mkTx
 simp only[e1,e2,e3,e4,e5,e6,Int.toNat_natCast]
theorem decTxn_ok{t:TxnD}(h:mayTx t=true):∃b,encTxn t= .ok b∧decTxn b= .ok t:=by
 obtain⟨e1,e2⟩:=encTxn_ok h
 refine⟨_,e1,?_⟩
 unfold decTxn
 rw[e2]
 have e3:decTI (fdsTx t)=some t:=by
  unfold decTI
  rw[txP_ok h]
  simp only
  rw[if_pos ⟨trivial,trivial,h⟩]
 simp only[e3]
theorem decTxn_may{b:List UInt8}{t:TxnD}(h:decTxn b= .ok t):mayTx t=true:=by
 unfold decTxn at h
 split at h
 ·cases h
 ·split at h
  ·rename_i x hx
   cases h
   unfold decTI at hx
   simp only at hx
   split at hx
   ·rename_i hc;cases hx;exact hc.2.2
   ·cases hx
  ·cases h
def bytesTx(t:TxnD):List UInt8:=match encTxn t with
 | .ok b=>b
 | .error _=>[]
theorem bytesTx_dec{t:TxnD}(h:mayTx t=true):decTxn (bytesTx t)= .ok t:=by
 obtain⟨b,e1,e2⟩:=decTxn_ok h
 unfold bytesTx
 rw[e1];exact e2
theorem bytesTx_ok{t:TxnD}(h:mayTx t=true):encTxn t= .ok (bytesTx t):=by
 obtain⟨b,e1,_⟩:=decTxn_ok h
 unfold bytesTx
 rw[e1]
theorem bytesTx_len{t:TxnD}(h:mayTx t=true):(bytesTx t).length≤1200:=by
 obtain⟨h1,h2,h3,h4,h5,h6,h7⟩:=mayTx_all h
 unfold bytesTx
 rw[(encTxn_ok h).1]
 simp only
 rw[List.length_append,numB_len]
 unfold fdsTx
 simp only[List.map_append,List.map_cons,List.map_nil,List.flatten_append,List.flatten_cons,List.flatten_nil,List.length_append,List.append_nil,encF_int]
 rw[encFd_flat,List.map_map,List.map_map]
 have hT:∀s:ByteArray,(encF (tF s)).length=3+s.size:=λs=>by
  show (lowB 2::(numB (s.size:Nat) 2++s.data.toList)).length=_
  rw[List.length_cons,List.length_append,numB_len]
  have:s.data.toList.length=s.size:=rfl
  omega
 have k1:=flat_le (f:=(λx=>(x.map encF).flatten)∘fdsCh) (k:=62) t.changes λc hc=>by
  have:=(mayCh_iff.1 (h6 c hc)).2.2.2.2.1
  show (((fdsCh c).map encF).flatten).length≤62
  unfold fdsCh
  simp only[List.map_cons,List.map_nil,List.flatten_cons,List.flatten_nil,List.length_append,List.length_nil,encF_int,hT]
  omega
 have k2:=flat_le (f:=encF∘tF) (k:=43) t.signals λs hs=>by
  have:=h7 s hs
  show (encF (tF s)).length≤43
  rw[hT];omega
 omega
def rowOk(r:Row):Prop:=1≤r.key∧r.key≤1099511627776∧r.val.size≤32
instance (r:Row):Decidable (rowOk r):=by unfold rowOk;infer_instance
structure TabOk(C:List Row):Prop where
 sorted:SortedR C
 rows:∀r∈C,rowOk r
 len:C.length≤1000
def riseR:Int→List Row→Bool
 | _,[]=>true
 | k,r::C=>decide (k<r.key∧r.key≤1099511627776∧r.val.size≤32) && riseR r.key C
theorem riseR_iff:∀{C:List Row} {k:Int},riseR k C=true↔(∀r∈C,k<r.key)∧SortedR C∧∀r∈C,r.key≤1099511627776∧r.val.size≤32
 | [],k=>by simp[riseR,SortedR]
 | r::C,k=>by
  unfold riseR
  rw[Bool.and_eq_true,decide_eq_true_eq,riseR_iff (C:=C) (k:=r.key)]
  unfold SortedR
  rw[List.pairwise_cons]
  constructor
  ·rintro ⟨⟨h1,h2,h3⟩,h4,h5,h6⟩
   refine⟨λx hx=>?_,⟨λx hx=>h4 x hx,h5⟩,λx hx=>?_⟩
   ·rcases List.mem_cons.1 hx with rfl|hx
    ·exact h1
    ·have:=h4 x hx;omega
   ·rcases List.mem_cons.1 hx with rfl|hx
    ·exact⟨h2,h3⟩
    ·exact h6 x hx
  ·rintro ⟨h1,⟨h2,h3⟩,h4⟩
   exact⟨⟨h1 r (.head _),h4 r (.head _)⟩,λx hx=>h2 x hx,h3,λx hx=>h4 x (.tail _ hx)⟩
def mayRw(C:List Row):Bool:=riseR 0 C && decide (C.length≤1000)
theorem mayRw_iff{C:List Row}:mayRw C=true↔TabOk C:=by
 unfold mayRw
 rw[Bool.and_eq_true,decide_eq_true_eq,riseR_iff]
 constructor
 ·rintro ⟨⟨h1,h2,h3⟩,h4⟩
  exact⟨h2,λr hr=>⟨by have:=h1 r hr;omega,(h3 r hr).1,(h3 r hr).2⟩,h4⟩
 ·rintro ⟨h1,h2,h3⟩
  exact⟨⟨λr hr=>by have:=(h2 r hr).1;omega,h1,λr hr=>⟨(h2 r hr).2.1,(h2 r hr).2.2⟩⟩,h3⟩
def mayImg(lsn:Int)(ts:List (List Row)):Bool:=decide (0≤lsn∧lsn≤1099511627776∧1≤ts.length∧ts.length≤8) && ts.all mayRw
theorem mayImg_iff{lsn:Int}{ts:List (List Row)}:mayImg lsn ts=true↔(0≤lsn∧lsn≤1099511627776∧1≤ts.length∧ts.length≤8)∧∀C∈ts,TabOk C:=by
 unfold mayImg
 rw[Bool.and_eq_true,decide_eq_true_eq,List.all_eq_true]
 exact and_congr_right λ_=>⟨λh C hC=>mayRw_iff.1 (h C hC),λh C hC=>mayRw_iff.2 (h C hC)⟩
def fdsRow(r:Row):List PFd:=[iF r.key,tF r.val]
def fdsTab(C:List Row):List PFd:=iF C.length::(C.map fdsRow).flatten
def fdsImg(lsn:Int)(ts:List (List Row)):List PFd:=[iF lsn,iF ts.length]++(ts.map fdsTab).flatten
theorem fdsTab_len(C:List Row):(fdsTab C).length=1+C.length*2:=by
 unfold fdsTab
 rw[List.length_cons,flat_const (f:=fdsRow) (k:=2) (λ_=>rfl)]
 omega
theorem fdsImg_len{lsn:Int}{ts:List (List Row)}(h:mayImg lsn ts=true):(fdsImg lsn ts).length≤16010:=by
 obtain⟨h1,h2⟩:=mayImg_iff.1 h
 have k:=flat_le (f:=fdsTab) (k:=2001) ts λC hC=>by rw[fdsTab_len];have:=(h2 C hC).len;omega
 unfold fdsImg
 rw[List.length_append]
 simp only[List.length_cons,List.length_nil]
 have:ts.length*2001≤8*2001:=Nat.mul_le_mul_right _ h1.2.2.2
 omega
theorem fdsImg_in{lsn:Int}{ts:List (List Row)}(h:mayImg lsn ts=true):∀f∈fdsImg lsn ts,inF f:=by
 obtain⟨h1,h2⟩:=mayImg_iff.1 h
 intro f hf
 unfold fdsImg at hf
 simp only[List.mem_append,List.mem_cons,List.mem_flatten,List.mem_map,List.not_mem_nil,or_false]at hf
 rcases hf with (rfl|rfl)|⟨l,⟨C,hC,rfl⟩,hf⟩
 ·exact inF_i (by omega)
 ·exact inF_i (by omega)
 ·have hT:=h2 C hC
  have hl:=hT.len
  unfold fdsTab at hf
  simp only[List.mem_cons,List.mem_flatten,List.mem_map]at hf
  rcases hf with rfl|⟨l,⟨r,hr,rfl⟩,hf⟩
  ·exact inF_i (by omega)
  ·obtain⟨k1,k2,k3⟩:=hT.rows r hr
   unfold fdsRow at hf
   simp only[List.mem_cons,List.not_mem_nil,or_false]at hf
   rcases hf with rfl|rfl
   ·exact inF_i (by omega)
   ·exact .inr ⟨rfl,rfl,by show r.val.size≤4096;omega⟩
def imgB(lsn:Int)(ts:List (List Row)):List UInt8:=numB (fdsImg lsn ts).length 2++((fdsImg lsn ts).map encF).flatten
theorem encTF(s:ByteArray):(encF (tF s)).length=3+s.size:=by
 show (lowB 2::(numB (s.size:Nat) 2++s.data.toList)).length=_
 rw[List.length_cons,List.length_append,numB_len]
 have:s.data.toList.length=s.size:=rfl
 omega
theorem imgB_len{lsn:Int}{ts:List (List Row)}(h:mayImg lsn ts=true):(imgB lsn ts).length≤360000:=by
 obtain⟨h1,h2⟩:=mayImg_iff.1 h
 unfold imgB fdsImg
 rw[List.length_append,numB_len]
 simp only[List.map_append,List.map_cons,List.map_nil,List.flatten_append,List.flatten_cons,List.flatten_nil,List.length_append,List.append_nil,encF_int]
 rw[encFd_flat,List.map_map]
 have k:=flat_le (f:=(λx=>(x.map encF).flatten)∘fdsTab) (k:=44009) ts λC hC=>by
  have hT:=h2 C hC
  have hl:=hT.len
  show (((fdsTab C).map encF).flatten).length≤44009
  unfold fdsTab
  rw[List.map_cons,List.flatten_cons,List.length_append,encF_int,encFd_flat,List.map_map]
  have k2:=flat_le (f:=(λx=>(x.map encF).flatten)∘fdsRow) (k:=44) C λr hr=>by
   have:=(hT.rows r hr).2.2
   show (((fdsRow r).map encF).flatten).length≤44
   unfold fdsRow
   simp only[List.map_cons,List.map_nil,List.flatten_cons,List.flatten_nil,List.length_append,List.length_nil,encF_int,encTF]
   omega
  have:C.length*44≤1000*44:=Nat.mul_le_mul_right _ hl
  omega
 have:ts.length*44009≤8*44009:=Nat.mul_le_mul_right _ h1.2.2.2
 omega
theorem imgB_ok{lsn:Int}{ts:List (List Row)}(h:mayImg lsn ts=true):encFs (fdsImg lsn ts)= .ok (imgB lsn ts)∧decF (imgB lsn ts)= .ok (fdsImg lsn ts):=
 decF_enc (l:=fdsImg lsn ts) (by have:=fdsImg_len h;omega) (fdsImg_in h)
def encImg(lsn:Int)(ts:List (List Row)):Except Int (List UInt8):=if mayImg lsn ts=true then .ok (recB (imgB lsn ts)) else .error 1
def mkRow(x:Int × ByteArray):Row:=⟨x.1,x.2⟩
def rowP:PRd→Row × PRd:=mapP mkRow (seqP intP λ_=>textP)
def rowR:PRd→Row × PRd:=mapP mkRow (seqP (intR 1099511627776) λ_=>textP)
def tabP:PRd→List Row × PRd:=mapP Prod.snd (cntP (smallP 1000) (manyP rowP))
def tabR:PRd→List Row × PRd:=mapP Prod.snd (cntP (intR 1000) (manyP rowR))
def mkImg(x:Int × (Int × List (List Row))):Int × List (List Row):=(x.1,x.2.2)
def imgP:PRd→(Int × List (List Row)) × PRd:=mapP mkImg (seqP intP λ_=>cntP (smallP 8) (manyA tabP))
def imgR:PRd→(Int × List (List Row)) × PRd:=mapP mkImg (seqP (intR 1099511627776) λ_=>cntP (intR 8) (manyP tabR))
theorem rowP_mono:Mono rowP:=(intP_mono.seq λ_=>textP_mono).map _
theorem rowR_mono:Mono rowR:=((intR_mono _).seq λ_=>textP_mono).map _
def VRow(r:Row):Prop:=¬(0≤r.key∧r.key≤1099511627776)
theorem row_agr:Agr rowP rowR VRow:=by
 unfold rowP rowR
 have a1:=(intR_agr 1099511627776).seq (f:=λ_=>textP) (g:=λ_=>textP) (λ_=>textP_agr) (λ_=>textP_mono) (λ_=>textP_mono)
 refine a1.map mkRow λx h=>?_
 rcases h with h|h
 ·exact h
 ·exact h.elim
theorem tabP_mono:Mono tabP:=((smallP_mono _).seq λn=>rowP_mono.many _).map _
theorem tabR_mono:Mono tabR:=((intR_mono _).seq λn=>rowR_mono.many _).map _
theorem tab_agr:Agr tabP tabR λC=>∃r∈C,VRow r:=by
 unfold tabP tabR cntP
 have a1:=(smallS_agr 1000).seq (f:=λn=>manyP rowP n.toNat) (g:=λn=>manyP rowR n.toNat) (λn=>row_agr.many rowP_mono rowR_mono n.toNat) (λn=>rowR_mono.many _) (λn=>rowP_mono.many _)
 refine a1.map Prod.snd λx h=>?_
 rcases h with h|h
 ·exact h.elim
 ·exact h
def VImg(x:Int × List (List Row)):Prop:=¬(0≤x.1∧x.1≤1099511627776)∨∃C∈x.2,∃r∈C,VRow r
theorem img_agr:Agr imgP imgR VImg:=by
 unfold imgP imgR
 have c1:Agr (cntP (smallP 8) (manyA tabP)) (cntP (intR 8) (manyP tabR)) λx=>False∨∃C∈x.2,∃r∈C,VRow r:=(smallS_agr 8).seq (λn=>tab_agr.manyA tabP_mono tabR_mono n.toNat) (λn=>tabR_mono.many _) (λn=>tabP_mono.manyA _)
 have mc:Mono (cntP (smallP 8) (manyA tabP)):=(smallP_mono _).seq λn=>tabP_mono.manyA _
 have mc':Mono (cntP (intR 8) (manyP tabR)):=(intR_mono _).seq λn=>tabR_mono.many _
 have a1:=(intR_agr 1099511627776).seq (f:=λ_=>cntP (smallP 8) (manyA tabP)) (g:=λ_=>cntP (intR 8) (manyP tabR)) (λ_=>c1) (λ_=>mc') (λ_=>mc)
 refine a1.map mkImg λx h=>?_
 rcases h with h|h|h
 ·exact .inl h
 ·exact h.elim
 ·exact .inr h
theorem mayImg_V{x:Int × List (List Row)}(h:mayImg x.1 x.2=true):¬VImg x:=by
 obtain⟨h1,h2⟩:=mayImg_iff.1 h
 rintro (hv|⟨C,hC,r,hr,hv⟩)
 ·omega
 ·have:=(h2 C hC).rows r hr
  unfold VRow rowOk at *
  omega
def imgI(l:List PFd):Option (Int × List (List Row)):=
 let x:=imgP ⟨l,false⟩
 if x.2.bad=false∧x.2.l=[]∧mayImg x.1.1 x.1.2=true then some x.1 else none
def imgIR(l:List PFd):Option (Int × List (List Row)):=
 let x:=imgR ⟨l,false⟩
 if x.2.bad=false∧x.2.l=[]∧mayImg x.1.1 x.1.2=true then some x.1 else none
theorem imgIR_eq(l:List PFd):imgIR l=imgI l:=by
 unfold imgIR imgI
 simp only
 cases hb:(imgR ⟨l,false⟩).2.bad with
 | false=>rw[img_agr.same _ hb,hb]
 | true=>
  rw[if_neg (by simp),if_neg]
  rintro ⟨h1,_,h3⟩
  rcases img_agr.bad _ hb with h|h
  ·rw[h]at h1;cases h1
  ·exact mayImg_V h3 h
def decImg(b:List UInt8):Option (Int × List (List Row)):=match takeR b with
 | .error _=>none
 | .ok (p,n)=>if n=b.length then (match decF p with
  | .error _=>none
  | .ok l=>imgI l) else none
theorem decImg_may{b:List UInt8}{x:Int × List (List Row)}(h:decImg b=some x):mayImg x.1 x.2=true:=by
 unfold decImg at h
 split at h
 ·cases h
 ·split at h
  ·split at h
   ·cases h
   ·unfold imgI at h
    simp only at h
    split at h
    ·rename_i hc;cases h;exact hc.2.2
    ·cases h
  ·cases h
theorem rowP_ok{r:Row}{l:List PFd}:rowP ⟨fdsRow r++l,false⟩=(r,⟨l,false⟩):=rfl
theorem tabP_ok{C:List Row}{l:List PFd}(h:C.length≤1000):tabP ⟨fdsTab C++l,false⟩=(C,⟨l,false⟩):=by
 unfold tabP cntP mapP seqP fdsTab
 rw[List.cons_append,smallP_ok (by omega)]
 simp only[Int.toNat_natCast]
 rw[manyP_ok C l λr _ l=>rowP_ok]
theorem imgP_ok{lsn:Int}{ts:List (List Row)}(h:mayImg lsn ts=true):imgP ⟨fdsImg lsn ts,false⟩=((lsn,ts),⟨[],false⟩):=by
 obtain⟨h1,h2⟩:=mayImg_iff.1 h
 have e0:fdsImg lsn ts=iF lsn::(iF ts.length::((ts.map fdsTab).flatten++[])):=by unfold fdsImg;simp
 rw[e0]
 have e1:∀l,intP ⟨iF lsn::l,false⟩=(lsn,⟨l,false⟩):=λl=>rfl
 have e2:∀l,smallP 8 ⟨iF ts.length::l,false⟩=((ts.length:Int),⟨l,false⟩):=λl=>smallP_ok (by omega)
 have e3:∀l,manyA tabP ts.length ⟨(ts.map fdsTab).flatten++l,false⟩=(ts,⟨l,false⟩):=λl=>manyA_ok ts l λC hC l=>tabP_ok (h2 C hC).len
 unfold imgP cntP mapP seqP mkImg
 simp only[e1,e2,e3,Int.toNat_natCast]
theorem decImg_eq{b p:List UInt8}{n:Nat}(ht:takeR b= .ok (p,n))(hn:n=b.length){l:List PFd}(hd:decF p= .ok l):decImg b=imgI l:=by
 unfold decImg
 rw[ht]
 simp only
 rw[if_pos hn,hd]
theorem imgI_ok{l:List PFd}{x:Int × List (List Row)}(h:imgP ⟨l,false⟩=(x,⟨[],false⟩))(hm:mayImg x.1 x.2=true):imgI l=some x:=by
 unfold imgI
 rw[h]
 simp only
 rw[if_pos ⟨trivial,trivial,hm⟩]
theorem decImg_ok{lsn:Int}{ts:List (List Row)}(h:mayImg lsn ts=true):decImg (recB (imgB lsn ts))=some (lsn,ts):=by
 have hl:=imgB_len h
 have h1:=(imgB_ok h).2
 have h2:=imgP_ok h
 generalize imgB lsn ts=p at *
 have ht:=takeR_rec (p:=p) (r:=[]) (by omega)
 rw[List.append_nil]at ht
 exact (decImg_eq ht (recB_len p).symm h1).trans (imgI_ok h2 h)
structure PSeg where
 file:Int
 first:Int
 size:Nat
 l:List (List UInt8)
structure PTorn where
 file:Int
 had:Int
 fresh:Bool
structure PLog where
 segs:List PSeg
 base:Int
 size:Int
 torn:Option PTorn
def PSeg.next(s:PSeg):Int:=s.first+s.l.length
def headG(L:List PSeg):Int:=match L.getLast? with
 | none=>0
 | some s=>s.next-1
def lowG(L:List PSeg):Int:=match L with
 | []=>1
 | s::_=>s.first
def readG:List PSeg→Int→Option (List UInt8)
 | [],_=>none
 | s::r,n=>if s.first≤n∧n<s.next then s.l[(n-s.first).toNat]? else readG r n
structure PWr where
 file:Int
 fresh:Bool
 b:List UInt8
def freshG(g:PLog)(f:Int)(p:List UInt8):Except Int PWr:=
 if g.base+4096≤f then .error 7 else .ok ⟨f,true,recB (hdB (headG g.segs+1).toNat)++recB p⟩
def planG(g:PLog)(off:Bool)(p:List UInt8):Except Int PWr:=
 if 1048576<p.length then .error 1
 else if off=true then .error 8
 else if 1099511627776≤headG g.segs then .error 7
 else match g.segs.getLast? with
  | none=>freshG g g.base p
  | some s=>if s.l.length=0∨(s.size:Int)+(recB p).length≤g.size then .ok ⟨s.file,false,recB p⟩ else freshG g (s.file+1) p
def mendG(g:PLog)(d:DS):(PLog × DS) × Int:=match g.torn with
 | none=>((g,d),0)
 | some x=>(({g with torn:=if (if x.fresh=true then d.remove x.file else d.cut x.file x.had).2=0 then none else some x},(if x.fresh=true then d.remove x.file else d.cut x.file x.had).1),(if x.fresh=true then d.remove x.file else d.cut x.file x.had).2)
def putG(L:List PSeg)(x:PWr)(p:List UInt8):List PSeg:=
 let L:=if x.fresh=true then L++[⟨x.file,headG L+1,0,[]⟩] else L
 L.dropLast++L.getLast?.toList.map λs=>{s with size:=s.size+x.b.length,l:=s.l++[p]}
def appendG(g:PLog)(d:DS)(p:List UInt8):(PLog × DS) × (Int × Int):=match planG g d.off p with
 | .error e=>((g,d),(0,e))
 | .ok x=>
  let m:=mendG g d
  if m.2≠0 then (m.1,(0,m.2)) else
  let a:=m.1.2.append x.file x.b
  if a.2≠0 then ((m.1.1,a.1),(0,a.2)) else
  let s:=a.1.sync x.file
  if s.2≠0 then ((m.1.1,s.1),(0,s.2)) else
  (({m.1.1 with segs:=putG m.1.1.segs x p},s.1),(headG (putG m.1.1.segs x p),0))
def lastSize(L:List PSeg):Int:=match L.getLast? with
 | none=>0
 | some s=>s.size
def idsG(base:Int)(R:List PF):List Int:=(R.map PF.id).filter λf=>decide (base≤f∧f<base+4096)
def loadG(L:List PSeg)(R:List PF)(f:Int)(last:Bool):(Bool × Bool) × List PSeg:=
 let b:=((getK PF.id R f).map PF.b).getD []
 match readS b with
 | none=>((false,last),L)
 | some (first,l,n)=>
  if (last=false∧(n≠b.length∨l.length=0))∨(0<L.length∧first≠headG L+1)∨1099511627776<first+l.length-1 then ((true,false),L)
  else ((true,true),L++[⟨f,first,n,l⟩])
def loadsG(R:List PF):List Int→Option Int→List PSeg→Bool→Option (List PSeg × Bool)
 | [],_,L,whole=>some (L,whole)
 | f::r,prev,L,whole=>
  let x:=loadG L R f r.isEmpty
  if x.1.2=false then none else if (match prev with|none=>false|some g=>decide (f≠g+1))=true then none else loadsG R r (some f) x.2 x.1.1
def beginG(L:List PSeg)(d:DS)(ids:List Int)(whole:Bool):DS × Int:=match ids.getLast? with
 | none=>(d,0)
 | some f=>if whole=false then d.remove f else if lastSize L<lenF d.R f then d.cut f (lastSize L) else (d,0)
def openG(d:DS)(base size:Int):DS × Except Int PLog:=
 if base<0∨12288<base∨size<64∨65536<size then (d,.error 1)
 else if d.off=true then (d,.error 8)
 else match loadsG d.R (idsG base d.R) none [] true with
  | none=>(d,.error 3)
  | some (L,whole)=>if (beginG L d (idsG base d.R) whole).2≠0 then ((beginG L d (idsG base d.R) whole).1,.error (beginG L d (idsG base d.R) whole).2) else ((beginG L d (idsG base d.R) whole).1,.ok ⟨L,base,size,none⟩)
structure SegOk(s:PSeg)(N:Nat):Prop where
 f0:0≤s.file
 f1:s.file≤100000
 n0:1≤s.first
 n1:s.first≤1099511627776
 sz:s.size≤N
 ln:s.l.length≤N
 bl:∀b∈s.l,b.length≤1048576
structure PLog.Ok(g:PLog)(N:Nat):Prop where
 segs:∀s∈g.segs,SegOk s N
 b0:0≤g.base
 b1:g.base≤12288
 s0:64≤g.size
 s1:g.size≤65536
 ln:g.segs.length≤N
theorem headG_ge{L:List PSeg}{N:Nat}(h:∀s∈L,SegOk s N):0≤headG L∧headG L≤1099511627776+N:=by
 unfold headG
 split
 ·omega
 ·rename_i s hs
  have:=h s (List.mem_of_getLast? hs)
  have h1:=this.n0;have h2:=this.n1;have h3:=this.ln
  simp only[PSeg.next]
  omega
section
variable {A:List PF} {x:PF}
theorem cnt_end(hs:SortedK PF.id (A++[x])):cntK PF.id (A++[x]) x.id=A.length:=cntK_at hs (j:=A.length) (by simp) (by simp)
theorem is_end(hs:SortedK PF.id (A++[x])):isK PF.id (A++[x]) x.id=true:=(isK_iff hs).2 ⟨x,by simp,rfl⟩
theorem get_end(hs:SortedK PF.id (A++[x])):getK PF.id (A++[x]) x.id=some x:=getK_of hs (by simp)
theorem put_end(hs:SortedK PF.id (A++[x])){y:PF}(hy:y.id=x.id):putK PF.id (A++[x]) y=A++[y]:=by
 have h1:isK PF.id (A++[x]) y.id=true:=by rw[hy];exact is_end hs
 rw[putK_is h1,hy,cnt_end hs];simp
theorem upd_end(hs:SortedK PF.id (A++[x]))(g:PF→PF):updF (A++[x]) x.id g=A++[{g x with id:=x.id}]:=by
 unfold updF
 rw[get_end hs]
 exact put_end hs rfl
theorem app_end(hs:SortedK PF.id (A++[x]))(b:List UInt8):appF (A++[x]) x.id b=A++[⟨x.id,x.safe,x.b++b⟩]:=by
 unfold appF
 rw[get_end hs]
 exact put_end hs rfl
theorem app_new(hs:SortedK PF.id A){f:Int}(h:∀y∈A,y.id<f)(b:List UInt8):appF A f b=A++[⟨f,0,b⟩]:=by
 have h1:getK PF.id A f=none:=(getK_none hs).2 λy hy=>by have:=h y hy;omega
 have h2:isK PF.id A f=false:=by
  cases e:isK PF.id A f with
  | false=>rfl
  | true=>obtain⟨y,hy,e⟩:=(isK_iff hs).1 e;have:=h y hy;omega
 have h3:cntK PF.id A f=A.length:=by
  unfold cntK
  rw[List.filter_eq_self.2 λy hy=>by simpa using h y hy]
 unfold appF
 rw[h1]
 unfold putK
 simp only[h2,h3]
 simp[newF]
end
def Con(f:Int)(R:List PF):Prop:=∀i (h:i<R.length),R[i].id=f+i
theorem Con.sorted{f:Int}{R:List PF}(h:Con f R):SortedK PF.id R:=by
 unfold SortedK
 rw[List.pairwise_iff_getElem]
 intro i j hi hj hij
 rw[h i hi,h j hj];omega
theorem Con.mem{f:Int}{R:List PF}(h:Con f R){x:PF}(hx:x∈R):f≤x.id∧x.id<f+R.length:=by
 obtain⟨i,hi,rfl⟩:=List.mem_iff_getElem.1 hx
 rw[h i hi];omega
theorem Con.snoc{f:Int}{R:List PF}(h:Con f R){x:PF}(hx:x.id=f+R.length):Con f (R++[x]):=by
 intro i hi
 by_cases hl:i<R.length
 ·rw[List.getElem_append_left hl];exact h i hl
 ·have:i=R.length:=by simp at hi;omega
  subst this
  simp[hx]
def segB(s:PSeg):List UInt8:=recsB (hdB s.first.toNat::s.l)
def segF(s:PSeg):PF:=⟨s.file,(segB s).length,segB s⟩
def Chain:Int→Int→List PSeg→Prop
 | _,_,[]=>True
 | f,n,s::r=>s.file=f∧s.first=n∧s.size=(segB s).length∧(∀p∈s.l,p.length≤1048576)∧(r≠[]→s.l≠[])∧Chain (f+1) (n+s.l.length) r
def entsG(L:List PSeg):List (List UInt8):=(L.map PSeg.l).flatten
theorem entsG_cons(s:PSeg)(L:List PSeg):entsG (s::L)=s.l++entsG L:=by simp[entsG]
theorem entsG_app(A B:List PSeg):entsG (A++B)=entsG A++entsG B:=by simp[entsG]
theorem Chain.app:∀{f n:Int} {A B:List PSeg},Chain f n (A++B)↔Chain f n A∧(B≠[]→∀s∈A,s.l≠[])∧Chain (f+A.length) (n+(entsG A).length) B
 | f,n,[],B=>by simp[Chain,entsG]
 | f,n,s::A,B=>by
  have ih:=Chain.app (f:=f+1) (n:=n+s.l.length) (A:=A) (B:=B)
  have e1:f+1+(A.length:Int)=f+((s::A).length:Int):=by simp;omega
  have e2:n+(s.l.length:Int)+((entsG A).length:Int)=n+((entsG (s::A)).length:Int):=by rw[entsG_cons,List.length_append];omega
  rw[e1,e2]at ih
  rw[List.cons_append]
  simp only[Chain,ih]
  constructor
  ·rintro ⟨h1,h2,h3,h4,h5,h6,h7,h8⟩
   refine⟨⟨h1,h2,h3,h4,λhA=>h5 (by simp[hA]),h6⟩,λhB t ht=>?_,h8⟩
   rcases List.mem_cons.1 ht with rfl|ht
   ·exact h5 (by simp[hB])
   ·exact h7 hB t ht
  ·rintro ⟨⟨h1,h2,h3,h4,h5,h6⟩,h7,h8⟩
   refine⟨h1,h2,h3,h4,λh=>?_,h6,λhB t ht=>h7 hB t (.tail _ ht),h8⟩
   by_cases hA:A=[]
   ·subst hA;exact h7 (by simpa using h) s (.head _)
   ·exact h5 hA
theorem Chain.con:∀{f n:Int} {L:List PSeg},Chain f n L→Con f (L.map segF)
 | f,n,[],_=>λi h=>by simp at h
 | f,n,s::L,h=>by
  obtain⟨h1,_,_,_,_,h6⟩:=h
  have ih:=h6.con
  intro i hi
  cases i with
  | zero=>simpa [segF] using h1
  | succ i=>
   have:=ih i (by simpa using hi)
   simp only[List.map_cons,List.getElem_cons_succ]
   rw[this];push_cast;omega
theorem Chain.head{f n:Int}{L:List PSeg}(h:Chain f n L)(hL:L≠[]):headG L=n+(entsG L).length-1:=by
 obtain⟨A,s,rfl⟩:∃A s,L=A++[s]:=⟨L.dropLast,L.getLast hL,(List.dropLast_concat_getLast hL).symm⟩
 obtain⟨_,_,h3⟩:=Chain.app.1 h
 obtain⟨_,h4,_⟩:=h3
 unfold headG
 rw[List.getLast?_concat,entsG_app]
 simp only[PSeg.next,h4,List.length_append]
 simp[entsG];omega
theorem Chain.low{f n:Int}{L:List PSeg}(h:Chain f n L)(hL:L≠[]):lowG L=n:=by
 cases L with
 | nil=>exact absurd rfl hL
 | cons s L=>exact h.2.1
theorem Chain.read:∀{f n:Int} {L:List PSeg},Chain f n L→∀i,readG L i=if n≤i then (entsG L)[(i-n).toNat]? else none
 | f,n,[],_,i=>by simp[readG,entsG]
 | f,n,s::L,h,i=>by
  obtain⟨_,h2,_,_,_,h6⟩:=h
  have ih:=h6.read i
  subst h2
  rw[readG,ih,entsG_cons]
  have hnx:s.next=s.first+s.l.length:=rfl
  by_cases h1:s.first≤i
  ·rw[if_pos (c:=s.first≤i) h1]
   by_cases h3:i<s.next
   ·rw[if_pos (c:=s.first≤i∧i<s.next) ⟨h1,h3⟩,List.getElem?_append_left (by omega)]
   ·rw[if_neg (c:=s.first≤i∧i<s.next) (by omega),if_pos (by omega),List.getElem?_append_right (by omega)]
    congr 1;omega
  ·rw[if_neg (c:=s.first≤i∧i<s.next) (by omega),if_neg (by omega),if_neg h1]
theorem Chain.bl:∀{f n:Int} {L:List PSeg},Chain f n L→∀s∈L,s.size=(segB s).length∧∀p∈s.l,p.length≤1048576
 | f,n,[],_,s,hs=>by cases hs
 | f,n,t::L,h,s,hs=>by
  obtain⟨_,_,h3,h4,_,h6⟩:=h
  rcases List.mem_cons.1 hs with rfl|hs
  ·exact⟨h3,h4⟩
  ·exact h6.bl s hs
theorem hdB_le(n:Nat):(hdB n).length≤1048576:=by rw[hdB_len];omega
theorem readS_seg{n:Nat}{l:List (List UInt8)}(h1:1≤n)(h2:n≤1099511627776)(hl:∀p∈l,p.length≤1048576):readS (recsB (hdB n::l))=some ((n:Int),l,(recsB (hdB n::l)).length):=by
 have:=scanA_recs (hdB n::l) [] (λp hp=>by rcases List.mem_cons.1 hp with rfl|hp;exact hdB_le n;exact hl p hp) ⟨2,takeR_nil⟩
 rw[List.append_nil]at this
 unfold readS
 rw[this]
 simp only[hdOf_hd h1 h2,Option.map_some]
abbrev Tabs:=List (List Row)
def tabAt(ts:Tabs)(t:Int):List Row:=if t<0 then [] else (ts[t.toNat]?).getD []
def appTs(ts:Tabs)(c:Chg):Tabs:=ts.set c.table.toNat (rowApp (tabAt ts c.table) c)
def appsTs(ts:Tabs)(l:List Chg):Tabs:=l.foldl appTs ts
def chgIn(n:Nat)(c:Chg):Bool:=decide (0≤c.table∧c.table<(n:Int))
def fitsTs(ts:Tabs)(l:List Chg):Bool:=l.all (chgIn ts.length) && (appsTs ts l).all λC=>decide (C.length≤1000)
theorem appTs_len(ts:Tabs)(c:Chg):(appTs ts c).length=ts.length:=List.length_set
theorem appsTs_len(ts:Tabs):∀l:List Chg,(appsTs ts l).length=ts.length:=λl=>by
 unfold appsTs
 induction l generalizing ts with
 | nil=>rfl
 | cons c l ih=>rw[List.foldl_cons,ih,appTs_len]
theorem appsTs_app(ts:Tabs)(l m:List Chg):appsTs ts (l++m)=appsTs (appsTs ts l) m:=List.foldl_append
theorem appsTs_snoc(ts:Tabs)(l:List Chg)(c:Chg):appsTs ts (l++[c])=appTs (appsTs ts l) c:=by rw[appsTs_app];rfl
theorem tabAt_nat(ts:Tabs)(t:Nat)(h:t<ts.length):tabAt ts t=ts[t]:=by
 unfold tabAt
 rw[if_neg (by omega),Int.toNat_natCast,List.getElem?_eq_getElem h];rfl
theorem tabAt_mem{ts:Tabs}{t:Int}(h:0≤t∧t<ts.length):tabAt ts t∈ts:=by
 obtain⟨n,rfl⟩:∃n:Nat,t=n:=⟨t.toNat,by omega⟩
 rw[tabAt_nat ts n (by omega)];exact List.getElem_mem _
structure RowsOk(C:List Row):Prop where
 sorted:SortedR C
 rows:∀r∈C,rowOk r
theorem RowsOk.app{C:List Row}(h:RowsOk C){c:Chg}{k:Int}(hc:mayCh c k=true):RowsOk (rowApp C c):=by
 have hm:=mayCh_iff.1 hc
 unfold rowApp
 split
 ·exact⟨sorted_delR h.sorted _,λr hr=>h.rows r (mem_delR hr)⟩
 ·refine⟨sorted_insR h.sorted _,λr hr=>?_⟩
  rcases mem_insR hr with rfl|hr
  ·exact⟨by show 1≤c.key;omega,by show c.key≤_;omega,by show c.val.size≤_;omega⟩
  ·exact h.rows r hr
theorem rowsOk_nil:RowsOk []:=⟨List.Pairwise.nil,by simp⟩
theorem rowApp_len(C:List Row)(c:Chg):(rowApp C c).length≤C.length+1:=by
 unfold rowApp
 split
 ·have:=length_delR C c.key;omega
 ·exact length_insR C _
theorem mem_appTs{ts:Tabs}{c:Chg}{C:List Row}(h:C∈appTs ts c):C∈ts∨C=rowApp (tabAt ts c.table) c:=by
 unfold appTs at h
 exact List.mem_or_eq_of_mem_set h
theorem appTs_ok{ts:Tabs}(h:∀C∈ts,RowsOk C){c:Chg}{k:Int}(hc:mayCh c k=true)(ht:chgIn ts.length c=true):∀C∈appTs ts c,RowsOk C:=λC hC=>by
 rcases mem_appTs hC with hC|rfl
 ·exact h C hC
 ·exact (h _ (tabAt_mem (of_decide_eq_true ht))).app hc
theorem appsTs_ok{k:Int}:∀{l:List Chg} {ts:Tabs},(∀C∈ts,RowsOk C)→(∀c∈l,mayCh c k=true)→(∀c∈l,chgIn ts.length c=true)→∀C∈appsTs ts l,RowsOk C
 | [],ts,h,_,_=>h
 | c::l,ts,h,h1,h2=>by
  show ∀C∈appsTs (appTs ts c) l,RowsOk C
  refine appsTs_ok (appTs_ok h (h1 c (.head _)) (h2 c (.head _))) (λx hx=>h1 x (.tail _ hx)) λx hx=>?_
  rw[appTs_len];exact h2 x (.tail _ hx)
theorem appsTs_lenR(N:Nat):∀{l:List Chg} {ts:Tabs},(∀C∈ts,C.length≤N)→(∀c∈l,chgIn ts.length c=true)→∀C∈appsTs ts l,C.length≤N+l.length
 | [],ts,h,_=>h
 | c::l,ts,h,h2=>by
  intro C hC
  have hA:∀C∈appTs ts c,C.length≤N+1:=λC hC=>by
   rcases mem_appTs hC with hC|rfl
   ·have:=h C hC;omega
   ·have h1:=rowApp_len (tabAt ts c.table) c
    have h3:=h _ (tabAt_mem (of_decide_eq_true (h2 c (.head _))))
    omega
  have:=appsTs_lenR (N+1) (l:=l) hA (λx hx=>by rw[appTs_len];exact h2 x (.tail _ hx)) C hC
  rw[List.length_cons];omega
structure PSrc where
 g:PLog
 d:DS
 ts:Tabs
 newest:Int
 image:Int
def imgAt(R:List PF)(n:Nat)(f:Int):Option (Int × Tabs):=match getK PF.id R f with
 | none=>none
 | some x=>match decImg x.b with
  | none=>none
  | some y=>if y.2.length=n then some y else none
abbrev Img:=Int × Int × Tabs
def load1(R:List PF)(n:Nat)(f:Int)(x:Img):Img:=match imgAt R n f with
 | none=>x
 | some y=>if 0≤x.1∧y.1≤x.2.1 then x else (f,y.1,y.2)
def loadI(R:List PF)(n:Nat):Img:=load1 R n 1 (load1 R n 0 (-1,0,List.replicate n []))
def redoS(n:Nat)(image:Int):List (List UInt8)→Int→Tabs→Option Tabs
 | [],_,ts=>some ts
 | b::r,lsn,ts=>match decTxn b with
  | .error _=>none
  | .ok t=>if t.lsn=lsn∧(∀c∈t.changes,c.table<(n:Int)) then redoS n image r (lsn+1) (if image<lsn then appsTs ts t.changes else ts) else none
def openS(d:DS)(tabs size:Int):DS × Except Int PSrc:=
 if tabs<1∨8<tabs then (d,.error 1)
 else match openG d 16 size with
  | (d',.error e)=>(d',.error e)
  | (d',.ok g)=>
   let x:=loadI d'.R tabs.toNat
   match redoS tabs.toNat x.2.1 (entsG g.segs) (lowG g.segs) x.2.2 with
   | none=>(d',.error 3)
   | some ts=>if x.2.1≤headG g.segs∧lowG g.segs≤x.2.1+1 then (d',.ok ⟨g,d',ts,x.1,x.2.1⟩) else (d',.error 3)
abbrev bytesT:=bytesTx
def PSrc.addS(k:PSrc)(t:TxnD):PSrc × (Int × Int):=
 if k.d.off=true then (k,(0,8))
 else if fitsTs k.ts t.changes=false∨1099511627776≤headG k.g.segs then (k,(0,7))
 else
  let r:=appendG k.g k.d (bytesT {t with lsn:=headG k.g.segs+1})
  if r.2.2=0 then ({k with g:=r.1.1,d:=r.1.2,ts:=appsTs k.ts t.changes},(headG k.g.segs+1,0)) else ({k with g:=r.1.1,d:=r.1.2},(0,r.2.2))
def PSrc.commitS(k:PSrc)(sg:List ByteArray)(l:List Chg):PSrc × (Int × Int):=
 if mayTx ⟨1,1,l,sg,0⟩=true∧(∀c∈l,c.table<(k.ts.length:Int)) then k.addS ⟨1,1,l,sg,0⟩ else (k,(0,1))
def PSrc.markS(k:PSrc)(kind mark:Int):PSrc × (Int × Int):=
 if (kind=2∨kind=3)∧mayTx ⟨1,kind,[],[],mark⟩=true then k.addS ⟨1,kind,[],[],mark⟩ else (k,(0,1))
def PSrc.readS(k:PSrc)(lsn:Int):Except Int TxnD:=match readG k.g.segs lsn with
 | none=>.error 5
 | some b=>decTxn b
def afterR(C:List Row)(key:Int)(n:Int):List Row:=(C.filter λr=>decide (key<r.key)).take n.toNat
def PSrc.chunkS(k:PSrc)(t key n:Int):List Row:=afterR (tabAt k.ts t) key n
structure PWin where
 n:Int
 state:Int
 mark:Int
 after:Int
 id:Int
 table:Int
 rows:List Row
 cursor:Int
 last:Bool
abbrev win0(n:Int):PWin:=⟨n,0,0,0,0,0,[],0,false⟩
def PWin.openBad(w:PWin)(mark id table after:Int):Prop:=w.state≠0∨mark<1∨1099511627776<mark∨id<1∨64<id∨table<0∨8≤table∨after<0∨1099511627776<after
instance (w:PWin) (mark id table after:Int):Decidable (w.openBad mark id table after):=by unfold PWin.openBad;infer_instance
def PWin.openW(w:PWin)(mark id table after:Int):PWin:=if w.openBad mark id table after then w else ⟨w.n,1,mark,after,id,table,[],0,false⟩
def riseK:Int→List Row→Bool
 | _,[]=>true
 | k,r::C=>decide (k<r.key∧r.key≤1099511627776) && riseK r.key C
def planC(after:Int)(C:List Row):Int:=(C.getLast?.map (·.key)).getD after
def PWin.fillBad(w:PWin)(C:List Row):Prop:=w.state≠1∨w.n<C.length∨riseK w.after C=false
instance (w:PWin) (C:List Row):Decidable (w.fillBad C):=by unfold PWin.fillBad;infer_instance
def PWin.fill(w:PWin)(C:List Row):PWin:=if w.fillBad C then w else {w with state:=2,rows:=C,cursor:=planC w.after C,last:=decide ((C.length:Int)<w.n)}
def PWin.shut(w:PWin):PWin:=if w.state=2 then {w with state:=3} else w
def PWin.waits(w:PWin)(kind mark:Int):Bool:=decide (kind=2∧mark=w.mark∧(w.state=1∨w.state=2))
def PWin.low(w:PWin)(mark:Int):PWin:=if w.state=3∧mark=w.mark then {w with state:=4} else w
def hitC(t:Int)(l:List Chg)(r:Row):Bool:=l.any λc=>decide (c.table=t∧c.key=r.key)
def PWin.see(w:PWin)(l:List Chg):PWin:=if w.state=4 then {w with rows:=w.rows.filter λr=>!hitC w.table l r} else w
def PWin.highBad(w:PWin)(mark lsn:Int):Prop:=w.state≠4∨mark≠w.mark∨lsn<1∨1099511627776<lsn
instance (w:PWin) (mark lsn:Int):Decidable (w.highBad mark lsn):=by unfold PWin.highBad;infer_instance
def opsW(w:PWin)(lsn:Int):List AOp:=w.rows.map λr=>⟨lsn,w.table,r.key,false,r.val⟩
def noteW(w:PWin):PNote:=⟨2,w.id,0,0,0,w.cursor,w.last⟩
def PWin.high(w:PWin)(mark lsn:Int):PWin × Option PItem:=if w.highBad mark lsn then (w,none) else (win0 w.n,some ⟨lsn,opsW w lsn,[noteW w]⟩)
structure PDrr where
 l:List (Int × Int)
 at_:Int
 left:Int
abbrev drr0:PDrr:=⟨[],-1,0⟩
def idxD(d:PDrr)(id:Int):Option Nat:=d.l.findIdx? λm=>decide (m.1=id)
def PDrr.add(d:PDrr)(id weight:Int):PDrr:=
 if id<1∨64<id∨weight<1∨8<weight then d else match idxD d id with
 | some _=>d
 | none=>{d with l:=d.l++[(id,weight)]}
def PDrr.del(d:PDrr)(id:Int):PDrr:=match idxD d id with
 | none=>d
 | some i=>⟨d.l.eraseIdx i,if (i:Int)≤d.at_ then d.at_-1 else d.at_,if (i:Int)=d.at_ then 0 else d.left⟩
def PDrr.place(d:PDrr):Int:=if d.left=0 then (if (d.l.length:Int)≤d.at_+1 then 0 else d.at_+1) else d.at_
def PDrr.memb(d:PDrr):Int × Int:=(d.l[d.place.toNat]?).getD (0,0)
def PDrr.next(d:PDrr):PDrr × Int:=if d.l=[] then (d,0) else (⟨d.l,d.place,(if d.left=0 then d.memb.2 else d.left)-1⟩,d.memb.1)
structure PDrr.Ok(d:PDrr):Prop where
 at0 : -1≤d.at_
 at1:d.at_<d.l.length
 left0:0≤d.left
 left1:d.left≤8
 neg:d.at_ = -1→d.left=0
 w:∀m∈d.l,1≤m.1∧m.1≤64∧1≤m.2∧m.2≤8
 nd:(d.l.map Prod.fst).Nodup
def word9:List UInt8:=[115,110,97,112,115,104,111,116,32]
def parse3:List UInt8→Option (Int × Int)
 | [d]=>if 48≤d.toNat∧d.toNat≤55 then some ((d.toNat:Int)-48,1) else none
 | [d,s,e]=>if (48≤d.toNat∧d.toNat≤55)∧s.toNat=32∧49≤e.toNat∧e.toNat≤56 then some ((d.toNat:Int)-48,(e.toNat:Int)-48) else none
 | _=>none
def parseS(s:ByteArray):Option (Int × Int):=if s.data.toList.take 9=word9 then parse3 (s.data.toList.drop 9) else none
structure PMux where
 tables:Int
 late:Int
 at_:Int
 reqs:List Rq
 win:PWin
def muxBad(tables late chunk lsn:Int)(L:List Rq):Prop:=tables<1∨8<tables∨late<0∨2 ^ tables.toNat≤late∨lsn<0∨1099511627776<lsn∨chunk<1∨64<chunk∨¬MayP L∨∃r∈L,tables≤r.table∨lsn<r.at_
def PMux.captured(m:PMux)(t:Int):Bool:=decide (0≤t∧t<m.tables) && (decide (bitV m.late t=0) || m.reqs.any λr=>decide (r.table=t))
def PMux.accept(m:PMux)(s:ByteArray)(lsn:Int):List Rq × List PNote:=match parseS s with
 | none=>(m.reqs,[])
 | some g=>if m.tables≤g.1 then (m.reqs,[]) else match acceptR m.reqs g.1 g.2 lsn with
  | none=>(m.reqs,[])
  | some L=>(L,[⟨1,L.length,g.1,g.2,lsn,0,false⟩])
def PMux.accepts(m:PMux)(lsn:Int):List ByteArray→PMux × List PNote
 | []=>(m,[])
 | s::l=>let r:=m.accept s lsn;let x:=PMux.accepts {m with reqs:=r.1} lsn l;(x.1,r.2++x.2)
def opsC(m:PMux)(lsn:Int)(l:List Chg):List AOp:=(l.filter λc=>m.captured c.table).map λc=>⟨lsn,c.table,c.key,c.gone,c.val⟩
def PMux.client(m:PMux)(t:TxnD):PMux × PItem:=
 let x:=m.accepts t.lsn t.signals
 ({x.1 with win:=x.1.win.see t.changes},⟨t.lsn,opsC x.1 t.lsn t.changes,x.2⟩)
def PMux.high(m:PMux)(t:TxnD):PMux × PItem:=match m.win.high t.mark t.lsn with
 | (_,none)=>(m,⟨t.lsn,[],[]⟩)
 | (w,some x)=>match chunkR m.reqs m.win.id m.win.cursor m.win.last with
  | none=>({m with win:=w},{x with notes:=[]})
  | some L=>({m with win:=w,reqs:=L},x)
def PMux.take(m:PMux)(t:TxnD):PMux × (PItem × Int):=
 if mayTx t=false then (m,(⟨0,[],[]⟩,1))
 else if t.lsn≠m.at_+1∨m.win.waits t.kind t.mark=true then (m,(⟨0,[],[]⟩,10))
 else if t.kind=1 then let r:=({m with at_:=t.lsn}:PMux).client t;(r.1,(r.2,0))
 else if t.kind=3 then let r:=({m with at_:=t.lsn}:PMux).high t;(r.1,(r.2,0))
 else ({m with at_:=t.lsn,win:=m.win.low t.mark},(⟨t.lsn,[],[]⟩,0))
def openR(L:List Rq):List Rq:=L.filter λr=>!r.done
structure PSnap where
 k:PSrc
 m:PMux
 d:PDrr
 n:Int
def readyS(m:PMux):Bool:=decide (m.win.state=1∨m.win.state=2∨(m.win.state=0∧openR m.reqs≠[]))
def rowD(d:PDrr)(L:List Rq):PDrr:=(openR L).foldl (λd r=>d.add r.id r.weight) ((L.filter (·.done)).foldl (λd r=>d.del r.id) d)
def reqAt(L:List Rq)(id:Int):Option Rq:=if id<1 then none else L[(id-1).toNat]?
def PSnap.markLow(p:PSnap)(r:Rq):PSnap × (Int × Int):=
 if (p.k.markS 2 (headG p.k.g.segs+1)).2.2≠0 then ({p with k:=(p.k.markS 2 (headG p.k.g.segs+1)).1},(0,(p.k.markS 2 (headG p.k.g.segs+1)).2.2))
 else ({p with k:=(p.k.markS 2 (headG p.k.g.segs+1)).1,m:={p.m with win:=p.m.win.openW (headG p.k.g.segs+1) r.id r.table r.cursor}},(3,0))
def PSnap.lowX(p:PSnap)(x:PDrr × Int):PSnap × (Int × Int):=match reqAt p.m.reqs x.2 with
 | none=>({p with d:=x.1},(0,0))
 | some r=>({p with d:=x.1}:PSnap).markLow r
def PSnap.lowP(p:PSnap):PSnap × (Int × Int):=p.lowX (rowD p.d p.m.reqs).next
def PSnap.highP(p:PSnap):PSnap × (Int × Int):=
 let y:=p.k.markS 3 p.m.win.mark
 if y.2.2≠0 then ({p with k:=y.1},(0,y.2.2)) else ({p with k:=y.1,m:={p.m with win:=p.m.win.shut}},(5,0))
def PSnap.step(p:PSnap):PSnap × (Int × Int):=
 if readyS p.m=false then (p,(0,0))
 else if p.m.win.state=0 then p.lowP
 else if p.m.win.state=1 then ({p with m:={p.m with win:=p.m.win.fill (p.k.chunkS p.m.win.table p.m.win.after p.n)}},(4,0))
 else p.highP
theorem loadG_seg{R:List PF}{L0:List PSeg}{f n:Int}{s:PSeg}{last:Bool}{x:PF}(hx:getK PF.id R f=some x)(hb:x.b=segB s)(h1:s.file=f)(h2:s.first=n)(h3:s.size=(segB s).length)(h4:∀p∈s.l,p.length≤1048576)
  (n1:1≤n) (n2:n+s.l.length≤1099511627776) (hl:last=false→s.l≠[]) (h0:L0=[]∨headG L0+1=n):loadG L0 R f last=((true,true),L0++[s]):=by
 unfold loadG
 rw[hx]
 simp only[Option.map_some,Option.getD_some,hb]
 have hr:readS (segB s)=some (s.first,s.l,(segB s).length):=by
  have:=readS_seg (n:=s.first.toNat) (l:=s.l) (by omega) (by omega) h4
  unfold segB
  rw[this]
  congr 2;omega
 rw[hr]
 have hs:(⟨f,s.first,(segB s).length,s.l⟩:PSeg)=s:=by
  obtain⟨a,b,c,d⟩:=s
  simp only at h1 h3
  simp[← h1,← h3]
 simp only
 rw[if_neg,hs]
 rintro (⟨e1,e2⟩|⟨e1,e2⟩|e)
 ·rcases e2 with e2|e2
  ·exact e2 rfl
  ·exact hl e1 (List.eq_nil_of_length_eq_zero e2)
 ·rcases h0 with rfl|h0
  ·simp at e1
  ·omega
 ·omega
def gapG(prev:Option Int)(f:Int):Bool:=match prev with
 | none=>false
 | some g=>decide (f≠g+1)
theorem loadsG_cons(R:List PF)(f:Int)(r:List Int)(prev:Option Int)(L:List PSeg)(wh:Bool):loadsG R (f::r) prev L wh =
  if (loadG L R f r.isEmpty).1.2=false then none else if gapG prev f=true then none else loadsG R r (some f) (loadG L R f r.isEmpty).2 (loadG L R f r.isEmpty).1.1:=rfl
theorem loads_chain(R:List PF):∀(r:List PSeg) (f n:Int) (L0:List PSeg) (prev:Option Int) (ids:List Int) (wh:Bool),Chain f n r→(∀s∈r,∃x,getK PF.id R s.file=some x∧x.b=segB s)→(L0=[]∨headG L0+1=n)→(prev=none∨prev=some (f-1))→1≤n→n+(entsG r).length≤1099511627776→(ids≠[]→∀s∈r,s.l≠[]) →
  loadsG R (r.map PSeg.file++ids) prev L0 wh=loadsG R ids (if r=[] then prev else some (f+r.length-1)) (L0++r) (if r=[] then wh else true)
 | [],f,n,L0,prev,ids,wh,_,_,_,_,_,_,_=>by simp
 | s::r,f,n,L0,prev,ids,wh,hc,hg,h0,hp,n1,n2,hi=>by
  obtain⟨h1,h2,h3,h4,h5,h6⟩:=hc
  obtain⟨x,hx,hb⟩:=hg s (.head _)
  rw[entsG_cons,List.length_append]at n2
  have hld:loadG L0 R s.file (r.map PSeg.file++ids).isEmpty=((true,true),L0++[s]):=by
   refine loadG_seg hx hb rfl h2 h3 h4 n1 (by omega) (λhl=>?_) h0
   by_cases hr:r=[]
   ·subst hr
    refine hi (λe=>?_) s (.head _)
    subst e;simp at hl
   ·exact h5 hr
  rw[List.map_cons,List.cons_append,loadsG_cons]
  simp only[hld]
  rw[if_neg (by simp),if_neg ?_]
  ·rw[loads_chain R r (f+1) (n+s.l.length) (L0++[s]) (some s.file) ids true h6 (λt ht=>hg t (.tail _ ht)) (.inr ?_) (.inr (by rw[h1];congr 1;omega)) (by omega) (by omega) (λhd t ht=>hi hd t (.tail _ ht))]
   ·rw[if_neg (by simp:¬(s::r=[])),if_neg (by simp:¬(s::r=[])),List.append_assoc]
    by_cases hr:r=[]
    ·subst hr;simp[h1]
    ·rw[if_neg hr,if_neg hr]
     congr 2
     simp;omega
   ·unfold headG
    rw[List.getLast?_concat]
    simp only[PSeg.next];omega
  ·rcases hp with rfl|rfl
   ·simp[gapG]
   ·simp[gapG,h1]
theorem idsG_con{R:List PF}{f base:Int}(h:Con f R)(h1:base≤f)(h2:f+R.length≤base+4096):idsG base R=R.map PF.id:=by
 unfold idsG
 rw[List.filter_eq_self]
 intro a ha
 obtain⟨x,hx,rfl⟩:=List.mem_map.1 ha
 have:=h.mem hx
 simp only[decide_eq_true_eq];omega
theorem get_chain{f n:Int}{L:List PSeg}{R:List PF}(hR:Con f R)(hs:∀s∈L,segF s∈R):∀s∈L,∃x,getK PF.id R s.file=some x∧x.b=segB s:=λs h=>⟨segF s,getK_of hR.sorted (hs s h),rfl⟩
theorem map_file(L:List PSeg):(L.map segF).map PF.id=L.map PSeg.file:=by rw[List.map_map];rfl
theorem open_chain{d:DS}{L:List PSeg}{f n base size:Int}(hc:Chain f n L)(hR:d.R=L.map segF)(hoff:d.off=false)(b0:0≤base)(b1:base≤12288)(s0:64≤size)(s1:size≤65536)(hf:base≤f)(hf2:f+L.length≤base+4096)
  (n1:1≤n) (n2:n+(entsG L).length≤1099511627776):openG d base size=(d,.ok ⟨L,base,size,none⟩):=by
 have hcon:=hc.con
 have hids:idsG base d.R=L.map PSeg.file:=by
  rw[hR,idsG_con hcon hf (by rw[List.length_map];exact hf2),map_file]
 have hl:=loads_chain d.R L f n [] none [] true hc (get_chain (f:=f) (n:=n) (by rw[hR];exact hcon) (λs hs=>by rw[hR];exact List.mem_map.2 ⟨s,hs,rfl⟩)) (.inl rfl) (.inl rfl) n1 n2 (λh=>absurd rfl h)
 rw[List.append_nil]at hl
 unfold openG
 rw[if_neg (by omega),if_neg (by simp[hoff]),hids,hl]
 simp only[loadsG,List.nil_append]
 have hb:beginG L d (L.map PSeg.file) (if L=[] then true else true)=(d,0):=by
  unfold beginG
  rcases List.eq_nil_or_concat L with rfl|⟨A,s,rfl⟩
  ·rfl
  ·simp only[List.concat_eq_append,List.map_append,List.map_cons,List.map_nil,List.getLast?_concat]
   rw[if_neg (by simp),if_neg]
   have hsz:=(hc.bl s (by simp)).1
   have:getK PF.id d.R s.file=some (segF s):=by
    rw[hR]
    exact getK_of (x:=segF s) hcon.sorted (by simp)
   unfold lenF lastSize
   rw[this,List.getLast?_concat]
   simp only[segF,hsz];omega
 rw[hb]
 simp
theorem Chain.len_le:∀{f n:Int} {L:List PSeg},Chain f n L→L.length≤(entsG L).length+1
 | f,n,[],_=>by simp
 | f,n,[s],_=>by simp
 | f,n,s::t::L,h=>by
  obtain⟨_,_,_,_,h5,h6⟩:=h
  have:=h6.len_le
  have h0:s.l.length≠0:=λe=>h5 (by simp) (List.eq_nil_of_length_eq_zero e)
  rw[entsG_cons,List.length_append,List.length_cons]
  omega
structure LInv(g:PLog)(d:DS)(f n:Int)(es:List (List UInt8)):Prop where
 chain:Chain f n g.segs
 ents:entsG g.segs=es
 files:d.R=g.segs.map segF
 nil:g.segs=[]→f=g.base∧n=1
 base:g.base≤f
 b0:0≤g.base
 b1:g.base≤12288
 s0:64≤g.size
 s1:g.size≤65536
 n1:1≤n
 fi:f+es.length+2≤g.base+4096
 off:d.off=false
 torn:g.torn=none
theorem LInv.head{g:PLog}{d:DS}{f n:Int}{es:List (List UInt8)}(h:LInv g d f n es):headG g.segs=n+es.length-1:=by
 by_cases hL:g.segs=[]
 ·have:=h.nil hL
  have e:=h.ents
  rw[hL]at e ⊢
  rw[← e,this.2];rfl
 ·rw[h.chain.head hL,h.ents]
structure PlanR(g:PLog)(f n:Int)(es:List (List UInt8))(p:List UInt8)(x:PWr)(A:List PSeg)(l0:List (List UInt8))(pre:List UInt8):Prop where
 chain:Chain f n A
 full:∀s∈A,s.l≠[]
 file:x.file=f+A.length
 ents:entsG A++l0=es
 bl:∀q∈l0,q.length≤1048576
 all:pre++x.b=recsB (hdB (n+(entsG A).length).toNat::(l0++[p]))
 preq:l0=[]∨pre=recsB (hdB (n+(entsG A).length).toNat::l0)
 app:∀t,appF (g.segs.map segF) x.file t=A.map segF++[⟨x.file,pre.length,pre++t⟩]
 put:Chain f n (putG g.segs x p)
 putE:entsG (putG g.segs x p)=es++[p]
 putF:(putG g.segs x p).map segF=A.map segF++[⟨x.file,(pre++x.b).length,pre++x.b⟩]
 putN:putG g.segs x p≠[]
 putA:∀s∈putG g.segs x p,s.l≠[]
 pos:0<x.b.length
 len:x.b.length≤27+p.length
 fresh:x.fresh=true→g.segs=A∧pre=[]
 old:x.fresh=false→g.segs.map segF=A.map segF++[⟨x.file,pre.length,pre⟩]∧lastSize g.segs=pre.length
theorem plan_ok{g:PLog}{d:DS}{f n:Int}{es:List (List UInt8)}(h:LInv g d f n es){p:List UInt8}(hp:p.length≤1048576)(hn:n+es.length≤100000):∃x A l0 pre,planG g false p= .ok x∧PlanR g f n es p x A l0 pre:=by
 have hh:=h.head
 have hc:=h.chain
 have hle:=hc.len_le
 rw[h.ents]at hle
 have hfi:=h.fi
 have hn1:=h.n1
 have hsrt:=hc.con.sorted
 have hfresh:∀F:Int,F=f+g.segs.length→(∀s∈g.segs,s.l≠[])→∃x A l0 pre,freshG g F p= .ok x∧PlanR g f n es p x A l0 pre:=by
  intro F hF hfull
  have e1:(headG g.segs+1).toNat=(n+(entsG g.segs).length).toNat:=by rw[hh,h.ents];congr 1;omega
  have hput:putG g.segs ⟨F,true,recB (hdB (headG g.segs+1).toNat)++recB p⟩ p=g.segs++[⟨F,headG g.segs+1,(recB (hdB (headG g.segs+1).toNat)++recB p).length,[p]⟩]:=by
   unfold putG
   simp
  have hall:recB (hdB (headG g.segs+1).toNat)++recB p=recsB (hdB (n+(entsG g.segs).length).toNat::[p]):=by rw[e1,recsB_cons,recsB_cons];simp[recsB]
  refine⟨⟨F,true,recB (hdB (headG g.segs+1).toNat)++recB p⟩,g.segs,[],[],?_,hc,hfull,hF,by rw[List.append_nil];exact h.ents,by simp,?_,.inl rfl,λt=>?_,?_,?_,?_,?_,?_,?_,?_,λ_=>⟨rfl,rfl⟩,λe=>by cases e⟩
  ·unfold freshG
   rw[if_neg (by omega)]
  ·exact hall
  ·refine app_new hsrt (λy hy=>?_) t
   have:=hc.con.mem hy
   rw[List.length_map]at this
   show y.id<F
   omega
  ·rw[hput]
   refine Chain.app.2 ⟨hc,λ_=>hfull,hF,?_,?_,by simpa using hp,λh=>absurd rfl h,trivial⟩
   ·show headG g.segs+1=_
    rw[hh,h.ents];omega
   ·show (recB (hdB (headG g.segs+1).toNat)++recB p).length=(segB _).length
    unfold segB
    rw[hall,e1]
  ·rw[hput,entsG_app,h.ents];simp[entsG]
  ·rw[hput,List.map_append,List.nil_append]
   congr 1
   simp only[List.map_cons,List.map_nil,segF,segB]
   rw[hall,e1]
  ·rw[hput];simp
  ·rw[hput]
   intro s hs
   rcases List.mem_append.1 hs with hs|hs
   ·exact hfull s hs
   ·rw[List.mem_singleton.1 hs];simp
  ·show 0<(recB (hdB (headG g.segs+1).toNat)++recB p).length
   rw[List.length_append,recB_len];omega
  ·show (recB (hdB (headG g.segs+1).toNat)++recB p).length≤_
   rw[List.length_append,recB_len,recB_len,hdB_len];omega
 unfold planG
 rw[if_neg (by omega),if_neg (by simp),if_neg (by omega)]
 rcases List.eq_nil_or_concat g.segs with hL|⟨A,s,hL⟩
 ·have hnil:=h.nil hL
  rw[hL]
  simp only[List.getLast?_nil]
  exact hfresh g.base (by rw[hL];simp;omega) (by rw[hL];simp)
 ·rw[List.concat_eq_append]at hL
  have hLg:g.segs.getLast?=some s:=by rw[hL,List.getLast?_concat]
  rw[hLg]
  simp only
  rw[hL]at hc
  obtain⟨h1,h2,c1,c2,c3,c4,c5,c6⟩:=Chain.app.1 hc
  have hfA:=h2 (by simp)
  by_cases hcond:s.l.length=0∨(s.size:Int)+(recB p).length≤g.size
  ·rw[if_pos hcond]
   have hput:putG g.segs ⟨s.file,false,recB p⟩ p=A++[{s with size:=s.size+(recB p).length,l:=s.l++[p]}]:=by
    unfold putG
    rw[if_neg (by simp)]
    simp only[hL,List.dropLast_concat,List.getLast?_concat]
    rfl
   have hall:segB s++recB p=recsB (hdB (n+(entsG A).length).toNat::(s.l++[p])):=by
    unfold segB
    rw[c2,← List.cons_append,recsB_snoc]
   have hB2:segB {s with size:=s.size+(recB p).length,l:=s.l++[p]}=segB s++recB p:=by
    unfold segB
    rw[← List.cons_append,recsB_snoc]
   refine⟨⟨s.file,false,recB p⟩,A,s.l,segB s,rfl,h1,hfA,c1,?_,c4,hall,.inr (by unfold segB;rw[c2]),λt=>?_,?_,?_,?_,?_,?_,?_,?_,λe=>(by cases e),λ_=>⟨?_,?_⟩⟩
   ·rw[← h.ents,hL,entsG_app];simp[entsG]
   ·rw[hL,List.map_append]at hsrt ⊢
    exact app_end (x:=segF s) hsrt t
   ·rw[hput]
    refine Chain.app.2 ⟨h1,λ_=>hfA,c1,c2,?_,λq hq=>?_,λh=>absurd rfl h,trivial⟩
    ·rw[hB2,List.length_append,← c3]
    ·rcases List.mem_append.1 hq with hq|hq
     ·exact c4 q hq
     ·rw[List.mem_singleton.1 hq];exact hp
   ·rw[hput,entsG_app,← h.ents,hL,entsG_app];simp[entsG]
   ·rw[hput,List.map_append]
    simp only[List.map_cons,List.map_nil,segF,hB2]
   ·rw[hput];simp
   ·rw[hput]
    intro t ht
    rcases List.mem_append.1 ht with ht|ht
    ·exact hfA t ht
    ·rw[List.mem_singleton.1 ht];simp
   ·show 0<(recB p).length
    rw[recB_len];omega
   ·show (recB p).length≤_
    rw[recB_len];omega
   ·rw[hL,List.map_append];rfl
   ·unfold lastSize;rw[hL,List.getLast?_concat];show ((s.size:Nat):Int)=_;rw[c3]
  ·rw[if_neg hcond]
   refine hfresh (s.file+1) (by rw[hL,c1];simp;omega) (by
    intro t ht
    rw[hL]at ht
    rcases List.mem_append.1 ht with ht|ht
    ·exact hfA t ht
    ·rw[List.mem_singleton.1 ht]
     intro e
     exact hcond (.inl (by rw[e];rfl)))
def Torn(d:DS)(f n:Int)(es:List (List UInt8))(p:List UInt8)(whole:Bool):Prop:=∃A l0 pre k,
 Chain f n A∧(∀s∈A,s.l≠[])∧entsG A++l0=es∧(∀q∈l0++[p],q.length≤1048576)∧(l0=[]∨pre=(recsB (hdB (n+(entsG A).length).toNat::l0)).length)∧pre≤k∧k≤(recsB (hdB (n+(entsG A).length).toNat::(l0++[p]))).length ∧
 (whole=false→k<(recsB (hdB (n+(entsG A).length).toNat::(l0++[p]))).length)∧d.R=A.map segF++[⟨f+A.length,pre,(recsB (hdB (n+(entsG A).length).toNat::(l0++[p]))).take k⟩]
theorem PlanR.torn{g:PLog}{f n:Int}{es:List (List UInt8)}{p:List UInt8}{x:PWr}{A:List PSeg}{l0:List (List UInt8)}{pre:List UInt8}(h:PlanR g f n es p x A l0 pre)(hp:p.length≤1048576){d:DS}{m:Nat}{whole:Bool}(hm:m≤x.b.length)(hw:whole=false→m<x.b.length)
  (hR:d.R=appF (g.segs.map segF) x.file (x.b.take m)):Torn d f n es p whole:=by
 have hall:=h.all
 have hl:(recsB (hdB (n+(entsG A).length).toNat::(l0++[p]))).length=pre.length+x.b.length:=by rw[← hall,List.length_append]
 refine⟨A,l0,pre.length,pre.length+m,h.chain,h.full,h.ents,λq hq=>?_,?_,by omega,by omega,λe=>by have:=hw e;omega,?_⟩
 ·rcases List.mem_append.1 hq with hq|hq
  ·exact h.bl q hq
  ·rw[List.mem_singleton.1 hq];exact hp
 ·rcases h.preq with h1|h1
  ·exact .inl h1
  ·exact .inr (by rw[h1])
 ·rw[hR,h.app,← hall,List.take_length_add_append,h.file]
theorem PlanR.may{g:PLog}{d:DS}{f n:Int}{es:List (List UInt8)}{p:List UInt8}{x:PWr}{A:List PSeg}{l0:List (List UInt8)}{pre:List UInt8}(h:PlanR g f n es p x A l0 pre)(hi:LInv g d f n es){d':DS}(ho:d'.off=false):may d' x.file=0∧0≤x.file∧x.file<16384:=by
 have h1:=h.chain.len_le
 have h2:(entsG A).length+l0.length=es.length:=by rw[← h.ents,List.length_append]
 have:=hi.fi
 have:=hi.base
 have:=hi.b0
 have:=hi.b1
 have h3:=h.file
 refine⟨?_,by omega,by omega⟩
 unfold Go.Proofs.YtfenmffiidchcaaGreat.may
 rw[if_neg (by simp[ho]),if_neg (by omega)]
theorem appendG_eq{g:PLog}{d a s:DS}{p:List UInt8}{x:PWr}{e1 e2:Int}(hp:planG g d.off p= .ok x)(hm:mendG g d=((g,d),0))(ha:d.append x.file x.b=(a,e1))(hs:a.sync x.file=(s,e2)):
  appendG g d p=if e1≠0 then ((g,a),(0,e1)) else if e2≠0 then ((g,s),(0,e2)) else (({g with segs:=putG g.segs x p},s),(headG (putG g.segs x p),0)):=by
 unfold appendG
 rw[hp]
 simp only[hm]
 rw[if_neg (by decide),ha]
 simp only[hs]
theorem append_eq{d:DS}{f:Int}{b:List UInt8}(hm:may d f=0):d.append f b=({d.cnt with R:=appF d.R f b},d.cnt.err):=by
 unfold DS.append
 rw[if_neg (by simp[hm])]
theorem append_live{g:PLog}{d:DS}{f n:Int}{es:List (List UInt8)}(h:LInv g d f n es){p:List UInt8}(hp:p.length≤1048576)(hn:n+es.length≤100000)(hfi:f+es.length+3≤g.base+4096)(ha:0≤d.arm):
  (∃g' d',appendG g d p=((g',d'),(n+es.length,0))∧LInv g' d' f n (es++[p])∧d'.ops=d.ops+2∧0≤d'.arm∧(d.arm=0→d'.arm=0)∧g'.base=g.base∧g'.size=g.size∧(∀s∈g'.segs,s.l≠[])∧d.arm≠1∧d.arm≠2) ∨
  (∃d',appendG g d p=((g,d'),(0,8))∧Torn d' f n es p true∧d'.off=true∧d'.ops≤d.ops+2∧d.arm≠0):=by
 obtain⟨x,A,l0,pre,hpl,hr⟩:=plan_ok h hp hn
 have hoff:=h.off
 have hm:mendG g d=((g,d),0):=by unfold mendG;rw[h.torn]
 obtain⟨hmay,f0,f1⟩:=hr.may h hoff
 have happ:=append_eq (b:=x.b) hmay
 by_cases h1:d.arm=1
 ·right
  have e:d.cnt.off=true:=by simp[DS.cnt,h1]
  refine⟨{d.cnt with R:=appF d.R x.file x.b},?_,hr.torn hp (m:=x.b.length) (Nat.le_refl _) (λe=>by cases e) (by rw[List.take_length,h.files]),e,by simp[DS.cnt],by omega⟩
  have e2:d.cnt.err=8:=by unfold DS.err;rw[e];rfl
  rw[appendG_eq (by rw[hoff];exact hpl) hm happ rfl,e2]
  rfl
 ·have e:d.cnt.off=false:=by simp[DS.cnt,h1]
  have e2:d.cnt.err=0:=by unfold DS.err;rw[e];rfl
  have hap:=hr.app x.b
  rw[← h.files]at hap
  let d1:DS:={d.cnt with R:=appF d.R x.file x.b}
  have hcon:Con f (A.map segF++[⟨x.file,pre.length,pre++x.b⟩]):=hr.chain.con.snoc (by rw[List.length_map];exact hr.file)
  have hR1:d1.R=A.map segF++[⟨x.file,pre.length,pre++x.b⟩]:=hap
  have hfind:d1.find x.file=0:=by
   unfold DS.find
   rw[if_neg (by rw[(hr.may h (d':=d1) e).1];simp)]
   have hs:=hcon.sorted
   rw[hR1,if_pos (is_end (x:=⟨x.file,pre.length,pre++x.b⟩) hs)]
  rw[e2]at happ
  by_cases h2:d.arm=2
  ·right
   have e3:d1.cnt.off=true:=by simp[DS.cnt,d1,h2]
   have hsy:d1.sync x.file=(d1.cnt,8):=by
    unfold DS.sync
    rw[if_neg (by simp[hfind]),if_pos e3]
   rw[appendG_eq (by rw[hoff];exact hpl) hm happ hsy]
   refine⟨d1.cnt,rfl,hr.torn hp (m:=x.b.length) (Nat.le_refl _) (λe=>by cases e) (by rw[List.take_length,← h.files];rfl),e3,by simp[DS.cnt,d1],by omega⟩
  ·left
   have harm1:d1.arm=if 0<d.arm then d.arm-1 else d.arm:=rfl
   have e3:d1.cnt.off=false:=decide_eq_false (by rw[harm1];split<;>omega)
   have harm2:0≤d1.arm:=by rw[harm1];split<;>omega
   have hsy:d1.sync x.file=({d1.cnt with R:=updF d1.R x.file λy=>{y with safe:=y.b.length}},0):=by
    unfold DS.sync
    rw[if_neg (by simp[hfind]),if_neg (by simp[e3])]
   rw[appendG_eq (by rw[hoff];exact hpl) hm happ hsy]
   have hc2:=hr.put
   have hup:updF d1.R x.file (λy=>{y with safe:=y.b.length})=(putG g.segs x p).map segF:=by
    rw[hR1,upd_end (x:=⟨x.file,pre.length,pre++x.b⟩) hcon.sorted,hr.putF]
   refine⟨{g with segs:=putG g.segs x p},{d1.cnt with R:=updF d1.R x.file λy=>{y with safe:=y.b.length}},?_,⟨hc2,hr.putE,hup,λe=>absurd e hr.putN,h.base,h.b0,h.b1,h.s0,h.s1,h.n1,?_,e3,h.torn⟩,by simp[DS.cnt,d1],?_,λh0=>by simp[DS.cnt,d1,h0],rfl,rfl,hr.putA,h1,h2⟩
   ·have:headG (putG g.segs x p)=n+es.length:=by
     rw[hc2.head hr.putN,hr.putE,List.length_append]
     simp;omega
    rw[if_neg (by decide),if_neg (by decide),this]
   ·show f+((es++[p]).length:Int)+2≤g.base+4096
    rw[List.length_append]
    simp;omega
   ·show 0≤if 0<d1.arm then d1.arm-1 else d1.arm
    split<;>omega
theorem planG_len{g:PLog}{off:Bool}{p:List UInt8}{x:PWr}(h:planG g off p= .ok x):x.b.length≤27+p.length:=by
 have hf:∀F,freshG g F p= .ok x→x.b.length≤27+p.length:=λF h=>by
  unfold freshG at h
  split at h
  ·cases h
  ·cases h
   simp only[List.length_append,recB_len,hdB_len];omega
 unfold planG at h
 split at h
 ·cases h
 ·split at h
  ·cases h
  ·split at h
   ·cases h
   ·split at h
    ·exact hf _ h
    ·split at h
     ·cases h
      simp only[recB_len];omega
     ·exact hf _ h
theorem mendG_ok{g:PLog}{d:DS}{N:Nat}(h:d.Ok N):(mendG g d).1.2.Ok N:=by
 unfold mendG
 split
 ·exact h
 ·simp only
  split
  ·exact h.remove _
  ·exact h.cut _ _
theorem appendG_ok{g:PLog}{d:DS}{N:Nat}(h:d.Ok N)(p:List UInt8):(appendG g d p).1.2.Ok (N+(27+p.length)):=by
 unfold appendG
 split
 ·exact h.mono (by omega)
 ·rename_i x hx
  have hl:=planG_len hx
  have hm:=mendG_ok (g:=g) h
  simp only
  split
  ·exact hm.mono (by omega)
  ·have ha:=(hm.append x.file x.b).mono (M:=N+(27+p.length)) (by omega)
   split
   ·exact ha
   ·have hs:=ha.sync x.file
    split
    ·exact hs
    ·exact hs
theorem beginG_ok{L:List PSeg}{d:DS}{ids:List Int}{wh:Bool}{N:Nat}(h:d.Ok N):(beginG L d ids wh).1.Ok N:=by
 unfold beginG
 split
 ·exact h
 ·split
  ·exact h.remove _
  ·split
   ·exact h.cut _ _
   ·exact h
theorem openG_ok{d:DS}{base size:Int}{N:Nat}(h:d.Ok N):(openG d base size).1.Ok N:=by
 unfold openG
 split
 ·exact h
 ·split
  ·exact h
  ·split
   ·exact h
   ·split
    ·exact beginG_ok h
    ·exact beginG_ok h
theorem SegOk.mono{s:PSeg}{N M:Nat}(h:SegOk s N)(hm:N≤M):SegOk s M:=⟨h.f0,h.f1,h.n0,h.n1,Nat.le_trans h.sz hm,Nat.le_trans h.ln hm,h.bl⟩
theorem PLog.Ok.mono{g:PLog}{N M:Nat}(h:g.Ok N)(hm:N≤M):g.Ok M:=⟨λs hs=>(h.segs s hs).mono hm,h.b0,h.b1,h.s0,h.s1,Nat.le_trans h.ln hm⟩
theorem PLog.Ok.congr{g g':PLog}{N:Nat}(h:g.Ok N)(h1:g'.segs=g.segs)(h2:g'.base=g.base)(h3:g'.size=g.size):g'.Ok N:=
 ⟨by rw[h1];exact h.segs,by rw[h2];exact h.b0,by rw[h2];exact h.b1,by rw[h3];exact h.s0,by rw[h3];exact h.s1,by rw[h1];exact h.ln⟩
theorem mendG_same(g:PLog)(d:DS):(mendG g d).1.1.segs=g.segs∧(mendG g d).1.1.base=g.base∧(mendG g d).1.1.size=g.size:=by
 unfold mendG;split<;>exact⟨rfl,rfl,rfl⟩
theorem mendG_gok{g:PLog}{d:DS}{N:Nat}(h:g.Ok N):(mendG g d).1.1.Ok N:=let ⟨a,b,c⟩:=mendG_same g d;h.congr a b c
structure WrOk(g:PLog)(p:List UInt8)(x:PWr):Prop where
 pl:p.length≤1048576
 hd:headG g.segs<1099511627776
 old:x.fresh=false→∃s,g.segs.getLast?=some s∧x.file=s.file
 f0:x.fresh=true→0≤x.file∧x.file≤100000
 bl:x.b.length≤27+p.length
 pos:8≤x.b.length
theorem planG_wr{g:PLog}{N:Nat}(h:g.Ok N){off:Bool}{p:List UInt8}{x:PWr}(hx:planG g off p= .ok x):WrOk g p x:=by
 have hb:=planG_len hx
 have h0:=h.b0
 have h1:=h.b1
 have hp:p.length≤1048576:=by
  unfold planG at hx
  split at hx
  ·cases hx
  ·omega
 have hfr:∀F,0≤F→headG g.segs<1099511627776→freshG g F p= .ok x→WrOk g p x:=λF hF hd hx=>by
  unfold freshG at hx
  split at hx
  ·cases hx
  ·cases hx
   exact⟨hp,hd,λe=>(by cases e),λ_=>⟨hF,by show F≤100000;omega⟩,hb,by show 8≤(recB _++recB p).length;rw[List.length_append,recB_len];omega⟩
 unfold planG at hx
 rw[if_neg (by omega)]at hx
 split at hx
 ·cases hx
 ·split at hx
  ·cases hx
  ·rename_i hd
   have hd:headG g.segs<1099511627776:=by omega
   split at hx
   ·exact hfr _ h0 hd hx
   ·rename_i s hs
    split at hx
    ·cases hx
     exact⟨hp,hd,λ_=>⟨s,hs,rfl⟩,λe=>(by cases e),hb,by show 8≤(recB p).length;rw[recB_len];omega⟩
    ·have:=(h.segs s (List.mem_of_getLast? hs)).f0
     exact hfr _ (by omega) hd hx
def moreG(L:List PSeg)(x:PWr):List PSeg:=if x.fresh=true then L++[⟨x.file,headG L+1,0,[]⟩] else L
def addE(s:PSeg)(n:Nat)(p:List UInt8):PSeg:={s with size:=s.size+n,l:=s.l++[p]}
theorem putG_eq(L:List PSeg)(x:PWr)(p:List UInt8){A:List PSeg}{s:PSeg}(h:moreG L x=A++[s]):putG L x p=A++[addE s x.b.length p]:=by
 unfold putG
 have:(if x.fresh=true then L++[⟨x.file,headG L+1,0,[]⟩] else L)=A++[s]:=h
 rw[this]
 simp only[List.dropLast_concat,List.getLast?_concat]
 rfl
theorem moreG_last{g:PLog}{p:List UInt8}{x:PWr}(h:WrOk g p x):∃A s,moreG g.segs x=A++[s]:=by
 unfold moreG
 cases hf:x.fresh with
 | true=>exact⟨_,_,rfl⟩
 | false=>
  obtain⟨s,hs,_⟩:=h.old hf
  obtain⟨A,hA⟩:=List.getLast?_eq_some_iff.1 hs
  exact⟨A,s,by rw[if_neg (by decide)];exact hA⟩
theorem moreG_ok{g:PLog}{N:Nat}(hg:g.Ok N){p:List UInt8}{x:PWr}(h:WrOk g p x):∀s∈moreG g.segs x,SegOk s N:=by
 intro s hs
 unfold moreG at hs
 split at hs
 ·rename_i hf
  rcases List.mem_append.1 hs with hs|hs
  ·exact hg.segs s hs
  ·rw[List.mem_singleton.1 hs]
   have:=headG_ge hg.segs
   have:=h.hd
   exact⟨(h.f0 hf).1,(h.f0 hf).2,by show 1≤headG g.segs+1;omega,by show headG g.segs+1≤_;omega,Nat.zero_le _,Nat.zero_le _,λb hb=>by cases hb⟩
 ·exact hg.segs s hs
theorem moreG_len(L:List PSeg)(x:PWr):(moreG L x).length≤L.length+1:=by
 unfold moreG;split<;>simp
theorem putG_ok{g:PLog}{N:Nat}(hg:g.Ok N){p:List UInt8}{x:PWr}(h:WrOk g p x):(∀s∈putG g.segs x p,SegOk s (N+(28+p.length)))∧(putG g.segs x p).length≤N+1:=by
 obtain⟨A,s,hA⟩:=moreG_last h
 have hok:=moreG_ok hg h
 have hl:=moreG_len g.segs x
 have hn:=hg.ln
 rw[putG_eq _ _ _ hA]
 rw[hA]at hok hl
 refine⟨λt ht=>?_,by simp at hl ⊢;omega⟩
 rcases List.mem_append.1 ht with ht|ht
 ·exact (hok t (List.mem_append_left _ ht)).mono (by omega)
 ·rw[List.mem_singleton.1 ht]
  have hs:=hok s (by simp)
  have:=hs.sz
  have:=hs.ln
  have:=h.bl
  refine⟨hs.f0,hs.f1,hs.n0,hs.n1,by show s.size+x.b.length≤_;omega,by show (s.l++[p]).length≤_;simp;omega,λb hb=>?_⟩
  rcases List.mem_append.1 hb with hb|hb
  ·exact hs.bl b hb
  ·rw[List.mem_singleton.1 hb];exact h.pl
structure Win(lo hi:Int)(A B M:List PF):Prop where
 a:∀x∈A,x.id<lo
 m:∀x∈M,lo≤x.id∧x.id<hi
 b:∀x∈B,hi≤x.id
def inW(A B:List PF)(d:DS):DS:={d with R:=A++d.R++B}
section
variable {lo hi:Int} {A B M:List PF}
theorem Win.cnt(h:Win lo hi A B M){f:Int}(h1:lo≤f)(h2:f<hi):cntK PF.id (A++M++B) f=A.length+cntK PF.id M f:=by
 have eA:A.filter (λx=>decide (PF.id x<f))=A:=List.filter_eq_self.2 λx hx=>decide_eq_true (by have:=h.a x hx;omega)
 have eB:B.filter (λx=>decide (PF.id x<f))=[]:=List.filter_eq_nil_iff.2 λx hx=>by have:=h.b x hx;simp;omega
 unfold cntK
 rw[List.filter_append,List.filter_append,eA,eB,List.append_nil,List.length_append]
theorem Win.at_(h:Win lo hi A B M)(c:Nat)(hc:c≤M.length):(A++M++B)[A.length+c]?=if c<M.length then M[c]? else B[0]?:=by
 rw[List.append_assoc,List.getElem?_append_right (by omega),show A.length+c-A.length=c by omega]
 split
 ·rw[List.getElem?_append_left (by omega)]
 ·rw[List.getElem?_append_right (by omega),show c-M.length=0 by omega]
theorem Win.is(h:Win lo hi A B M){f:Int}(h1:lo≤f)(h2:f<hi):isK PF.id (A++M++B) f=isK PF.id M f:=by
 unfold isK
 rw[h.cnt h1 h2,h.at_ _ (cntK_le M f)]
 by_cases hc:cntK PF.id M f<M.length
 ·rw[if_pos hc]
 ·rw[if_neg hc,List.getElem?_eq_none (l:=M) (by omega)]
  cases hB:B[0]? with
  | none=>rfl
  | some y=>
   have:=h.b y (List.mem_of_getElem? hB)
   simp;omega
theorem Win.get(h:Win lo hi A B M){f:Int}(h1:lo≤f)(h2:f<hi):getK PF.id (A++M++B) f=getK PF.id M f:=by
 unfold getK
 rw[h.is h1 h2]
 split
 ·rename_i hi
  obtain⟨hl,_⟩:=isK_true hi
  rw[h.cnt h1 h2,h.at_ _ (by omega),if_pos hl]
 ·rfl
theorem Win.put(h:Win lo hi A B M){x:PF}(h1:lo≤x.id)(h2:x.id<hi):putK PF.id (A++M++B) x=A++putK PF.id M x++B:=by
 have hc:=cntK_le (key:=PF.id) M x.id
 unfold putK
 rw[h.is h1 h2,h.cnt h1 h2]
 have e1:(A++M++B).take (A.length+cntK PF.id M x.id)=A++M.take (cntK PF.id M x.id):=by
  rw[List.append_assoc,List.take_length_add_append,List.take_append_of_le_length hc]
 rw[e1]
 split
 ·rename_i hi
  obtain⟨hl,_⟩:=isK_true hi
  rw[List.append_assoc A M B,Nat.add_assoc,List.drop_length_add_append,List.drop_append_of_le_length (by omega)]
  simp only[List.append_assoc]
 ·rw[List.append_assoc A M B,List.drop_length_add_append,List.drop_append_of_le_length hc]
  simp only[List.append_assoc]
theorem Win.del(h:Win lo hi A B M){f:Int}(h1:lo≤f)(h2:f<hi):delK PF.id (A++M++B) f=A++delK PF.id M f++B:=by
 unfold delK
 rw[h.is h1 h2]
 split
 ·rename_i hi
  obtain⟨hl,_⟩:=isK_true hi
  rw[h.cnt h1 h2,List.append_assoc,List.eraseIdx_append_of_length_le (by omega),show A.length+cntK PF.id M f-A.length=cntK PF.id M f by omega,List.eraseIdx_append_of_lt_length hl,List.append_assoc]
 ·rfl
theorem Win.app(h:Win lo hi A B M){f:Int}(h1:lo≤f)(h2:f<hi)(b:List UInt8):appF (A++M++B) f b=A++appF M f b++B:=by
 unfold appF
 rw[h.get h1 h2,h.put (x:=⟨f,_,_⟩) h1 h2]
theorem Win.upd(h:Win lo hi A B M){f:Int}(h1:lo≤f)(h2:f<hi)(g:PF→PF):updF (A++M++B) f g=A++updF M f g++B:=by
 unfold updF
 rw[h.get h1 h2]
 split
 ·rw[h.put (x:={g _ with id:=f}) h1 h2]
 ·rfl
theorem Win.len(h:Win lo hi A B M){f:Int}(h1:lo≤f)(h2:f<hi):lenF (A++M++B) f=lenF M f:=by
 unfold lenF;rw[h.get h1 h2]
theorem Win.withM{M':List PF}(h:Win lo hi A B M)(hm:∀x∈M',lo≤x.id∧x.id<hi):Win lo hi A B M':=⟨h.a,hm,h.b⟩
theorem Win.wapp(h:Win lo hi A B M){f:Int}(h1:lo≤f)(h2:f<hi)(b:List UInt8):Win lo hi A B (appF M f b):=h.withM λx hx=>by
 rcases mem_putK hx with rfl|hx
 ·exact⟨h1,h2⟩
 ·exact h.m x hx
theorem Win.wupd(h:Win lo hi A B M){f:Int}(h1:lo≤f)(h2:f<hi)(g:PF→PF):Win lo hi A B (updF M f g):=h.withM λx hx=>by
 rcases mem_updF hx with hx|⟨y,_,_,rfl⟩
 ·exact h.m x hx
 ·exact⟨h1,h2⟩
theorem Win.wdel(h:Win lo hi A B M)(f:Int):Win lo hi A B (delK PF.id M f):=h.withM λx hx=>h.m x (mem_delK hx)
end
section
variable {lo hi:Int} {A B:List PF} {d:DS}
theorem inW_may(f:Int):may (inW A B d) f=may d f:=rfl
theorem inW_find(h:Win lo hi A B d.R){f:Int}(h1:lo≤f)(h2:f<hi):(inW A B d).find f=d.find f:=by
 unfold DS.find
 rw[inW_may,show (inW A B d).R=A++d.R++B from rfl,h.is h1 h2]
theorem inW_append(h:Win lo hi A B d.R){f:Int}(h1:lo≤f)(h2:f<hi)(b:List UInt8):(inW A B d).append f b=(inW A B (d.append f b).1,(d.append f b).2)∧Win lo hi A B (d.append f b).1.R:=by
 unfold DS.append
 rw[inW_may]
 split
 ·exact⟨rfl,h⟩
 ·rw[show (inW A B d).R=A++d.R++B from rfl,h.app h1 h2]
  exact⟨rfl,h.wapp h1 h2 b⟩
theorem inW_sync(h:Win lo hi A B d.R){f:Int}(h1:lo≤f)(h2:f<hi):(inW A B d).sync f=(inW A B (d.sync f).1,(d.sync f).2)∧Win lo hi A B (d.sync f).1.R:=by
 unfold DS.sync
 rw[inW_find h h1 h2]
 split
 ·exact⟨rfl,h⟩
 ·rw[show (inW A B d).cnt.off=d.cnt.off from rfl]
  split
  ·exact⟨rfl,h⟩
  ·rw[show (inW A B d).R=A++d.R++B from rfl,h.upd h1 h2]
   exact⟨rfl,h.wupd h1 h2 _⟩
theorem inW_cut(h:Win lo hi A B d.R){f:Int}(h1:lo≤f)(h2:f<hi)(n:Int):(inW A B d).cut f n=(inW A B (d.cut f n).1,(d.cut f n).2)∧Win lo hi A B (d.cut f n).1.R:=by
 unfold DS.cut
 rw[inW_find h h1 h2,show (inW A B d).R=A++d.R++B from rfl,h.len h1 h2]
 split
 ·exact⟨rfl,h⟩
 ·split
  ·exact⟨rfl,h⟩
  ·rw[show (inW A B d).cnt.off=d.cnt.off from rfl]
   split
   ·exact⟨rfl,h⟩
   ·rw[h.upd h1 h2]
    exact⟨rfl,h.wupd h1 h2 _⟩
theorem inW_remove(h:Win lo hi A B d.R){f:Int}(h1:lo≤f)(h2:f<hi):(inW A B d).remove f=(inW A B (d.remove f).1,(d.remove f).2)∧Win lo hi A B (d.remove f).1.R:=by
 unfold DS.remove
 rw[inW_find h h1 h2]
 split
 ·exact⟨rfl,h⟩
 ·rw[show (inW A B d).cnt.off=d.cnt.off from rfl]
  split
  ·exact⟨rfl,h⟩
  ·rw[show (inW A B d).R=A++d.R++B from rfl,h.del h1 h2]
   exact⟨rfl,h.wdel f⟩
structure GWin(lo hi:Int)(g:PLog):Prop where
 b0:lo≤g.base
 b1:g.base+4096≤hi
 segs:∀s∈g.segs,g.base≤s.file∧s.file<g.base+4096
 torn:∀x,g.torn=some x→g.base≤x.file∧x.file<g.base+4096
theorem planG_win{g:PLog}(h:GWin lo hi g){off:Bool}{p:List UInt8}{x:PWr}(hx:planG g off p= .ok x):g.base≤x.file∧x.file<g.base+4096:=by
 have hf:∀f,g.base≤f→freshG g f p= .ok x→g.base≤x.file∧x.file<g.base+4096:=λf hb hf=>by
  unfold freshG at hf
  split at hf
  ·cases hf
  ·cases hf;exact⟨hb,by dsimp only;omega⟩
 unfold planG at hx
 split at hx
 ·cases hx
 ·split at hx
  ·cases hx
  ·split at hx
   ·cases hx
   ·split at hx
    ·exact hf _ (Int.le_refl _) hx
    ·rename_i s hs
     have hs:=h.segs s (List.mem_of_getLast? hs)
     split at hx
     ·cases hx;exact hs
     ·exact hf _ (by omega) hx
theorem mendG_win{g:PLog}(hg:GWin lo hi g)(h:Win lo hi A B d.R):mendG g (inW A B d)=(((mendG g d).1.1,inW A B (mendG g d).1.2),(mendG g d).2)∧Win lo hi A B (mendG g d).1.2.R∧GWin lo hi (mendG g d).1.1:=by
 unfold mendG
 cases ht:g.torn with
 | none=>exact⟨rfl,h,hg⟩
 | some x=>
  have hx:=hg.torn x ht
  have h1:=hg.b0
  have h2:=hg.b1
  simp only
  split
  ·obtain⟨e,hw⟩:=inW_remove h (f:=x.file) (by omega) (by omega)
   rw[e]
   refine⟨rfl,hw,hg.b0,hg.b1,hg.segs,λy hy=>?_⟩
   simp only at hy
   split at hy
   ·cases hy
   ·cases hy;exact hx
  ·obtain⟨e,hw⟩:=inW_cut h (f:=x.file) (by omega) (by omega) x.had
   rw[e]
   refine⟨rfl,hw,hg.b0,hg.b1,hg.segs,λy hy=>?_⟩
   simp only at hy
   split at hy
   ·cases hy
   ·cases hy;exact hx
theorem putG_win{L:List PSeg}{x:PWr}{p:List UInt8}{P:Int→Prop}(hL:∀s∈L,P s.file)(hx:P x.file):∀s∈putG L x p,P s.file:=by
 unfold putG
 have h1:∀s∈(if x.fresh=true then L++[⟨x.file,headG L+1,0,[]⟩] else L),P s.file:=by
  split
  ·intro s hs
   rcases List.mem_append.1 hs with hs|hs
   ·exact hL s hs
   ·rw[List.mem_singleton.1 hs];exact hx
  ·exact hL
 intro s hs
 simp only at hs
 rcases List.mem_append.1 hs with hs|hs
 ·exact h1 s (List.dropLast_subset _ hs)
 ·obtain⟨y,hy,rfl⟩:=List.mem_map.1 hs
  exact h1 y (List.mem_of_getLast? (by simpa using hy))
theorem appendG_win{g:PLog}(hg:GWin lo hi g)(h:Win lo hi A B d.R)(p:List UInt8):appendG g (inW A B d) p=(((appendG g d p).1.1,inW A B (appendG g d p).1.2),(appendG g d p).2)∧Win lo hi A B (appendG g d p).1.2.R∧GWin lo hi (appendG g d p).1.1:=by
 unfold appendG
 rw[show (inW A B d).off=d.off from rfl]
 cases hp:planG g d.off p with
 | error e=>exact⟨rfl,h,hg⟩
 | ok x=>
  have hx:=planG_win hg hp
  have h1:=hg.b0
  have h2:=hg.b1
  obtain⟨em,hm,hgm⟩:=mendG_win hg h
  simp only
  rw[em]
  simp only
  split
  ·exact⟨rfl,hm,hgm⟩
  ·obtain⟨ea,ha⟩:=inW_append hm (f:=x.file) (by omega) (by omega) x.b
   rw[ea]
   simp only
   split
   ·exact⟨rfl,ha,hgm⟩
   ·obtain⟨es,hs⟩:=inW_sync ha (f:=x.file) (by omega) (by omega)
    rw[es]
    simp only
    split
    ·exact⟨rfl,hs,hgm⟩
    ·refine⟨rfl,hs,hgm.b0,hgm.b1,?_,hgm.torn⟩
     have hbase:(mendG g d).1.1.base=g.base:=(mendG_same g d).2.1
     show ∀s∈putG (mendG g d).1.1.segs x p,(mendG g d).1.1.base≤s.file∧s.file<(mendG g d).1.1.base+4096
     exact putG_win (P:=λf=>(mendG g d).1.1.base≤f∧f<(mendG g d).1.1.base+4096) hgm.segs (by rw[hbase];exact hx)
theorem idsG_win{M:List PF}{base:Int}(h:Win base (base+4096) A B M):idsG base (A++M++B)=idsG base M:=by
 have eA:(A.map PF.id).filter (λf=>decide (base≤f∧f<base+4096))=[]:=List.filter_eq_nil_iff.2 λf hf=>by
  obtain⟨x,hx,rfl⟩:=List.mem_map.1 hf
  have:=h.a x hx;simp;omega
 have eB:(B.map PF.id).filter (λf=>decide (base≤f∧f<base+4096))=[]:=List.filter_eq_nil_iff.2 λf hf=>by
  obtain⟨x,hx,rfl⟩:=List.mem_map.1 hf
  have:=h.b x hx;simp;omega
 unfold idsG
 rw[List.map_append,List.map_append,List.filter_append,List.filter_append,eA,eB,List.nil_append,List.append_nil]
theorem loadG_win{M:List PF}{L:List PSeg}{f:Int}{last:Bool}(h:Win lo hi A B M)(h1:lo≤f)(h2:f<hi):loadG L (A++M++B) f last=loadG L M f last:=by
 unfold loadG;rw[h.get h1 h2]
theorem loadsG_win{M:List PF}(h:Win lo hi A B M):∀(ids:List Int) (prev:Option Int) (L:List PSeg) (wh:Bool),(∀f∈ids,lo≤f∧f<hi)→loadsG (A++M++B) ids prev L wh=loadsG M ids prev L wh
 | [],_,_,_,_=>rfl
 | f::r,prev,L,wh,hi=>by
  unfold loadsG
  rw[loadG_win h (hi f (.head _)).1 (hi f (.head _)).2]
  simp only
  rw[loadsG_win h r _ _ _ λf hf=>hi f (.tail _ hf)]
theorem idsG_in{M:List PF}{base f:Int}(h:f∈idsG base M):base≤f∧f<base+4096:=by
 unfold idsG at h
 exact of_decide_eq_true (List.mem_filter.1 h).2
theorem beginG_win{L:List PSeg}{base:Int}{ids:List Int}{wh:Bool}(h:Win base (base+4096) A B d.R)(hi:∀f∈ids,base≤f∧f<base+4096):beginG L (inW A B d) ids wh=(inW A B (beginG L d ids wh).1,(beginG L d ids wh).2)∧Win base (base+4096) A B (beginG L d ids wh).1.R:=by
 unfold beginG
 cases hl:ids.getLast? with
 | none=>exact⟨rfl,h⟩
 | some f=>
  obtain⟨h1,h2⟩:=hi f (List.mem_of_getLast? hl)
  simp only
  split
  ·exact inW_remove h h1 h2
  ·rw[show (inW A B d).R=A++d.R++B from rfl,h.len h1 h2]
   split
   ·exact inW_cut h h1 h2 _
   ·exact⟨rfl,h⟩
theorem openG_win{base size:Int}(h:Win base (base+4096) A B d.R):openG (inW A B d) base size=(inW A B (openG d base size).1,(openG d base size).2)∧Win base (base+4096) A B (openG d base size).1.R:=by
 unfold openG
 split
 ·exact⟨rfl,h⟩
 ·rw[show (inW A B d).off=d.off from rfl,show (inW A B d).R=A++d.R++B from rfl,idsG_win h,loadsG_win h _ _ _ _ λf hf=>idsG_in hf]
  split
  ·exact⟨rfl,h⟩
  ·split
   ·exact⟨rfl,h⟩
   ·rename_i L wh _
    obtain⟨e,hw⟩:=beginG_win (L:=L) (wh:=wh) h λf hf=>idsG_in hf
    rw[e]
    simp only
    split
    ·exact⟨rfl,hw⟩
    ·exact⟨rfl,hw⟩
end
def tabsN(n:Nat)(l:List TxnD):Tabs:=(List.range n).map λt:Nat=>foldR (t:Int) l
theorem tabsN_len(n:Nat)(l:List TxnD):(tabsN n l).length=n:=by unfold tabsN;simp
theorem tabAt_tabsN{n:Nat}(l:List TxnD)(t:Nat)(h:t<n):tabAt (tabsN n l) t=foldR (t:Int) l:=by
 rw[tabAt_nat _ t (by rw[tabsN_len];exact h)]
 unfold tabsN;simp
theorem tabAt_app{ts:Tabs}{c:Chg}(h:chgIn ts.length c=true)(t:Nat)(ht:t<ts.length):tabAt (appTs ts c) t=appR t (tabAt ts t) c:=by
 have hc:0≤c.table∧c.table<(ts.length:Int):=of_decide_eq_true h
 rw[tabAt_nat _ t (by rw[appTs_len];exact ht)]
 unfold appTs appR
 rw[List.getElem_set]
 by_cases e:c.table=t
 ·rw[if_pos (by omega),if_pos e,e];rfl
 ·rw[if_neg (by omega),if_neg e,tabAt_nat ts t ht]
theorem tabAt_apps:∀{l:List Chg} {ts:Tabs},(∀c∈l,chgIn ts.length c=true)→∀t:Nat,t<ts.length→tabAt (appsTs ts l) t=l.foldl (appR t) (tabAt ts t)
 | [],ts,_,t,_=>rfl
 | c::l,ts,h,t,ht=>by
  show tabAt (appsTs (appTs ts c) l) t=_
  rw[tabAt_apps (λx hx=>by rw[appTs_len];exact h x (.tail _ hx)) t (by rw[appTs_len];exact ht),tabAt_app (h c (.head _)) t ht]
  rfl
theorem tabs_ext{a b:Tabs}(hl:a.length=b.length)(h:∀t:Nat,t<a.length→tabAt a t=tabAt b t):a=b:=
 List.ext_getElem hl λt h1 h2=>by have:=h t h1;rw[tabAt_nat a t h1,tabAt_nat b t h2]at this;exact this
theorem tabsN_add{n:Nat}{l:List TxnD}{t:TxnD}(h:∀c∈t.changes,chgIn n c=true):appsTs (tabsN n l) t.changes=tabsN n (l++[t]):=by
 have hl:=tabsN_len n l
 have h':∀c∈t.changes,chgIn (tabsN n l).length c=true:=λc hc=>by rw[hl];exact h c hc
 refine tabs_ext (by rw[appsTs_len,tabsN_len,tabsN_len]) λi hi=>?_
 rw[appsTs_len,hl]at hi
 rw[tabAt_apps h' i (by rw[hl];exact hi),tabAt_tabsN l i hi,tabAt_tabsN _ i hi]
 unfold foldR
 simp
theorem tabsN_nil(n:Nat):tabsN n []=List.replicate n []:=by
 unfold tabsN foldR
 refine List.ext_getElem (by simp) λi h1 h2=>by simp
structure TxsOk(n:Nat)(all:List TxnD):Prop where
 may:∀t∈all,mayTx t=true
 lsn:∀i (h:i<all.length),all[i].lsn=(i:Int)+1
 ch:∀t∈all,∀c∈t.changes,chgIn n c=true
theorem bytesT_dec{t:TxnD}(h:mayTx t=true):decTxn (bytesT t)= .ok t:=bytesTx_dec h
theorem redo_tabs{n:Nat}{all:List TxnD}(h:TxsOk n all)(m:Nat):∀(k j:Nat),j+k=all.length→redoS n m ((all.drop j).map bytesT) ((j:Int)+1) (tabsN n (all.take (max j m)))=some (tabsN n (all.take (max all.length m)))
 | 0,j,hj=>by
  rw[List.drop_eq_nil_of_le (by omega),show j=all.length by omega];rfl
 | k+1,j,hj=>by
  have hl:j<all.length:=by omega
  have ih:=redo_tabs h m k (j+1) (by omega)
  have hm:=h.may _ (List.getElem_mem hl)
  have hch:=h.ch _ (List.getElem_mem hl)
  rw[List.drop_eq_getElem_cons hl,List.map_cons,redoS,bytesT_dec hm]
  simp only
  rw[if_pos ⟨h.lsn j hl,λc hc=>(of_decide_eq_true (hch c hc)).2⟩]
  have e:(if (m:Int)<(j:Int)+1 then appsTs (tabsN n (all.take (max j m))) all[j].changes else tabsN n (all.take (max j m)))=tabsN n (all.take (max (j+1) m)):=by
   split
   ·rw[show max j m=j by omega,show max (j+1) m=j+1 by omega,tabsN_add hch,List.take_succ_eq_append_getElem hl]
   ·rw[show max j m=m by omega,show max (j+1) m=m by omega]
  rw[e,show (j:Int)+1+1=((j+1:Nat):Int)+1 by omega]
  exact ih
theorem tabsN_okL{n:Nat}:∀(k:Nat) (l:List TxnD),l.length=k→(∀t∈l,mayTx t=true)→(∀t∈l,∀c∈t.changes,chgIn n c=true)→(∀C∈tabsN n l,RowsOk C)
 | 0,l,hl,_,_=>by
  rw[List.eq_nil_of_length_eq_zero hl,tabsN_nil]
  intro C hC
  rw[List.eq_of_mem_replicate hC];exact rowsOk_nil
 | k+1,l,hl,h1,h2=>by
  have hne:l≠[]:=λe=>by rw[e]at hl;cases hl
  obtain⟨l',t,rfl⟩:∃l' t,l=l'++[t]:=⟨l.dropLast,l.getLast hne,(List.dropLast_concat_getLast hne).symm⟩
  have hch:=h2 t (by simp)
  rw[List.length_append,List.length_singleton]at hl
  rw[← tabsN_add hch]
  exact appsTs_ok (k:=8) (tabsN_okL k l' (by omega) (λx hx=>h1 x (by simp[hx])) λx hx=>h2 x (by simp[hx])) (λc hc=>(mayTx_all (h1 t (by simp))).2.2.2.2.2.1 c hc) λc hc=>by rw[tabsN_len];exact hch c hc
theorem tabsN_ok{n:Nat}{l:List TxnD}(h1:∀t∈l,mayTx t=true)(h2:∀t∈l,∀c∈t.changes,chgIn n c=true):∀C∈tabsN n l,RowsOk C:=tabsN_okL l.length l rfl h1 h2
structure Laid(g:PLog)(d:DS)(f n:Int)(es:List (List UInt8)):Prop where
 chain:Chain f n g.segs
 ents:entsG g.segs=es
 files:d.R=g.segs.map segF
 nil:g.segs=[]→f=g.base∧n=1
 base:g.base≤f
 b0:0≤g.base
 b1:g.base≤12288
 s0:64≤g.size
 s1:g.size≤65536
 n1:1≤n
 fi:f+es.length+2≤g.base+4096
 torn:g.torn=none
theorem LInv.laid{g:PLog}{d:DS}{f n:Int}{es:List (List UInt8)}(h:LInv g d f n es):Laid g d f n es:=⟨h.chain,h.ents,h.files,h.nil,h.base,h.b0,h.b1,h.s0,h.s1,h.n1,h.fi,h.torn⟩
theorem Laid.inv{g:PLog}{d:DS}{f n:Int}{es:List (List UInt8)}(h:Laid g d f n es)(ho:d.off=false):LInv g d f n es:=⟨h.chain,h.ents,h.files,h.nil,h.base,h.b0,h.b1,h.s0,h.s1,h.n1,h.fi,ho,h.torn⟩
def badI(n:Nat)(x:PF):Prop:=∀y,decImg x.b=some y→y.2.length≠n
structure ImSt(n:Nat)(all:List TxnD)(I:List PF)(newest:Int)(m:Nat):Prop where
 sorted:SortedK PF.id I
 ids:∀x∈I,x.id=0∨x.id=1
 safe:∀x∈I,x.safe=x.b.length
 none_:newest = -1→m=0
 new:newest = -1∨newest=0∨newest=1
 le:m≤all.length
 some_:newest≠-1→∃x∈I,x.id=newest∧x.b=recB (imgB m (tabsN n (all.take m)))
 other:∀x∈I,x.id≠newest→badI n x∨∃y,decImg x.b=some y∧y.1<m∧newest≠-1
theorem imgAt_get{R:List PF}(hs:SortedK PF.id R){n:Nat}{f:Int}:imgAt R n f=none∨∃x∈R,x.id=f∧∃y,decImg x.b=some y∧y.2.length=n∧imgAt R n f=some y:=by
 unfold imgAt
 cases hg:getK PF.id R f with
 | none=>exact .inl rfl
 | some x=>
  have hx:=getK_mem hg
  simp only
  cases hd:decImg x.b with
  | none=>exact .inl rfl
  | some y=>
   simp only
   by_cases hl:y.2.length=n
   ·exact .inr ⟨x,hx.1,hx.2,y,hd,hl,by rw[if_pos hl]⟩
   ·exact .inl (if_neg hl)
theorem imgAt_of{R:List PF}(hs:SortedK PF.id R){n:Nat}{x:PF}(hx:x∈R){y:Int × Tabs}(hd:decImg x.b=some y)(hl:y.2.length=n):imgAt R n x.id=some y:=by
 unfold imgAt
 rw[getK_of hs hx]
 simp only[hd]
 rw[if_pos hl]
theorem ImSt.load{n:Nat}{all:List TxnD}{I:List PF}{newest:Int}{m:Nat}(h:ImSt n all I newest m)(hm:∀j,j≤all.length→mayImg j (tabsN n (all.take j))=true):loadI I n=(newest,(m:Int),tabsN n (all.take m)):=by
 have hn:newest≠-1→imgAt I n newest=some ((m:Int),tabsN n (all.take m)):=λhne=>by
  obtain⟨x,hx,hf,hb⟩:=h.some_ hne
  rw[← hf]
  exact imgAt_of h.sorted hx (by rw[hb];exact decImg_ok (hm m h.le)) (tabsN_len _ _)
 have ho:∀f,f≠newest→imgAt I n f=none∨∃y,imgAt I n f=some y∧y.1<m∧newest≠-1:=λf hf=>by
  rcases imgAt_get h.sorted (n:=n) (f:=f) with e|⟨x,hx,hxf,y,h1,h2,h3⟩
  ·exact .inl e
  ·rcases h.other x hx (by rw[hxf];exact hf) with hb|⟨z,hz,h4,h5⟩
   ·exact absurd h2 (hb y h1)
   ·rw[h1]at hz;cases hz
    exact .inr ⟨y,h3,h4,h5⟩
 unfold loadI
 rcases h.new with e|e|e
 ·have hm0:=h.none_ e
  have o0:imgAt I n 0=none:=by
   rcases ho 0 (by rw[e];decide) with h1|⟨_,_,_,h1⟩
   ·exact h1
   ·exact absurd e h1
  have o1:imgAt I n 1=none:=by
   rcases ho 1 (by rw[e];decide) with h1|⟨_,_,_,h1⟩
   ·exact h1
   ·exact absurd e h1
  unfold load1
  rw[o0,o1,e,hm0]
  simp only[List.take_zero,tabsN_nil]
  rfl
 ·have hn:=hn (by rw[e];decide)
  rw[e]at hn
  have h0:load1 I n 0 (-1,0,List.replicate n [])=(0,(m:Int),tabsN n (all.take m)):=by
   unfold load1;rw[hn];simp
  rw[h0,e]
  unfold load1
  rcases ho 1 (by rw[e];decide) with h1|⟨y,h1,h2,_⟩
  ·rw[h1]
  ·rw[h1]
   simp only
   rw[if_pos ⟨by decide,by omega⟩]
 ·have hn:=hn (by rw[e];decide)
  rw[e]at hn
  rcases ho 0 (by rw[e];decide) with h1|⟨y,h1,h2,_⟩
  ·have h0:load1 I n 0 (-1,0,List.replicate n [])=(-1,0,List.replicate n []):=by unfold load1;rw[h1]
   rw[h0,e]
   unfold load1;rw[hn];simp
  ·have h0:load1 I n 0 (-1,0,List.replicate n [])=(0,y.1,y.2):=by unfold load1;rw[h1];simp
   rw[h0,e]
   unfold load1;rw[hn]
   simp only
   rw[if_neg (by omega)]
def ImgsOk(n:Nat)(all:List TxnD):Prop:=∀j,j≤all.length→mayImg j (tabsN n (all.take j))=true
structure SrcL(n:Nat)(k:PSrc)(all:List TxnD)(tr:Nat)(I:List PF)(d0:DS)(f:Int)(lo m:Nat):Prop where
 disk:k.d=inW I [] d0
 win:Win 16 4112 I [] d0.R
 log:Laid k.g d0 f ((lo:Int)+1) ((all.drop lo).map bytesT)
 base:k.g.base=16
 img:ImSt n all I k.newest m
 image:k.image=m
 lom:lo≤m
 lotr:lo≤tr
 ts:k.ts=tabsN n all
 file:f≤16+lo
theorem ImSt.mono{n:Nat}{all:List TxnD}{I:List PF}{newest:Int}{m:Nat}(h:ImSt n all I newest m)(l:List TxnD):ImSt n (all++l) I newest m:=
 ⟨h.sorted,h.ids,h.safe,h.none_,h.new,by have:=h.le;rw[List.length_append];omega,λhn=>by rw[List.take_append_of_le_length h.le];exact h.some_ hn,h.other⟩
theorem loadI_win{I M:List PF}(hI:∀x∈I,x.id=0∨x.id=1)(hM:∀x∈M,16≤x.id)(n:Nat):loadI (I++M++[]) n=loadI I n:=by
 have hw:Win 0 16 [] M I:=⟨by simp,λx hx=>by rcases hI x hx with h|h<;>omega,hM⟩
 have hg:∀f:Int,0≤f→f<16→imgAt (I++M++[]) n f=imgAt I n f:=λf h0 h1=>by
  unfold imgAt
  have:=hw.get h0 h1
  rw[List.nil_append]at this
  rw[List.append_nil,this]
 unfold loadI load1
 rw[hg 0 (by decide) (by decide),hg 1 (by decide) (by decide)]
theorem redo_all{n:Nat}{all:List TxnD}(h:TxsOk n all){lo m:Nat}(h1:lo≤m)(h2:m≤all.length):redoS n m ((all.drop lo).map bytesT) ((lo:Int)+1) (tabsN n (all.take m))=some (tabsN n all):=by
 have:=redo_tabs h m (all.length-lo) lo (by omega)
 rw[show max lo m=m by omega,show max all.length m=all.length by omega,List.take_length]at this
 exact this
theorem openS_ok{n:Nat}(n1:1≤n)(n8:n≤8){all:List TxnD}(ht:TxsOk n all)(hi:ImgsOk n all){I:List PF}{d1 d2:DS}{g:PLog}{size:Int}(ho:openG d1 16 size=(d2,.ok g))(hw:Win 16 4112 I [] d1.R){f newest:Int}{lo m tr:Nat}
  (hl:LInv g d2 f ((lo:Int)+1) ((all.drop lo).map bytesT)) (hb:g.base=16) (him:ImSt n all I newest m) (hlm:lo≤m) (hlt:lo≤tr) (hf:f≤16+lo) :
  openS (inW I [] d1) n size=(inW I [] d2,.ok ⟨g,inW I [] d2,tabsN n all,newest,m⟩)∧SrcL n ⟨g,inW I [] d2,tabsN n all,newest,m⟩ all tr I d2 f lo m:=by
 obtain⟨e,hw2⟩:=openG_win (base:=16) (size:=size) (A:=I) (B:=[]) (d:=d1) hw
 rw[ho]at e hw2
 have hload:loadI (inW I [] d2).R n=(newest,(m:Int),tabsN n (all.take m)):=by
  show loadI (I++d2.R++[]) n=_
  rw[loadI_win him.ids λx hx=>(hw2.m x hx).1]
  exact him.load hi
 have hml:=him.le
 have hhead:=hl.head
 rw[List.length_map,List.length_drop]at hhead
 have hlow:lowG g.segs=(lo:Int)+1:=by
  by_cases hs:g.segs=[]
  ·rw[hs]
   have:=(hl.nil hs).2
   show (1:Int)=_
   omega
  ·exact hl.chain.low hs
 refine⟨?_,⟨rfl,hw2,hl.laid,hb,him,rfl,hlm,hlt,rfl,hf⟩⟩
 unfold openS
 rw[if_neg (by omega),e]
 simp only[Int.toNat_natCast]
 rw[hload,hl.ents,hlow]
 simp only
 rw[redo_all ht hlm hml]
 simp only
 rw[if_pos ⟨by omega,by omega⟩]
theorem Laid.gwin{g:PLog}{d:DS}{f n:Int}{es:List (List UInt8)}(h:Laid g d f n es)(hb:g.base=16):GWin 16 4112 g:=by
 have hle:=h.chain.len_le
 rw[h.ents]at hle
 have hfi:=h.fi
 have hba:=h.base
 refine⟨by omega,by omega,λs hs=>?_,λx hx=>by rw[h.torn]at hx;cases hx⟩
 have:=h.chain.con.mem (x:=segF s) (List.mem_map_of_mem hs)
 rw[List.length_map]at this
 have h1:(segF s).id=s.file:=rfl
 omega
theorem encTxn_len{t:TxnD}(h:mayTx t=true):(bytesT t).length≤2000:=Nat.le_trans (bytesTx_len h) (by decide)
theorem SrcL.head{n:Nat}{k:PSrc}{all:List TxnD}{tr:Nat}{I:List PF}{d0:DS}{f:Int}{lo m:Nat}(h:SrcL n k all tr I d0 f lo m)(ho:k.d.off=false):headG k.g.segs=all.length:=by
 have hl:=h.log.inv (by have:=h.disk;rw[this]at ho;exact ho)
 have hm:=h.img.le
 have:=h.lom
 rw[hl.head,List.length_map,List.length_drop];omega
theorem insR_split:∀(C:List Row) (c:Row) (i:Nat),i≤C.length→(∀j (h:j<C.length),j<i→C[j].key<c.key)→(∀h:i<C.length,c.key≤C[i].key) →
  insR C c=C.take i++[c]++C.drop (if ∃h:i<C.length,C[i].key=c.key then i+1 else i)
 | [],c,i,hi,_,_=>by
  have:i=0:=by simpa using hi
  subst this;simp[insR]
 | x::C,c,0,_,_,h2=>by
  have hx:=h2 (by simp)
  simp only[List.getElem_cons_zero]at hx
  have:¬x.key<c.key:=by omega
  by_cases he:x.key=c.key
  ·simp[insR,he]
  ·simp[insR,this,he]
 | x::C,c,i+1,hi,h1,h2=>by
  have hx:x.key<c.key:=h1 0 (by simp) (by omega)
  have ih:=insR_split C c i (by simpa using hi) (λj h hj=>by have:=h1 (j+1) (by simpa using h) (by omega);simpa using this) (λh=>by have:=h2 (by simpa using h);simpa using this)
  simp only[insR,hx,if_true,ih,List.length_cons,List.getElem_cons_succ,Nat.add_lt_add_iff_right]
  split<;>simp
theorem delR_at:∀(C:List Row) (k:Int) (i:Nat) (h:i<C.length),(∀j (h:j<C.length),j<i→C[j].key≠k)→C[i].key=k→delR C k=C.take i++C.drop (i+1)
 | x::C,k,0,_,_,h2=>by simp at h2;simp[delR,h2]
 | x::C,k,i+1,h,h1,h2=>by
  have hx:x.key≠k:=h1 0 (by simp) (by omega)
  have ih:=delR_at C k i (by simpa using h) (λj h hj=>by have:=h1 (j+1) (by simpa using h) (by omega);simpa using this) (by simpa using h2)
  simp[delR,hx,ih]
theorem delR_none:∀(C:List Row) (k:Int),(∀j (h:j<C.length),C[j].key≠k)→delR C k=C
 | [],k,_=>rfl
 | x::C,k,h=>by
  have hx:x.key≠k:=h 0 (by simp)
  simp[delR,hx,delR_none C k (λj hj=>by have:=h (j+1) (by simpa using hj);simpa using this)]
theorem qb(H:Heap)(v:Value)(C:List Row)(key:Int)(hC:RdSl H 2 v C.length (C.map encRow).flatten)(hn:C.length≤1000000):
  SP 168 [v,.int .i64 key] [.mem H] (λr post=>∃(u:Value) (b:Bool) (H':Heap),H.le H'∧r= .tuple #[u,.bool b]∧RdSl H' 2 u (delR C key).length ((delR C key).map encRow).flatten∧post=[.mem H']):=by
 intro W F w hS;apply vc168;unfold Vc168;(try simp only[app]at hS)
 refine⟨λus w=>∃i:Nat,us=[.int .i64 i]∧i≤C.length∧(∀j (h:j<C.length),j<i→C[j].key≠key)∧SL W (.mem H::F) w,λus _=>match us with|[.int _ i]=>(C.length-i).toNat|_=>0,⟨0,rfl,by omega,λj h hj=>by omega,hS⟩,?_⟩
 clear hS
 rintro v6 w ⟨i,hus,hi,hne,hS⟩
 cases hus
 refine zn hC ?_
 refine Gp ?_
 refine zc (λh=>?_) (λh=>?_)
 ·have hil:i<C.length:=by omega
  refine zI hS Xh encRow_len hC (x:=C[i]) (by simp[hil]) hil (i:=0) rfl ?_
  refine Gp ?_
  refine zc (λhe=>?_) (λhe=>?_)
  ·refine yY hS ?_
   clear hS;intro w hS
   refine qY hC hi (λv23 h23=>?_)
   rw[flat_take_n encRow_len]at h23
   refine Gp ?_
   refine Qt hC (k:=i+1) (by omega) (λv28 h28=>?_)
   rw[flat_drop_n encRow_len]at h28
   refine zB hS (cells:=[]) rfl ?_
   clear hS;intro b1 w hS
   have hS:=OwnSl.full (n:=0) (sz:=2) rfl hS
   refine zz (n:=0) (m:=i) hS Xr (src_rd hS Xh h23) (by rw[flat_len encRow_len,List.length_take];omega) rfl (recs_one encRow_one _) (by omega) (by omega) ?_
   clear hS;intro u1 w hS
   refine zz (n:=0+i) (m:=C.length-(i+1)) hS Xr (src_rd hS Xh h28) (by rw[flat_len encRow_len,List.length_drop]) rfl (recs_one encRow_one _) (by omega) (by omega) ?_
   clear hS;intro u2 w hS
   have hd:=delR_at C key i hil hne he
   have hl:(delR C key).length=0+i+(C.length-(i+1)):=by rw[hd];simp only[List.length_append,List.length_take,List.length_drop];omega
   have hf:[]++((C.take i).map encRow).flatten++((C.drop (i+1)).map encRow).flatten=((delR C key).map encRow).flatten:=by rw[hd];simp
   rw[hf,← hl]at hS
   obtain⟨H2,h12,hR,hS⟩:=zG (H:=H) (v:=u2) hS Xp
   exact⟨_,⟨u2,true,H2,h12,rfl,hR,rfl⟩,SL.into hS Xi⟩
  ·refine Gp ?_
   refine⟨⟨i+1,rfl,by omega,λj h hj=>?_,hS⟩,by dsimp only;omega⟩
   rcases Nat.lt_or_ge j i with hji|hji
   ·exact hne j h hji
   ·obtain rfl:j=i:=by omega
    exact he
 ·have hd:=delR_none C key (λj hj=>hne j hj (by omega))
  rw[hd]
  exact⟨_,⟨v,false,H,Heap.le_refl H,rfl,hC,rfl⟩,hS⟩
theorem qc(H:Heap)(v:Value)(C:List Row)(key:Int)(val:ByteArray)(hC:RdSl H 2 v C.length (C.map encRow).flatten)(hn:C.length≤1000000):
  SP 169 [v,.int .i64 key,.string val] [.mem H] (λr post=>∃(u:Value) (b:Bool) (H':Heap),H.le H'∧r= .tuple #[u,.bool b]∧RdSl H' 2 u (insR C ⟨key,val⟩).length ((insR C ⟨key,val⟩).map encRow).flatten∧post=[.mem H']):=by
 intro W F w hS;apply vc169;unfold Vc169;(try simp only[app]at hS)
 refine⟨λus w=>∃i:Nat,us=[.int .i64 i]∧i≤C.length∧(∀j (h:j<C.length),j<i→C[j].key<key)∧(∀h:i<C.length,key≤C[i].key)∧SL W (.mem H::F) w,?_,?_⟩
 ·refine⟨λus w=>∃i:Nat,us=[.int .i64 i]∧i≤C.length∧(∀j (h:j<C.length),j<i→C[j].key<key)∧SL W (.mem H::F) w,λus _=>match us with|[.int _ i]=>(C.length-i).toNat|_=>0,⟨0,rfl,by omega,λj h hj=>by omega,hS⟩,?_⟩
  clear hS
  rintro v8 w ⟨i,hus,hi,hlt,hS⟩
  cases hus
  refine zn hC ?_
  refine Gp ?_
  refine zc (λh=>?_) (λh=>⟨i,rfl,hi,hlt,λh=>by omega,hS⟩)
  have hil:i<C.length:=by omega
  refine zI hS Xh encRow_len hC (x:=C[i]) (by simp[hil]) hil (i:=0) rfl ?_
  refine Gp ?_
  refine zc (λhe=>?_) (λhe=>⟨i,rfl,hi,hlt,λh=>by omega,hS⟩)
  refine Gp ?_
  refine⟨⟨i+1,rfl,by omega,λj h hj=>?_,hS⟩,by dsimp only;omega⟩
  rcases Nat.lt_or_ge j i with hji|hji
  ·exact hlt j h hji
  ·obtain rfl:j=i:=by omega
   exact he
 ·clear hS
  rintro v8 w ⟨i,hus,hi,hlt,hge,hS⟩
  cases hus
  have hins:=insR_split C ⟨key,val⟩ i hi hlt hge
  refine zB hS (cells:=[]) rfl ?_
  clear hS;intro b1 w hS
  have hS:=OwnSl.full (n:=0) (sz:=2) rfl hS
  refine qY hC hi (λv28 h28=>?_)
  rw[flat_take_n encRow_len]at h28
  refine zz (n:=0) (m:=i) hS Xr (src_rd hS Xh h28) (by rw[flat_len encRow_len,List.length_take];omega) rfl (recs_one encRow_one _) (by omega) (by omega) ?_
  clear hS;intro u1 w hS
  refine Gm λb w hS=>?_
  refine zz (n:=0+i) (m:=1) hS Xr (src_pt0 (cs:=encRow ⟨key,val⟩) hS .hd rfl) rfl rfl (encRow_one _) (by omega) (by omega) ?_
  clear hS;intro u2 w hS
  refine zn hC ?_
  refine Gp ?_
  have hend:∀(j:Nat) (v':Value) (b:Bool) (w:World),j≤C.length→insR C ⟨key,val⟩=C.take i++[⟨key,val⟩]++C.drop j→RdSl H 2 v' (C.length-j) ((C.drop j).map encRow).flatten →
    SL W (.ob (OwnSl u2 52 2 (0+i+1) ([]++((C.take i).map encRow).flatten++encRow ⟨key,val⟩))::.mem H::F) w →
    zw 2 24 [.int .i64 0,.string ⟨#[]⟩] 52 u2 v' w λv54 w_7=>∃post,(∃(u:Value) (b':Bool) (H':Heap),H.le H'∧(.tuple #[v54,.bool b]:Value)= .tuple #[u,.bool b']∧RdSl H' 2 u (insR C ⟨key,val⟩).length ((insR C ⟨key,val⟩).map encRow).flatten∧post=[.mem H'])∧SL W (app post F) w_7:=by
   intro j v' b w hj hI hv' hS
   refine zz (n:=0+i+1) (m:=C.length-j) hS Xr (src_rd hS Xh hv') (by rw[flat_len encRow_len,List.length_drop]) rfl (recs_one encRow_one _) (by omega) (by omega) ?_
   clear hS;intro u3 w hS
   have hl:(insR C ⟨key,val⟩).length=0+i+1+(C.length-j):=by rw[hI];simp only[List.length_append,List.length_take,List.length_drop,List.length_singleton];omega
   have hf:[]++((C.take i).map encRow).flatten++encRow ⟨key,val⟩++((C.drop j).map encRow).flatten=((insR C ⟨key,val⟩).map encRow).flatten:=by rw[hI];simp
   rw[hf,← hl]at hS
   obtain⟨H2,h12,hR,hS⟩:=zG (H:=H) (v:=u3) hS Xp
   exact⟨_,⟨u3,b,H2,h12,rfl,hR,rfl⟩,SL.into hS Xi⟩
  refine zc (λh=>?_) (λh=>?_)
  ·have hil:i<C.length:=by omega
   refine zI hS Xh encRow_len hC (x:=C[i]) (by simp[hil]) hil (i:=0) rfl ?_
   refine Gp ?_
   refine zc (λhe=>?_) (λhe=>?_)
   ·rw[if_pos ⟨hil,he⟩]at hins
    refine Gp ?_
    refine Qt hC (k:=i+1) (by omega) (λv53 h53=>?_)
    rw[flat_drop_n encRow_len]at h53
    exact hend (i+1) v53 false w (by omega) hins h53 (SL.into hS Xi)
   ·rw[if_neg (λx=>he x.2)]at hins
    refine Qt hC (k:=i) (by omega) (λv53 h53=>?_)
    rw[flat_drop_n encRow_len]at h53
    exact hend i v53 true w (by omega) hins h53 (SL.into hS Xi)
  ·rw[if_neg (λx=>by obtain⟨h9,_⟩:=x;omega)]at hins
   refine Qt hC (k:=i) (by omega) (λv53 h53=>?_)
   rw[flat_drop_n encRow_len]at h53
   exact hend i v53 true w (by omega) hins h53 (SL.into hS Xi)
def Rd2(H:Heap)(vs:List Value)(ts:List (List Row)):Prop:=vs.length=ts.length∧∀(i:Nat) (v:Value) (C:List Row),vs[i]?=some v→ts[i]?=some C→RdSl H 2 v C.length (C.map encRow).flatten
theorem Rd2.mono{H H':Heap}{vs:List Value}{ts:List (List Row)}(hh:H.le H')(h:Rd2 H vs ts):Rd2 H' vs ts:=⟨h.1,λi v C h1 h2=>(h.2 i v C h1 h2).mono hh⟩
theorem Rd2.set{H:Heap}{vs:List Value}{ts:List (List Row)}(h:Rd2 H vs ts){t:Nat}{v:Value}{C:List Row}(hv:RdSl H 2 v C.length (C.map encRow).flatten):Rd2 H (vs.set t v) (ts.set t C):=by
 refine⟨by simpa using h.1,λi v' C' h1 h2=>?_⟩
 rw[List.getElem?_set]at h1 h2
 split at h1
 ·split at h1
  ·cases h1;rename_i e hl;simp only[e,if_true]at h2;split at h2
   ·cases h2;exact hv
   ·cases h2
  ·cases h1
 ·rename_i e;simp only[e,if_false]at h2;exact h.2 i v' C' h1 h2
def SetO(H:Heap)(r:Nat)(ts:List (List Row)):zC:=HEx λx:Nat × List Value=>zQ (Rd2 H x.2 ts∧ts.length≤8)
 [.pt r [.slice (some ⟨x.1,0,none⟩) ts.length ts.length] 157,.pt x.1 x.2 53]
theorem SetO.iff{W w:World}{H:Heap}{r:Nat}{ts:List (List Row)}{l:List Chunk}:SL W (.ob (SetO H r ts)::l) w↔∃(bv:Nat) (vs:List Value),(Rd2 H vs ts∧ts.length≤8) ∧
  SL W (.pt r [.slice (some ⟨bv,0,none⟩) ts.length ts.length] 157::.pt bv vs 53::l) w:=by
 unfold SetO
 simp only[SL.ex,SL.fact,List.cons_append,List.nil_append]
 constructor
 ·rintro ⟨⟨bv,vs⟩,h1,h2⟩;exact⟨bv,vs,h1,h2⟩
 ·rintro ⟨bv,vs,h1,h2⟩;exact⟨⟨bv,vs⟩,h1,h2⟩
theorem newset_ok(H:Heap)(n:Nat)(h1:1≤n)(h2:n≤8):SP 75 [.int .i64 n] [] (λv post=>∃r:Nat,v= .pointer (some ⟨r,0,none⟩)∧post=[.ob (SetO H r (List.replicate n []))]):=by
 intro W F w hS;apply vc75;unfold Vc75;(try simp only[app]at hS)
 refine Gp ?_
 refine zc (λh=>by omega) (λ_=>?_)
 refine Gp ?_
 refine zc (λh=>by omega) (λ_=>?_)
 refine s_mk hS (by omega) (by omega) (by omega) ?_
 clear hS;intro bv w hS
 refine Gp ?_
 refine⟨_,rfl,zN hS ?_⟩
 clear hS;intro r w hS
 have hz:zrow [.slice none 0 0] n=List.replicate n (.slice none 0 0:Value):=by simp[zrow]
 rw[hz]at hS
 have hS:SL W (.ob (SetO H r (List.replicate n []))::F) w:=SetO.iff.2 ⟨bv,List.replicate n (.slice none 0 0),⟨⟨by simp,λi v C h1 h2=>by
  rw[List.getElem?_replicate]at h1 h2
  split at h1
  ·cases h1;split at h2
   all_goals first|(cases h2;exact RdSl.nil H 2)|(cases h2)
  ·cases h1⟩,by simpa using h2⟩,by rw[List.length_replicate];exact hS⟩
 exact⟨_,⟨r,rfl,rfl⟩,hS⟩
structure AtR(C:List Row)(key:Int)(i:Nat):Prop where
 le:i≤C.length
 lo:∀j (h:j<C.length),j<i→C[j].key<key
 hi:∀h:i<C.length,key≤C[i].key
def isR(C:List Row)(key:Int)(i:Nat):Bool:=decide (∃h:i<C.length,C[i].key=key)
theorem AtR.gt{C:List Row}{key:Int}{i:Nat}(h:AtR C key i)(hs:SortedR C):∀j (hj:j<C.length),i<j→key<C[j].key:=λj hj hij=>by
 have h1:=h.hi (by omega)
 have:=List.pairwise_iff_getElem.1 hs i j (by omega) hj hij
 omega
theorem AtR.up{C:List Row}{key:Int}{i:Nat}(h:AtR C key i)(hs:SortedR C)(hn:isR C key i=false):∀j (hj:j<C.length),i≤j→key<C[j].key:=λj hj hij=>by
 rcases Nat.lt_or_ge i j with h1|h1
 ·exact h.gt hs j hj h1
 ·obtain rfl:j=i:=by omega
  have h1:=h.hi hj
  have h2:¬C[j].key=key:=λe=>of_decide_eq_false hn ⟨hj,e⟩
  omega
theorem AtR.ins{C:List Row}{key:Int}{i:Nat}(h:AtR C key i)(v:ByteArray):insR C ⟨key,v⟩=if isR C key i=true then C.set i ⟨key,v⟩ else C.take i++[⟨key,v⟩]++C.drop i:=by
 rw[insR_split C ⟨key,v⟩ i h.le h.lo h.hi]
 by_cases hk:∃h:i<C.length,C[i].key=key
 ·rw[if_pos hk,if_pos (show isR C key i=true from decide_eq_true hk)]
  rw[List.set_eq_take_append_cons_drop,if_pos hk.1];simp
 ·rw[if_neg hk,if_neg (by simpa [isR] using hk)]
theorem AtR.del{C:List Row}{key:Int}{i:Nat}(h:AtR C key i)(hs:SortedR C):delR C key=if isR C key i=true then C.take i++C.drop (i+1) else C:=by
 cases hk:isR C key i with
 | true=>
  obtain⟨hi,e⟩:=of_decide_eq_true hk
  rw[if_pos rfl]
  exact delR_at C key i hi (λj hj hji=>by have:=h.lo j hj hji;omega) e
 | false=>
  rw[if_neg (by decide)]
  refine delR_none C key λj hj=>?_
  rcases Nat.lt_or_ge j i with h1|h1
  ·have:=h.lo j hj h1;omega
  ·have:=h.up hs hk j hj h1;omega
theorem AtR.get{C:List Row}{key:Int}{i:Nat}(h:AtR C key i)(hs:SortedR C):(getR C key).isSome=isR C key i∧∀hi:i<C.length,C[i].key=key→getR C key=some C[i].val:=by
 have h2:∀hi:i<C.length,C[i].key=key→getR C key=some C[i].val:=λhi e=>by
  unfold getR
  have:C.find? (λc=>decide (c.key=key))=some C[i]:=by
   rw[List.find?_eq_some_iff_getElem]
   refine⟨by simpa using e,i,hi,rfl,λj hj=>?_⟩
   have:=h.lo j (by omega) hj
   simp;omega
  rw[this];rfl
 refine⟨?_,h2⟩
 cases hk:isR C key i with
 | true=>
  obtain⟨hi,e⟩:=of_decide_eq_true hk
  rw[h2 hi e];rfl
 | false=>
  unfold getR
  have:C.find? (λc=>decide (c.key=key))=none:=by
   rw[List.find?_eq_none]
   intro x hx
   obtain⟨j,hj,rfl⟩:=List.getElem_of_mem hx
   rcases Nat.lt_or_ge j i with h1|h1
   ·have:=h.lo j hj h1;simp;omega
   ·have:=h.up hs hk j hj h1;simp;omega
  rw[this];rfl
theorem filter_drop:∀(C:List Row) (key:Int) (k:Nat),(∀j (h:j<C.length),j<k→C[j].key≤key)→(∀j (h:j<C.length),k≤j→key<C[j].key)→C.filter (λr=>decide (key<r.key))=C.drop k
 | [],key,k,_,_=>by simp
 | x::C,key,0,_,h2=>by
  rw[List.drop_zero,List.filter_eq_self]
  intro y hy
  obtain⟨j,hj,rfl⟩:=List.getElem_of_mem hy
  exact decide_eq_true (h2 j hj (Nat.zero_le _))
 | x::C,key,k+1,h1,h2=>by
  have hx:x.key≤key:=h1 0 (by simp) (by omega)
  rw[List.filter_cons,if_neg (by simp;omega),List.drop_succ_cons]
  exact filter_drop C key k (λj h hj=>by have:=h1 (j+1) (by simpa using h) (by omega);simpa using this) (λj h hj=>by have:=h2 (j+1) (by simpa using h) (by omega);simpa using this)
theorem AtR.after{C:List Row}{key:Int}{i:Nat}(h:AtR C key i)(hs:SortedR C)(n:Int):afterR C key n=(C.drop (if isR C key i=true then i+1 else i)).take n.toNat:=by
 unfold afterR
 cases hk:isR C key i with
 | true=>
  obtain⟨hi,e⟩:=of_decide_eq_true hk
  rw[if_pos rfl,filter_drop C key (i+1) (λj hj hji=>?_) (λj hj hji=>h.gt hs j hj (by omega))]
  rcases Nat.lt_or_ge j i with h1|h1
  ·have:=h.lo j hj h1;omega
  ·obtain rfl:j=i:=by omega
   omega
 | false=>
  rw[if_neg (by decide),filter_drop C key i (λj hj hji=>by have:=h.lo j hj hji;omega) (λj hj hji=>h.up hs hk j hj hji)]
def putR(C:List Row)(l:List Row):List Row:=l.foldl insR C
theorem ins_end:∀(C:List Row) (r:Row),(∀x∈C,x.key<r.key)→insR C r=C++[r]
 | [],r,_=>rfl
 | x::C,r,h=>by
  unfold insR
  rw[if_pos (h x (.head _)),ins_end C r λy hy=>h y (.tail _ hy)];rfl
theorem putR_sorted:∀(l C:List Row),SortedR (C++l)→putR C l=C++l
 | [],C,_=>by simp[putR]
 | r::l,C,h=>by
  have h1:insR C r=C++[r]:=ins_end C r λx hx=>(List.pairwise_append.1 h).2.2 x hx r (.head _)
  show putR (insR C r) l=_
  rw[h1,putR_sorted l (C++[r]) (by simpa using h)];simp
theorem putR_nil{l:List Row}(h:SortedR l):putR [] l=l:=putR_sorted l [] h
theorem putR_sort:∀(l:List Row) {C:List Row},SortedR C→SortedR (putR C l)
 | [],C,h=>h
 | r::l,C,h=>putR_sort l (C:=insR C r) (sorted_insR h r)
theorem putR_len:∀(l:List Row) (C:List Row),(putR C l).length≤C.length+l.length
 | [],C=>by simp[putR]
 | r::l,C=>by
  have h1:=putR_len l (insR C r)
  have h2:=length_insR C r
  show (putR (insR C r) l).length≤_
  rw[List.length_cons];omega
theorem putR_take{l:List Row}{i:Nat}(h:i<l.length)(C:List Row):putR C (l.take (i+1))=insR (putR C (l.take i)) l[i]:=by
 unfold putR
 rw[List.take_succ_eq_append_getElem h,List.foldl_append];rfl
end Go.Proofs.YtfenmffiidchcaaGreat
