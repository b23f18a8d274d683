/-
  Texts of the proof, joined: Lib3, LawS, FldS3, SegS, SegS2, R01S, R01S2, BatchE, ItemR, BatchD, GuardS, WalS, WalS2, WalS3, WalS4, WalS5, WalS6, WalS7, WalS8, WalS9.
-/
import Derived.Test.YtnmhmnnadkclbaaGreatJ7
import Derived.ProofKit
import Derived.OpenShut
import Derived.SizedLaws
import Derived.Deep.Slices
import Derived.JoinedCond
import Derived.Test.YtnmhmnnadkclbaaGreatQVcM
import Derived.Test.YtnmhmnnadkclbaaGreatQVcG
import Derived.Test.YtnmhmnnadkclbaaGreatQVcL
namespace Go.Proofs.YtnmhmnnadkclbaaGreat
set_option linter.unusedVariables false
open Go.RowKit Go.ChangeShapes Go.WideShapes Go.ChangeAt
def tUnit:GoT Unit:=.plain 0 (λ_=>[]) (λ_=>rfl) (λ_ u hu=>by cases hu)
def tPair{α β:Type}(S:GoT α)(T:GoT β):GoT (α × β) where
 n:=S.n+T.n
 rd:=λw M x cs=>∃c1 c2,cs=c1++c2∧S.rd w M x.1 c1∧T.rd w M x.2 c2
 len:=λ⟨c1,c2,h,h1,h2⟩=>by rw[h,List.length_append,S.len h1,T.len h2]
 one:=λ⟨c1,c2,h,h1,h2⟩ u hu=>by
  subst h
  rcases List.mem_append.1 hu with hu|hu
  ·exact S.one h1 u hu
  ·exact T.one h2 u hu
 keep:=λ⟨c1,c2,h,h1,h2⟩ hf hM=>⟨c1,c2,h,S.keep h1 hf hM,T.keep h2 hf hM⟩
def GoT.via{α β:Type}(T:GoT α)(f:β→α):GoT β where
 n:=T.n
 rd:=λw M y cs=>T.rd w M (f y) cs
 len:=λh=>T.len h
 one:=λh=>T.one h
 keep:=λh=>T.keep h
def Small{H:Type}(P:Program)(t:TypeId)(d:DataW H):Prop:=(d.weights P t).all (·≤reachBytes)=true
def Opens{α:Type}(P:Program)(t:TypeId)(T:GoT α)(ok:α→Prop):Prop:=
 P.cellsOf t=T.n∧∀{H:Type} (enc:TypeId × Value→H) (w:World) (sp:Nat→Bool) (hd:Bool) (fuel:Nat) (cs:List Value) (x:DataW H × List MemPlace),
  DataW.trod enc P w 0 sp hd fuel t cs=some x→Small P t x.1→∃a,T.rd w Nob a cs∧ok a
def inK(k:IntKind)(n:Int):Prop:=(Lit.int k n).wf=true
theorem inK_i64{n:Int}(h:inK .i64 n): -9223372036854775808≤n∧n≤9223372036854775807:=by
 simpa [inK,Lit.wf,IntKind.min,IntKind.max,IntKind.signed,IntKind.bits] using h
theorem zu{P:Program}{t:TypeId}{k:IntKind}(ht:P.underlying t=some (.int k))(hc:P.cellsOf t=1):Opens P t (tInt k) (inK k):=
 ⟨hc,λenc w sp hd fuel cs x h _=>by
  obtain⟨n,rfl,rfl,hw⟩:=DataW.trod_int ht h
  exact⟨n,rfl,hw⟩⟩
theorem ZS{P:Program}{t:TypeId}(ht:P.underlying t=some .bool)(hc:P.cellsOf t=1):Opens P t tBool (λ_=>True):=
 ⟨hc,λenc w sp hd fuel cs x h _=>by
  obtain⟨n,rfl,rfl⟩:=DataW.trod_bool ht h
  exact⟨n,rfl,trivial⟩⟩
def okStr(s:ByteArray):Prop:=s.size≤140737488351232
theorem QA{P:Program}{t:TypeId}(ht:P.underlying t=some .string)(hc:P.cellsOf t=1):Opens P t tStr okStr:=
 ⟨hc,λenc w sp hd fuel cs x h hs=>by
  obtain⟨n,rfl,rfl,hw⟩:=DataW.trod_string ht h
  refine⟨n,rfl,?_⟩
  simp[Small,DataW.weights,reachBytes]at hs
  exact (of_decide_eq_true hs:n.size≤140737488351232)⟩
def okSlice{α:Type}(b:Nat)(ok:α→Prop)(xs:List α):Prop:=xs.length*b≤140737488351232∧∀x∈xs,ok x
theorem weightsAll_mem{H:Type}{P:Program}{e:TypeId}{n:Nat}:∀{l:List (DataW H)},(DataW.weightsAll P e l).all (·≤n)=true→∀d∈l,(d.weights P e).all (·≤n)=true
 | [],_,_,h=>by cases h
 | x::r,h,d,hd=>by
  simp only[DataW.weightsAll,List.all_append,Bool.and_eq_true]at h
  rcases List.mem_cons.1 hd with rfl|hd
  ·exact h.1
  ·exact weightsAll_mem h.2 d hd
theorem choose_list{α:Type}{p:Nat→α→Prop}:∀(n:Nat),(∀i,i<n→∃y,p i y)→∃ys:List α,ys.length=n∧∀i (h:i<ys.length),p i ys[i]
 | 0,_=>⟨[],rfl,λi h=>by simp at h⟩
 | n+1,h=>by
  obtain⟨ys,hl,hy⟩:=choose_list n (λi hi=>h i (by omega))
  obtain⟨y,hy'⟩:=h n (by omega)
  refine⟨ys++[y],by simp[hl],λi hi=>?_⟩
  by_cases hlt:i<ys.length
  ·rw[List.getElem_append_left hlt];exact hy i hlt
  ·have:i=n:=by simp at hi;omega
   subst this
   rw[List.getElem_append_right (by omega)]
   simpa [hl] using hy'
theorem opens_slice{α:Type}{P:Program}{t e:TypeId}{T:GoT α}{ok:α→Prop}{b:Nat}(h:Opens P e T ok)(ht:P.underlying t=some (.slice e))(hc:P.cellsOf t=1)(hb:P.bytesOf e=b)(hpos:0<T.n):Opens P t (tSlice T) (okSlice b ok):=by
 refine⟨hc,λenc w sp hd fuel cs x hx hs=>?_⟩
 rcases Go.Deep.open_slice ht hx with ⟨rfl,rfl⟩|⟨a,len,cap,m,n,D,Pl,rfl,_,hl,hm,hmm,rfl,hel⟩
 ·exact⟨[],⟨_,rfl,RdS.nil T w Nob⟩,by simp,λx hx=>by cases hx⟩
 ·have hle:len≤m:=by rw[hmm];split<;>omega
  simp only[Small,DataW.weights,ht,hb,List.all_cons,List.all_append,Bool.and_eq_true,decide_eq_true_eq,List.length_map,List.length_range]at hs
  have hel':∀i,i<len→∃y:α,ok y∧∃cs',T.rd w Nob y cs'∧At w Nob a.block (a.off+i*T.n) cs'∧a=⟨a.block,a.off,none⟩:=λi hi=>by
   obtain⟨cs',h1,h2⟩:=hel i (by omega)
   obtain⟨y,hy,hok⟩:=h.2 enc w sp hd n cs' _ h2 (weightsAll_mem hs.2.1 _ (List.mem_map.2 ⟨i,by simpa using hi,rfl⟩))
   obtain⟨_,hlen,hcell⟩:=World.cells?_some h1
   have hsp:a.spot=none:=by
    have h0:=hcell 0 (by rw[h.1];exact hpos)
    rw[List.getElem?_eq_getElem (by rw[hlen,h.1];exact hpos)]at h0
    cases hsp:a.spot with
    | none=>rfl
    | some q=>
     exfalso
     by_cases hi0:i*P.cellsOf e=0
     ·simp[Addr.add,hi0,World.cell?,hsp]at h0
      split at h0<;>cases h0
     ·have h00:=hel 0 (by omega)
      obtain⟨cs0,h10,_⟩:=h00
      obtain⟨_,hlen0,hcell0⟩:=World.cells?_some h10
      have h0':=hcell0 0 (by rw[h.1];exact hpos)
      rw[List.getElem?_eq_getElem (by rw[hlen0,h.1];exact hpos)]at h0'
      simp[Addr.add,World.cell?,hsp]at h0'
      split at h0'<;>cases h0'
   obtain⟨ab,ao,asp⟩:=a
   simp only at hsp
   subst hsp
   refine⟨y,hok,cs',hy,⟨λ_ x=>x,λj u hu=>?_⟩,rfl⟩
   have hj:=(List.getElem?_eq_some_iff.1 hu).1
   have:=hcell j (by omega)
   rw[Addr.add_lit,Addr.add_lit,hu,h.1]at this
   exact this
  obtain⟨ys,hyl,hy⟩:=choose_list len hel'
  subst hyl
  refine⟨ys,⟨_,rfl,some a,cap,rfl,hl,λi hi=>?_⟩,?_,λx hx=>?_⟩
  ·obtain⟨_,cs',h1,h2,h3⟩:=hy i hi
   exact⟨a.block,a.off,cs',congrArg some h3,h1,h2⟩
  ·have:=hs.1
   simp only[reachBytes]at this
   rw[Nat.add_mul]at this
   omega
  ·obtain⟨i,hi,rfl⟩:=List.getElem_of_mem hx
   exact (hy i hi).1
def FieldsOpen{α:Type}(P:Program)(fs:List Field)(o:Nat)(T:GoT α)(ok:α→Prop):Prop:=
 ∀{H:Type} (enc:TypeId × Value→H) (w:World) (sp:Nat→Bool) (hd:Bool) (n:Nat) (cs:List Value) (xs:List (DataW H × List MemPlace)),xs.length=fs.length →
  (∀(i:Nat) (f:Field),fs[i]?=some f→DataW.trod enc P w 0 sp hd n f.type ((cs.drop f.offset).take (P.cellsOf f.type))=xs[i]?) →
  (DataW.weightsEach P (fs.map (·.type)) (xs.map (·.1))).all (·≤reachBytes)=true→cs.length=o+T.n→∃a,T.rd w Nob a (cs.drop o)∧ok a
theorem fields_nil(P:Program)(o:Nat):FieldsOpen P [] o tUnit (λ_=>True):=λenc w sp hd n cs xs _ _ _ hl=>⟨(),by
 show cs.drop o=[]
 rw[List.drop_eq_nil_iff];have:tUnit.n=0:=rfl;omega,trivial⟩
theorem fields_cons{α β:Type}{P:Program}{f:Field}{fs:List Field}{o:Nat}{S:GoT α}{T:GoT β}{ok1:α→Prop}{ok2:β→Prop}(h1:Opens P f.type S ok1)(ho:f.offset=o)(h2:FieldsOpen P fs (o+S.n) T ok2):
  FieldsOpen P (f::fs) o (tPair S T) (λx=>ok1 x.1∧ok2 x.2):=λenc w sp hd n cs xs hl hx hs hc=>by
 match xs,hl with
 | y::ys,hl=>
  have hcn:(tPair S T).n=S.n+T.n:=rfl
  simp only[List.map_cons,DataW.weightsEach,List.all_append,Bool.and_eq_true]at hs
  have e0:=hx 0 f rfl
  rw[ho,h1.1]at e0
  obtain⟨a,ha,hoka⟩:=h1.2 enc w sp hd n _ y e0 hs.1
  obtain⟨b,hb,hokb⟩:=h2 enc w sp hd n cs ys (by simpa using hl) (λi g hg=>by simpa using hx (i+1) g (by simpa using hg)) hs.2 (by omega)
  refine⟨(a,b),⟨_,_,?_,ha,hb⟩,hoka,hokb⟩
  rw[← List.drop_drop]
  exact (List.take_append_drop _ _).symm
theorem zX{α:Type}{P:Program}{t:TypeId}{fs:Array Field}{T:GoT α}{ok:α→Prop}(ht:P.underlying t=some (.struct fs))(hc:P.cellsOf t=T.n)(h:FieldsOpen P fs.toList 0 T ok):Opens P t T ok:=
 ⟨hc,λenc w sp hd fuel cs x hx hs=>by
  obtain⟨xs,n,_,rfl,hl,hlen,hf⟩:=DataW.trod_struct ht hx
  simp only[Small,DataW.weights,ht]at hs
  obtain⟨a,ha,hok⟩:=h enc w sp hd n cs xs (by simpa using hlen) (λi f hi=>hf i f (by simpa using hi)) hs (by omega)
  exact⟨a,by simpa using ha,hok⟩⟩
theorem yw{α β:Type}{P:Program}{t:TypeId}{T:GoT α}{ok:α→Prop}(f:β→α)(g:α→β)(hg:∀a,f (g a)=a)(h:Opens P t T ok):Opens P t (T.via f) (λb=>ok (f b)):=
 ⟨h.1,λenc w sp hd fuel cs x hx hs=>by
  obtain⟨a,ha,hok⟩:=h.2 enc w sp hd fuel cs x hx hs
  exact⟨g a,by show T.rd w Nob (f (g a)) cs;rw[hg];exact ha,by show ok (f (g a));rw[hg];exact hok⟩⟩
theorem yH{α:Type}{P:Program}{t:TypeId}{T:GoT α}{ok ok':α→Prop}(h:Opens P t T ok)(hi:∀a,ok a→ok' a):Opens P t T ok':=
 ⟨h.1,λenc w sp hd fuel cs x hx hs=>let ⟨a,ha,hok⟩:=h.2 enc w sp hd fuel cs x hx hs;⟨a,ha,hi a hok⟩⟩
theorem trodAll_below{H:Type}{enc:TypeId × Value→H}{P:Program}(hl:laidOutB P=true){W W':World}(hb:Below W.heap.size W W'):∀{ts:List TypeId} {vs:List Value} {ds:List (DataW H)} {ps:List MemPlace},
  (∀t∈ts,P.readableRec t=true∧t<P.types.size)→DataW.TrodAll enc P W 0 (λ_=>true) true ts vs ds ps→(∀x∈ps,x.block<W.heap.size)→DataW.TrodAll enc P W' 0 (λb=>decide (b<W.heap.size)) true ts vs ds ps
 | [],_,_,_,_,h,_=>by
  obtain⟨rfl,rfl,rfl⟩:=trodAll_nil h
  exact trodAll_mk0
 | t::ts,_,_,_,hr,h,hlt=>by
  obtain⟨v,vs1,d,ds1,a,b,rfl,rfl,rfl,h1,h2⟩:=trodAll_cons h
  exact⟨a,b,Below.trod hl (hr t (by simp)).1 (hr t (by simp)).2 h1 hb (λx hx=>hlt x (by simp[hx])),trodAll_below hl hb (λt ht=>hr t (by simp[ht])) h2 (λx hx=>hlt x (by simp[hx])),rfl⟩
theorem law_post{H:Type}{enc:TypeId × Value→H}{P:Program}{f:Func}{s:ChangeSpec}{tb:TypeId}(hl:laidOutB P=true)(hr:∀t∈f.params.toList,P.readableRec t=true∧t<P.types.size)
  (hvars:s.vars=[]) (hres:f.resultTypes = #[tb]) (hb:P.underlying tb=some .bool) (hfn:∀ds:List (DataW H),ds.length=f.params.size→(s.fn H ds).results=[.lit (.bool true)]∧(s.fn H ds).args=ds∧(s.fn H ds).vars=[])
  {W W':World} {args:Array Value} {ds gs:List (DataW H)} {before:List MemPlace} (hW:DataW.Whole enc P f.params.toList s.vars false W args.toList ds gs before) (hbel:Below W.heap.size W W') :
  s.post enc P f false true false false W args (.bool true) W':=by
 have hlt:=hW.lt
 have hW':=hW
 obtain⟨p,q,hA,hV,rfl,hfz,_⟩:=hW
 rw[hvars]at hV
 obtain⟨rfl,rfl⟩:=trodVars_none hV
 have hlen:∀{ts:List TypeId} {vs:List Value} {ds:List (DataW H)} {ps:List MemPlace} {w:World} {base:Nat} {sp:Nat→Bool} {hd:Bool},DataW.TrodAll enc P w base sp hd ts vs ds ps→ds.length=ts.length:=by
  intro ts
  induction ts with
  | nil=>intro vs ds ps w base sp hd h;obtain⟨rfl,rfl,rfl⟩:=trodAll_nil h;rfl
  | cons t ts ih=>intro vs ds ps w base sp hd h;obtain⟨v,vs1,d,ds1,a,b,rfl,rfl,rfl,_,h2⟩:=trodAll_cons h;simp[ih h2]
 obtain⟨e1,e2,e3⟩:=hfn ds (by simpa using hlen hA)
 refine⟨ds,[],p++[],[],p,[],hW',?_,?_,?_,hbel.frame _,λh=>by cases h⟩
 ·rw[List.append_nil,e1,hres]
  exact trodAll_mk1 (shut_bool hb true)
 ·rw[List.append_nil,e2]
  exact trodAll_below hl hbel hr hA (λx hx=>hlt x (by simp[hx]))
 ·rw[List.append_nil,e3,hvars]
  rfl
def isFlat:Option TypeDesc→Bool
 | some .bool|some (.int _)|some .string|some (.slice _)=>true
 | _=>false
theorem flat_one{P:Program}{w:World}{r:Reach}{b0:Nat}{t:TypeId}{v:Value}(hf:isFlat (P.underlying t)=true)(hval:Value.okWide P w r b0 t v):v.cells.toList=[v]:=by
 unfold Value.okWide at hval
 cases hu:P.underlying t with
 | none=>rw[hu]at hf;cases hf
 | some d=>
  rw[hu]at hf hval
  cases d<;>first|(cases hf;done)|(unfold Cell.okWide Cell.ok at hval;rw[hu]at hval;cases v<;>first|rfl|(exfalso;simp_all))
theorem arg_one{α:Type}{P:Program}{t:TypeId}{T:GoT α}{ok:α→Prop}{H:Type}{enc:TypeId × Value→H}{W:World}{r:Reach}{b0:Nat}{v:Value}{d:DataW H}{ps:List MemPlace}{sp:Nat→Bool}{hd:Bool}
  (h:Opens P t T ok) (hf:isFlat (P.underlying t)=true) (hval:Value.okWide P W r b0 t v) (h0:DataW.Trod enc P W 0 sp hd t v d ps) (hs:Small P t d):∃a,T.rd W Nob a [v]∧ok a:=by
 obtain⟨fuel,hx⟩:=h0
 rw[flat_one hf hval]at hx
 exact h.2 enc W sp hd fuel [v] _ hx hs
theorem arg_agg{α:Type}{P:Program}{t:TypeId}{fs:Array Field}{T:GoT α}{ok:α→Prop}{H:Type}{enc:TypeId × Value→H}{W:World}{r:Reach}{b0:Nat}{v:Value}{d:DataW H}{ps:List MemPlace}{sp:Nat→Bool}{hd:Bool}
  (h:Opens P t T ok) (ht:P.underlying t=some (.struct fs)) (hval:Value.okWide P W r b0 t v) (h0:DataW.Trod enc P W 0 sp hd t v d ps) (hs:Small P t d):∃a cs,v= .agg cs∧T.rd W Nob a cs.toList∧ok a:=by
 obtain⟨fuel,hx⟩:=h0
 unfold Value.okWide at hval
 rw[ht]at hval
 obtain⟨cs,rfl,_⟩:=hval
 obtain⟨a,h1,h2⟩:=h.2 enc W sp hd fuel _ _ hx hs
 exact⟨a,cs,rfl,h1,h2⟩
end Go.Proofs.YtnmhmnnadkclbaaGreat
namespace Go.Proofs.YtnmhmnnadkclbaaGreat
set_option linter.unusedVariables false
open Go.RowKit
def LawS(P:Program)(f:FuncId)(args:List Value)(w:World):Prop:=yn P f args w λv w'=>v= .bool true∧Below w.heap.size w w'
theorem YH{P:Program}{f:FuncId}{args:List Value}{w:World}(h:Spec P f args [.mem (Heap.of w)] λv post=>v= .bool true∧∃H l,(Heap.of w).le H∧post= .mem H::l):LawS P f args w:=by
 refine (h w [] w (SL.init w)).mono ?_
 rintro v w' ⟨post,⟨rfl,H,l,hH,rfl⟩,hS⟩
 exact⟨rfl,hS.below (.hd) hH⟩
theorem LawS.calls{P:Program}{f:FuncId}{args:List Value}{w:World}(h:LawS P f args w):Calls P f args.toArray w λe w'=>e= .returned (.bool true)∧Below w.heap.size w w':=
 Calls.mono h λe w' ⟨v,he,hv,hb⟩=>⟨by rw[he,hv],hb⟩
theorem RdS.flat{α:Type}{T:GoT α}{enc:α→List Value}{w:World}{xs:List α}{v:Value}(h:RdS T w Nob xs v)(he:∀{M x cs},T.rd w M x cs→cs=enc x)(hn:∀x,(enc x).length=T.n):
  RdSl (Heap.of w) T.n v xs.length (xs.map enc).flatten:=by
 obtain⟨a,cap,rfl,hc,hx⟩:=h.out
 have hlen:(xs.map enc).flatten.length=xs.length*T.n:=by
  rw[flatten_length (n:=T.n) _ (λx hx=>by obtain⟨y,_,rfl⟩:=List.mem_map.1 hx;exact hn y),List.length_map]
 refine⟨hlen,a,cap,rfl,hc,?_⟩
 rcases Nat.eq_zero_or_pos xs.length with h0|h0
 ·exact .inl h0
 ·right
  obtain⟨b,off,_,rfl,_,_⟩:=hx 0 h0
  refine⟨b,off,rfl,λj u hu=>?_⟩
  have hj:=(List.getElem?_eq_some_iff.1 hu).1
  rcases Nat.eq_zero_or_pos T.n with hz|hz
  ·rw[hlen,hz]at hj;omega
  have hi:j / T.n<xs.length:=by rw[hlen]at hj;exact (Nat.div_lt_iff_lt_mul hz).2 hj
  obtain⟨b',off',cs,hab,hr,hat⟩:=hx (j / T.n) hi
  simp at hab
  obtain⟨rfl,rfl⟩:=hab
  have hcs:=he hr
  subst hcs
  have hmod:j % T.n<(enc xs[j / T.n]).length:=by rw[hn];exact Nat.mod_lt _ hz
  have hg:=flatten_get (n:=T.n) (xs.map enc) (λx hx=>by obtain⟨y,_,rfl⟩:=List.mem_map.1 hx;exact hn y) (j / T.n) (j % T.n) (by simpa using hi) ((enc xs[j / T.n])[j % T.n]'hmod) (by simp[List.getElem?_eq_getElem hmod])
  have hdm:j / T.n*T.n+j % T.n=j:=by rw[Nat.mul_comm];exact Nat.div_add_mod j T.n
  rw[hdm]at hg
  rw[hu]at hg
  have hu':u=(enc xs[j / T.n])[j % T.n]:=Option.some.inj hg
  have:=hat.2 (j % T.n) u (by rw[hu'];exact List.getElem?_eq_getElem hmod)
  rw[show off+j / T.n*T.n+j % T.n=off+j by omega]at this
  unfold World.cell? at this
  unfold Heap.cell Heap.of
  simp only at this ⊢
  split at this
  ·rename_i c t f he';rw[he'];simpa using this
  ·cases this
theorem flat_get{α:Type}{enc:α→List Value}{n:Nat}{xs:List α}(hn:∀x,(enc x).length=n){j i:Nat}(hj:j<xs.length){u:Value}(hu:(enc xs[j])[i]?=some u):((xs.map enc).flatten)[j*n+i]?=some u:=
 flatten_get (n:=n) (xs.map enc) (λx hx=>by obtain⟨y,_,rfl⟩:=List.mem_map.1 hx;exact hn y) j i (by simpa using hj) u (by simpa using hu)
set_option maxRecDepth 100000
structure Rdn(X:Chunk)(sz:Nat)(v:Value)(n:Nat)(cs:List Value):Prop where
 sl:∀{W w:World} {l:List Chunk},SL W l w→Has X l→∃a c,v= .slice a n c∧n≤c
 src:∀{W w:World} {l:List Chunk},SL W l w→Has X l→srcCells w sz v n cs
theorem Rdn.own{v:Value}{t:TypeId}{sz n:Nat}{cs:List Value}:Rdn (.ob (OwnSl v t sz n cs)) sz v n cs:=
 ⟨λh m=>by
  obtain⟨l2,r⟩:=m.rem
  rcases OwnSl.open (h.perm r.perm) with ⟨⟨a',rfl⟩,rfl,_,_⟩|⟨b',cap',rest,rfl,hc,_⟩
  ·exact⟨a',0,rfl,Nat.le_refl _⟩
  ·exact⟨_,_,rfl,hc⟩,λh m=>src_own h m⟩
theorem Rdn.pt{p n sz:Nat}{t:TypeId}{cs:List Value}(h:cs.length=n*sz):Rdn (.pt p cs t) sz (.slice (some ⟨p,0,none⟩) n n) n cs:=
 ⟨λ_ _=>⟨_,_,rfl,Nat.le_refl _⟩,λhS m=>src_pt0 hS m h⟩
section
variable {W w:World} {l:List Chunk} {X:Chunk} {v:Value} {sz n:Nat} {cs:List Value}
theorem Zk{K:Value→Prop}(hS:SL W l w)(m:Has X l)(hb:Rdn X sz v n cs)(k:K (.int .i64 n)):zg v K:=by
 obtain⟨a,c,rfl,_⟩:=hb.sl hS m
 exact yY k
theorem YT{α:Type}{enc:α→List Value}{xs:List α}{j:Nat}{kk:IntKind}{K:Value→Prop}(hS:SL W l w)(m:Has X l)(hb:Rdn X sz v n (xs.map enc).flatten)(he:∀x,(enc x).length=sz)(hsz:0<sz)(hx:xs.length=n)(hj:j<n)
  (hK:K (.agg (enc (xs[j]'(by omega))).toArray)):zj sz v (.int kk (j:Int)) λp=>zi sz p w K:=by
 obtain⟨a,c,rfl,hc⟩:=hb.sl hS m
 have hs:=hb.src hS m
 have hlen:(xs.map enc).flatten.length=n*sz:=by
  rw[← hx];clear hx hs hb hK hj hc
  induction xs with
  | nil=>simp
  | cons x xs ih=>simp[he,ih,Nat.add_mul];omega
 cases a with
 | none=>
  have e:(xs.map enc).flatten=[]:=hs.2
  have e2:(enc (xs[j]'(by omega))).length=0:=by
   rw[e]at hlen
   simp only[List.length_nil]at hlen
   rw[he]
   rcases Nat.eq_zero_or_pos sz with h|h
   ·exact h
   ·have:0<n*sz:=Nat.mul_pos (by omega) h
    omega
  rw[he]at e2;omega
 | some p=>
  refine⟨p,_,c,kk,j,rfl,rfl,hj,?_⟩
  refine⟨_,enc (xs[j]'(by omega)),rfl,he _,λi u hu=>?_,hK⟩
  rw[addr_add2]
  refine hs.2.2 (j*sz+i) u ?_
  exact flat_get he (by omega) hu
end
def EncQ(X:Chunk)(l:List PFd)(u:Value)(post:List Chunk):Prop:=match encFs l with
 | .error e=>u= .tuple #[.slice none 0 0,.int .i64 e]∧post=[X]
 | .ok b=>∃v,u= .tuple #[v,.int .i64 0]∧post=[.ob (OwnSl v 5 1 b.length (b.map u8c)),X]
theorem EncQ.er{X:Chunk}{l:List PFd}{e:Int}(h:encFs l= .error e):EncQ X l (.tuple #[.slice none 0 0,.int .i64 e]) [X]:=by
 unfold EncQ;rw[h];exact⟨rfl,rfl⟩
theorem EncQ.ok{X:Chunk}{l:List PFd}{b:List UInt8}(h:encFs l= .ok b)(v:Value):EncQ X l (.tuple #[v,.int .i64 0]) [.ob (OwnSl v 5 1 b.length (b.map u8c)),X]:=by
 unfold EncQ;rw[h];exact⟨v,rfl,rfl⟩
theorem encF_len{x:PFd}(h:rightF x=true):(encF x).length≤5000:=by
 unfold encF
 unfold rightF at h
 by_cases h1:x.kind=1
 ·rw[if_pos h1];simp[numB_len]
 ·rw[if_neg h1]at h ⊢
  by_cases h2:x.kind=2
  ·rw[if_pos h2]at h
   have h3:x.s.size≤4096:=by
    rw[Bool.and_eq_true]at h
    exact of_decide_eq_true h.2
   have:x.s.data.toList.length=x.s.size:=rfl
   simp only[List.length_cons,List.length_append,numB_len];omega
  ·rw[if_neg h2]at h;cases h
theorem encFl_len:∀{l:List PFd},l.all rightF=true→(l.map encF).flatten.length≤l.length*5000
 | [],_=>by simp
 | x::l,h=>by
  rw[List.all_cons,Bool.and_eq_true]at h
  have h1:=encF_len h.1
  have h2:=encFl_len h.2
  simp only[List.map_cons,List.flatten_cons,List.length_append,List.length_cons];omega
theorem Zy(X:Chunk)(v:Value)(xs:List PFd)(hx:Rdn X 3 v xs.length (xs.map fdcells).flatten)(hN:xs.length≤140737488355328):SP 183 [v] [X] (EncQ X xs):=by
 intro W F w hS;apply vc183;unfold Vc183;(try simp only[app]at hS)
 refine Zk hS .hd hx ?_
 repeat first|refine Gp ?_|refine Gw λw hS=>?_|refine Gb λb w hS=>?_
 refine ze (λh=>?_) (λh=>?_)
 ·exact⟨_,.er (by unfold encFs;rw[if_pos (by omega)]),hS⟩
 ·refine Zk hS .hd hx ?_
  refine zR ?_
  rw[wrap_u64 (by omega) (by omega)]
  have hS:=OwnSl.nil (t:=5) (sz:=1) hS
  have hS:SL W (.ob (OwnSl (.slice none 0 0) 5 1 ([]:List UInt8).length (([]:List UInt8).map u8c))::X::F) w:=hS
  (apply zd (Zt [] (.slice none 0 0) xs.length 2 (by omega) (by simp)) hS;exact Xp;clear hS)
  rintro v13 post rfl w hS;(try simp only[app]at hS)
  rw[List.nil_append]at hS
  refine Zk hS Xh hx ?_
  have hb:∀i,i≤xs.length→(xs.take i).all rightF=true→(numB xs.length 2++((xs.take i).map encF).flatten).length≤200000000:=λi hi ha=>by
   have:=encFl_len ha
   rw[List.length_append,numB_len]
   rw[List.length_take]at this
   omega
  refine⟨λvs w=>∃(i:Nat) (u:Value),i≤xs.length∧vs=[u,.int .i64 i]∧(xs.take i).all rightF=true∧SL W (.ob (OwnSl u 5 1 (numB xs.length 2++((xs.take i).map encF).flatten).length ((numB xs.length 2++((xs.take i).map encF).flatten).map u8c))::X::F) w,λvs _=>match vs with
   | [_,.int _ i]=>xs.length-i.toNat
   | _=>0,⟨0,v13,by omega,rfl,rfl,(by simpa using hS)⟩,?_⟩
  clear hS
  rintro u1 u2 w1 ⟨i,u,hi,hv,ha,hS⟩
  cases hv
  have hbi:=hb i hi ha
  repeat first|refine Gp ?_|refine Gw λw hS=>?_|refine Gb λb w hS=>?_
  refine ze (λh=>?_) (λh=>?_)
  ·have hi:i<xs.length:=by omega
   refine YT hS Xh hx fdcells_len (by omega) rfl hi ?_
   have hxi:xs[i]∈xs:=List.getElem_mem hi
   have htk:xs.take (i+1)=xs.take i++[xs[i]]:=by rw[List.take_add_one];simp[hi]
   generalize xs[i]=x at *
   unfold fdcells
   repeat first|refine Gp ?_|refine Gw λw hS=>?_|refine Gb λb w hS=>?_
   (apply zd (YG x) hS;exact Xp;clear hS)
   rintro v post ⟨rfl,rfl⟩ w hS;(try simp only[app]at hS)
   refine yA ?_
   cases hr:rightF x with
   | false=>
    refine zy ?_
    refine⟨[X],.er ?_,SL.into hS Xi⟩
    unfold encFs
    rw[if_neg (by omega),if_neg]
    intro h
    have:=List.all_eq_true.1 h x hxi
    rw[hr]at this;cases this
   | true=>
    refine zr ?_
    have ha2:(xs.take (i+1)).all rightF=true:=by rw[htk,List.all_append,ha];simp[hr]
    have hb2:=hb (i+1) (by omega) ha2
    have hen:((xs.take (i+1)).map encF).flatten=((xs.take i).map encF).flatten++encF x:=by rw[htk];simp
    rw[hen]at hb2
    rw[List.length_append,List.length_append]at hb2
    have hk:x.kind=1∨x.kind=2:=by
     unfold rightF at hr
     by_cases h1:x.kind=1
     ·exact .inl h1
     ·rw[if_neg h1]at hr
      by_cases h2:x.kind=2
      ·exact .inr h2
      ·rw[if_neg h2]at hr;cases hr
    generalize hc:numB xs.length 2++((xs.take i).map encF).flatten=c at *
    have hcl:c.length+(encF x).length≤200000000:=by rw[← hc,List.length_append];omega
    repeat first|refine Gp ?_|refine Gw λw hS=>?_|refine Gb λb w hS=>?_
    refine zR ?_
    rw[wrap_u8]
    refine zD (cells:=[u8c (lowB x.kind)]) hS rfl ?_
    clear hS;intro p w hS
    refine zw (m:=1) (cs:=[u8c (lowB x.kind)]) hS Xr (src_pt0 hS .hd rfl) rfl rfl (by intro v hv;simp only[List.mem_singleton]at hv;subst hv;rfl) (by omega) (by omega) ?_
    clear hS;intro u' w hS
    repeat first|refine Gp ?_|refine Gw λw hS=>?_|refine Gb λb w hS=>?_
    have hS:SL W (.ob (OwnSl u' 5 1 (c++[lowB x.kind]).length ((c++[lowB x.kind]).map u8c))::.pt b [.int .i64 x.kind,.int .i64 x.n,.string x.s] 165::X::F) w:=by
     simp only[List.length_append,List.length_cons,List.length_nil,List.map_append,List.map_cons,List.map_nil]
     exact SL.into hS Xi
    refine ze (λh1=>?_) (λh1=>?_)
    ·repeat first|refine Gp ?_|refine Gw λw hS=>?_|refine Gb λb w hS=>?_
     refine zR ?_
     have eu:IntKind.u64.wrap x.n=unsig x.n:=rfl
     rw[eu]
     (apply zd (Zt (c++[lowB x.kind]) u' (unsig x.n) 8 (by omega) (by simp;omega)) hS;exact Xp;clear hS)
     rintro v36 post rfl w hS;(try simp only[app]at hS)
     repeat first|refine Gp ?_|refine Gw λw hS=>?_|refine Gb λb w hS=>?_
     refine⟨⟨i+1,v36,by omega,rfl,ha2,?_⟩,?_⟩
     ·have e:numB xs.length 2++((xs.take (i+1)).map encF).flatten=c++[lowB x.kind]++numB (unsig x.n) 8:=by
       rw[hen,← List.append_assoc,hc]
       have:encF x=lowB x.kind::numB (unsig x.n) 8:=by unfold encF;rw[if_pos h1]
       rw[this];simp
      rw[e]
      exact SL.into hS Xi
     ·simp only[Int.toNat_natCast];omega
    ·have hsz:x.s.size≤4096:=by
      unfold rightF at hr
      rw[if_neg h1,if_pos (by omega),Bool.and_eq_true]at hr
      exact of_decide_eq_true hr.2
     have hef:encF x=lowB x.kind::(numB x.s.size 2++x.s.data.toList):=by unfold encF;rw[if_neg h1]
     repeat first|refine Gp ?_|refine Gw λw hS=>?_|refine Gb λb w hS=>?_
     refine zR ?_
     rw[wrap_u64 (by omega) (by omega)]
     repeat first|refine Gp ?_|refine Gw λw hS=>?_|refine Gb λb w hS=>?_
     (apply zd (Zt (c++[lowB x.kind]) u' x.s.size 2 (by omega) (by simp;omega)) hS;exact Xp;clear hS)
     rintro v42 post rfl w hS;(try simp only[app]at hS)
     repeat first|refine Gp ?_|refine Gw λw hS=>?_|refine Gb λb w hS=>?_
     have hsl:x.s.data.toList.length=x.s.size:=rfl
     have hel:(encF x).length=1+(2+x.s.size):=by rw[hef];simp only[List.length_cons,List.length_append,numB_len];omega
     refine zw (m:=x.s.size) (cs:=x.s.data.toList.map u8c) hS Xr src_str (by simp) rfl (u8c_one _) (by simp only[List.length_append,List.length_cons,List.length_nil,numB_len];omega) (by simp only[List.length_append,List.length_cons,List.length_nil,numB_len];omega) ?_
     clear hS;intro v45 w hS
     repeat first|refine Gp ?_|refine Gw λw hS=>?_|refine Gb λb w hS=>?_
     refine⟨⟨i+1,v45,by omega,rfl,ha2,?_⟩,?_⟩
     ·have e:numB xs.length 2++((xs.take (i+1)).map encF).flatten=(c++[lowB x.kind]++numB x.s.size 2)++x.s.data.toList:=by
       rw[hen,← List.append_assoc,hc,hef];simp
      rw[e]
      generalize c++[lowB x.kind]++numB x.s.size 2=A at *
      rw[List.length_append,List.map_append,hsl]
      exact SL.into hS Xi
     ·simp only[Int.toNat_natCast];omega
  ·obtain rfl:i=xs.length:=by omega
   rw[List.take_length]at hS ha
   exact⟨_,.ok (by unfold encFs;rw[if_neg (by omega),if_pos ha]) u1,hS⟩
abbrev BEnt:=Value × List UInt8
def BEntO(x:BEnt):zG:=OwnSl x.1 5 1 x.2.length (x.2.map u8c)
def vals(es:List BEnt):List Value:=es.map Prod.fst
def byts(es:List BEnt):List (List UInt8):=es.map Prod.snd
def ScanQ(X:Chunk)(q:List UInt8)(r:Value)(post:List Chunk):Prop:=∃(u:Value) (es:List BEnt),byts es=(scanA q).1∧r= .tuple #[u,.int .i64 ((scanA q).2:Nat)]∧post=[.ob (OwnSl u 54 1 es.length (vals es)),.ob (zh BEntO es),X]
theorem QF(X:Chunk)(v:Value)(q:List UInt8)(hq:Rdb X v q)(hN:q.length≤10000000000):SP 243 [v] [X] (ScanQ X q):=by
 intro W F w hS;apply vc243;unfold Vc243;(try simp only[app]at hS)
 have hS:=OwnSl.nil (t:=54) (sz:=1) (zh.nil (A:=BEntO) hS)
 refine⟨λvs w=>∃(u:Value) (es:List BEnt) (at_:Nat),vs=[u,.int .i64 at_]∧at_≤q.length∧es.length*8≤at_∧byts es++(scanA (q.drop at_)).1=(scanA q).1∧at_+(scanA (q.drop at_)).2=(scanA q).2 ∧
   SL W (.ob (OwnSl u 54 1 es.length (vals es))::.ob (zh BEntO es)::X::F) w,λvs _=>match vs with
  | [_,.int _ i]=>q.length-i.toNat
  | _=>0,⟨_,[],0,rfl,Nat.zero_le _,Nat.le_refl _,rfl,by simp,hS⟩,?_⟩
 clear hS
 rintro u1 u2 w1 ⟨u,es,i,hv,hi,h8,h1,h2,hS⟩
 cases hv
 refine Yo hS Xh hq hi ?_
 intro v12 h12
 (apply zd (Qo X v12 (q.drop i) h12 (by rw[List.length_drop];omega)) hS;exact Xp;clear hS)
 intro v13 post hQ w hS
 unfold TakeQ at hQ
 cases ht:takeR (q.drop i) with
 | error e=>
  rw[ht]at hQ
  obtain⟨rfl,rfl⟩:=hQ
  (try simp only[app]at hS)
  repeat first|refine Gp ?_|refine Gw λw hS=>?_|refine Gb λb w hS=>?_
  have he:=takeR_err ht
  rw[scanA_er ht]at h1 h2
  refine ze (λ_=>?_) (λh=>by omega)
  refine⟨_,⟨u1,es,by simpa using h1,?_,rfl⟩,SL.into hS Xi⟩
  rw[← h2];rfl
 | ok x=>
  obtain⟨p,n⟩:=x
  rw[ht]at hQ
  obtain⟨y,rfl,rfl⟩:=hQ
  (try simp only[app]at hS)
  repeat first|refine Gp ?_|refine Gw λw hS=>?_|refine Gb λb w hS=>?_
  have hl:=takeR_len ht
  rw[scanA_ok ht]at h1 h2
  rw[List.length_drop]at hl
  refine ze (λh=>absurd rfl h) (λ_=>?_)
  have hone:=hS.ownOne .hd
  obtain⟨ay,cy,ey,_⟩:=OwnSl.at hS .hd
  subst ey
  refine zD (cells:=[.slice ay p.length cy]) hS rfl ?_
  clear hS;intro b w hS
  refine zw (m:=1) (cs:=[.slice ay p.length cy]) hS Xr (src_pt0 hS .hd rfl) rfl rfl (by intro v hv;simp only[List.mem_singleton]at hv;subst hv;rfl) (by omega) (by omega) ?_
  clear hS;intro u' w hS
  have hS:=zh.snoc (A:=BEntO) (xs:=es) (x:=(.slice ay p.length cy,p)) (SL.into hS (t:=.ob (zh BEntO es)::.ob (OwnSl (.slice ay p.length cy) 5 1 p.length (p.map u8c))::.ob (OwnSl u' 54 1 (es.length+1) (vals es++[.slice ay p.length cy]))::X::F) Xi)
  refine yd (a:=i) (b:=n) (by omega) ?_
  refine⟨⟨u',es++[(.slice ay p.length cy,p)],i+n,rfl,by omega,by simp;omega,?_,?_,?_⟩,?_⟩
  ·rw[← h1,← List.drop_drop];simp[byts]
  ·rw[← h2,← List.drop_drop];simp only;omega
  ·rw[show (es++[((Value.slice ay p.length cy,p):BEnt)]).length=es.length+1 by simp,show vals (es++[((Value.slice ay p.length cy,p):BEnt)])=vals es++[.slice ay p.length cy] by simp[vals]]
   exact SL.into hS Xi
  ·simp only[Int.toNat_natCast];omega
theorem encFs_hd{n:Nat}(h:n≤1099511627776):encFs [⟨1,n,⟨#[]⟩⟩]= .ok (hdB n):=by
 have e:unsig (n:Int)=(n:Int):=by unfold unsig;omega
 unfold encFs
 rw[if_neg (by simp),if_pos (by simp[rightF])]
 show Except.ok (numB ((1:Nat):Int) 2++(encF ⟨1,n,⟨#[]⟩⟩++[]))=_
 unfold encF
 rw[if_pos rfl,e]
 show Except.ok ([lowB ((1:Int).fdiv (2 ^ (8*1))),lowB ((1:Int).fdiv (2 ^ (8*0)))]++(lowB 1::numB n 8++[]))=_
 rw[List.append_nil]
 rfl
def HeadQ(n:Int)(r:Value)(post:List Chunk):Prop:=if n<1∨1099511627776<n then r= .tuple #[.slice none 0 0,.int .i64 1]∧post=[] else ∃u,r= .tuple #[u,.int .i64 0]∧post=[.ob (OwnSl u 5 1 (recB (hdB n.toNat)).length ((recB (hdB n.toNat)).map u8c))]
theorem Yv(n:Int):SP 253 [.int .i64 n] [] (HeadQ n):=by
 intro W F w hS;apply vc253;unfold Vc253;(try simp only[app]at hS)
 unfold HeadQ
 repeat first|refine Gp ?_|refine Gw λw hS=>?_|refine Gb λb w hS=>?_
 refine ze (λh=>?_) (λh=>?_)
 ·exact⟨[],by rw[if_pos (.inl h)];exact⟨rfl,rfl⟩,hS⟩
 ·repeat first|refine Gp ?_|refine Gw λw hS=>?_|refine Gb λb w hS=>?_
  refine ze (λh2=>?_) (λh2=>?_)
  ·exact⟨[],by rw[if_pos (.inr h2)];exact⟨rfl,rfl⟩,hS⟩
  ·obtain⟨k,rfl⟩:=Int.eq_ofNat_of_zero_le (show 0≤n by omega)
   have hx:=encFs_hd (n:=k) (by omega)
   refine ZW (cells:=fdcells ⟨1,k,⟨#[]⟩⟩) rfl ?_
   refine zD (cells:=fdcells ⟨1,k,⟨#[]⟩⟩) hS rfl ?_
   clear hS;intro p w hS
   (apply zd (Zy (.pt p (fdcells ⟨1,k,⟨#[]⟩⟩) 165) _ [⟨1,k,⟨#[]⟩⟩] (Rdn.pt rfl) (by simp)) hS;exact Xp;clear hS)
   intro v post hQ w hS
   unfold EncQ at hQ
   rw[hx]at hQ
   obtain⟨u,rfl,rfl⟩:=hQ
   (try simp only[app]at hS)
   repeat first|refine Gp ?_|refine Gw λw hS=>?_|refine Gb λb w hS=>?_
   refine ze (λh=>absurd rfl h) (λ_=>?_)
   (apply zd (Y8 (.ob (OwnSl u 5 1 (hdB k).length ((hdB k).map u8c))) u (hdB k) Rdb.own (by rw[hdB_len];omega)) hS;exact Xp;clear hS)
   intro v post hQ w hS
   unfold PutQ at hQ
   rw[if_neg (by rw[hdB_len];omega)]at hQ
   obtain⟨y,rfl,rfl⟩:=hQ
   (try simp only[app]at hS)
   repeat first|refine Gp ?_|refine Gw λw hS=>?_|refine Gb λb w hS=>?_
   refine⟨[.ob (OwnSl y 5 1 (recB (hdB k)).length ((recB (hdB k)).map u8c))],?_,SL.into hS Xi⟩
   rw[if_neg (by omega)]
   exact⟨y,rfl,rfl⟩
abbrev SRdX(rp:Nat)(lv:Value)(n f:Int)(es:List BEnt):List Chunk:=[.pt rp [lv,.int .i64 n,.int .i64 f] 335,.ob (OwnSl lv 54 1 es.length (vals es)),.ob (zh BEntO es)]
def hdR(es:List BEnt):Option Int:=match es with
 | []=>none
 | e::_=>hdOf e.2
theorem ZM(rp:Nat)(lv:Value)(n f:Int)(es:List BEnt):SP 244 [.pointer (some ⟨rp,0,none⟩)] (SRdX rp lv n f es) (Gives (.bool (hdR es).isSome) (SRdX rp lv n ((hdR es).getD f) es)):=by
 intro W F w hS;apply vc244;unfold Vc244;(try simp only[app]at hS)
 repeat first|refine Gp ?_|refine Gw λw hS=>?_|refine Gb λb w hS=>?_
 refine zE hS (t:=54) (sz:=1) (n:=es.length) (cells:=vals es) Xh ?_
 repeat first|refine Gp ?_|refine Gw λw hS=>?_|refine Gb λb w hS=>?_
 refine ze (λh=>?_) (λh=>?_)
 ·have:es=[]:=List.eq_nil_of_length_eq_zero (by omega)
  subst this
  exact⟨_,⟨rfl,rfl⟩,hS⟩
 ·obtain⟨e,es,rfl⟩:∃e es',es=e::es':=by
   cases es with
   | nil=>simp at h
   | cons e es'=>exact⟨e,es',rfl⟩
  repeat first|refine Gp ?_|refine Gw λw hS=>?_|refine Gb λb w hS=>?_
  refine yI (j:=0) hS (t:=54) (n:=(e::es).length) (cells:=vals (e::es)) Xh (by simp) (u:=e.1) rfl ?_
  have hS:=zh.take (t:=0) (x:=e) (SL.into hS (t:=.ob (zh BEntO (e::es))::.pt rp [lv,.int .i64 n,.int .i64 f] 335::.ob (OwnSl lv 54 1 (e::es).length (vals (e::es)))::F) Xi) rfl
  have hback:∀{w:World} {k:Int},SL W (.ob (BEntO e)::.ob (zh BEntO ((e::es).eraseIdx 0))::.pt rp [lv,.int .i64 n,.int .i64 k] 335::.ob (OwnSl lv 54 1 (e::es).length (vals (e::es)))::F) w →
    SL W (.pt rp [lv,.int .i64 n,.int .i64 k] 335::.ob (OwnSl lv 54 1 (e::es).length (vals (e::es)))::.ob (zh BEntO (e::es))::F) w:=λ{w k} h=>by
   have h2:SL W (.ob (zh BEntO (e::es))::.pt rp [lv,.int .i64 n,.int .i64 k] 335::.ob (OwnSl lv 54 1 (e::es).length (vals (e::es)))::F) w:=zh.put h (by simp)
   exact SL.into h2 Xi
  have hR:Rdb (.ob (BEntO e)) e.1 e.2:=Rdb.own
  (apply zd (Zw (.ob (BEntO e)) e.1 e.2 hR) hS;exact Xp;clear hS)
  intro v post hQ w hS
  unfold DecQ at hQ
  have hh:hdR (e::es)=hdOf e.2:=rfl
  rw[hh]
  unfold hdOf
  cases hd:decF e.2 with
  | error k=>
   rw[hd]at hQ
   obtain⟨rfl,rfl⟩:=hQ
   (try simp only[app]at hS)
   repeat first|refine Gp ?_|refine Gw λw hS=>?_|refine Gb λb w hS=>?_
   have hk:k≠0:=by
    intro hk
    rw[decF_eq]at hd
    split at hd
    ·cases hd
    ·rename_i h0
     cases hd;exact h0 hk
   refine ze (λ_=>?_) (λh=>absurd hk h)
   exact⟨_,⟨rfl,rfl⟩,hback hS⟩
  | ok l=>
   rw[hd]at hQ
   obtain⟨y,rfl,rfl⟩:=hQ
   (try simp only[app]at hS)
   repeat first|refine Gp ?_|refine Gw λw hS=>?_|refine Gb λb w hS=>?_
   refine ze (λh=>absurd rfl h) (λ_=>?_)
   refine zE hS (t:=165) (sz:=3) (n:=l.length) (cells:=(l.map fdcells).flatten) Xh ?_
   repeat first|refine Gp ?_|refine Gw λw hS=>?_|refine Gb λb w hS=>?_
   refine ze (λh1=>?_) (λh1=>?_)
   ·have:hdF l=none:=by
     match l,h1 with
     | [],_=>rfl
     | [x],h1=>simp at h1
     | _::_::_,_=>rfl
    simp only[this]
    exact⟨_,⟨rfl,rfl⟩,hback (k:=f) (SL.into hS Xi)⟩
   ·obtain⟨x,rfl⟩:∃x,l=[x]:=List.length_eq_one_iff.1 (by omega)
    have hx:hdF [x]=if x.kind=1∧1≤x.n∧x.n≤1099511627776 then some x.n else none:=rfl
    simp only[hx]
    refine zQ (j:=0) (i:=0) (x:=x) (xs:=[x]) hS (t:=165) (sz:=3) (n:=1) Xh fdcells_len rfl (by omega) (u:=.int .i64 x.kind) rfl ?_
    repeat first|refine Gp ?_|refine Gw λw hS=>?_|refine Gb λb w hS=>?_
    refine ze (λh2=>?_) (λh2=>?_)
    ·rw[if_neg (by omega)]
     exact⟨_,⟨rfl,rfl⟩,hback (k:=f) (SL.into hS Xi)⟩
    ·refine zQ (j:=0) (i:=1) (x:=x) (xs:=[x]) hS (t:=165) (sz:=3) (n:=1) Xh fdcells_len rfl (by omega) (u:=.int .i64 x.n) rfl ?_
     repeat first|refine Gp ?_|refine Gw λw hS=>?_|refine Gb λb w hS=>?_
     refine ze (λh3=>?_) (λh3=>?_)
     ·rw[if_neg (by omega)]
      exact⟨_,⟨rfl,rfl⟩,hback (k:=f) (SL.into hS Xi)⟩
     ·refine zQ (j:=0) (i:=1) (x:=x) (xs:=[x]) hS (t:=165) (sz:=3) (n:=1) Xh fdcells_len rfl (by omega) (u:=.int .i64 x.n) rfl ?_
      repeat first|refine Gp ?_|refine Gw λw hS=>?_|refine Gb λb w hS=>?_
      refine ze (λh4=>?_) (λh4=>?_)
      ·rw[if_neg (by omega)]
       exact⟨_,⟨rfl,rfl⟩,hback (k:=f) (SL.into hS Xi)⟩
      ·rw[if_pos ⟨by omega,by omega,by omega⟩]
       refine zQ (j:=0) (i:=1) (x:=x) (xs:=[x]) hS (t:=165) (sz:=3) (n:=1) Xh fdcells_len rfl (by omega) (u:=.int .i64 x.n) rfl ?_
       repeat first|refine Gp ?_|refine Gw λw hS=>?_|refine Gb λb w hS=>?_
       exact⟨_,⟨rfl,rfl⟩,hback (k:=x.n) (SL.into hS Xi)⟩
def ReadQ2(X:Chunk)(q:List UInt8)(r:Value)(post:List Chunk):Prop:=match readS q with
 | none=>r= .tuple #[.int .i64 0,.slice none 0 0,.int .i64 0,.int .i64 3]∧post=[X]
 | some (f,l,n)=>∃(u:Value) (es:List BEnt),byts es=l∧r= .tuple #[.int .i64 f,u,.int .i64 (n:Nat),.int .i64 0]∧post=[.ob (OwnSo u 54 1 es.length (vals es)),.ob (zh BEntO es),X]
def readE(es:List BEnt)(n:Nat):Option (Int × List (List UInt8) × Nat):=match es with
 | []=>none
 | e::es'=>(hdOf e.2).map λk=>(k,byts es',n)
theorem readS_es{q:List UInt8}{es:List BEnt}(he:byts es=(scanA q).1):readS q=readE es (scanA q).2:=by
 unfold readS
 rw[← he]
 cases es with
 | nil=>rfl
 | cons e es=>rfl
theorem Yx(X:Chunk)(v:Value)(q:List UInt8)(hq:Rdb X v q)(hN:q.length≤10000000000):SP 211 [v] [X] (ReadQ2 X q):=by
 intro W F w hS;apply vc211;unfold Vc211;(try simp only[app]at hS)
 (apply zd (QF X v q hq hN) hS;exact Xp;clear hS)
 rintro r post ⟨u,es,he,rfl,rfl⟩ w hS;(try simp only[app]at hS)
 have hone:=hS.ownOne .hd
 obtain⟨au,cu,eu,_⟩:=OwnSl.at hS .hd
 subst eu
 repeat first|refine Gp ?_|refine Gw λw hS=>?_|refine Gb λb w hS=>?_
 refine⟨_,rfl,zJ hS ?_⟩
 clear hS;intro rp w hS
 have hS:SL W (.pt rp [.slice au es.length cu,.int .i64 ((scanA q).2:Nat),.int .i64 0] 335::.ob (OwnSl (.slice au es.length cu) 54 1 es.length (vals es))::.ob (zh BEntO es)::X::F) w:=hS
 (apply zd (ZM rp (.slice au es.length cu) ((scanA q).2:Nat) 0 es) hS;exact Xp;clear hS)
 rintro v post ⟨rfl,rfl⟩ w hS;(try simp only[app]at hS)
 refine yA ?_
 have hr:=readS_es he
 cases hd:hdR es with
 | none=>
  refine zy ?_
  refine⟨[X],?_,SL.into hS Xi⟩
  unfold ReadQ2
  have:readS q=none:=by
   rw[hr]
   cases es with
   | nil=>rfl
   | cons e es=>have hd:hdOf e.2=none:=hd;show (hdOf e.2).map _=none;rw[hd];rfl
  rw[this];exact⟨rfl,rfl⟩
 | some k=>
  refine zr ?_
  cases es with
  | nil=>cases hd
  | cons e es=>
   have hd:hdOf e.2=some k:=hd
   have hr:readS q=some (k,byts es,(scanA q).2):=by
    rw[hr];show (hdOf e.2).map _=_;rw[hd];rfl
   rw[show (hdR (e::es)).getD 0=k by show (hdOf e.2).getD 0=k;rw[hd];rfl]at hS
   repeat first|refine Gp ?_|refine Gw λw hS=>?_|refine Gb λb w hS=>?_
   have hS:=zh.take (t:=0) (x:=e) (SL.into hS (t:=.ob (zh BEntO (e::es))::.pt rp [.slice au (e::es).length cu,.int .i64 ((scanA q).2:Nat),.int .i64 k] 335::.ob (OwnSl (.slice au (e::es).length cu) 54 1 (e::es).length (vals (e::es)))::X::F) Xi) rfl
   have hS:=OwnSo.of (SL.into hS (t:=.ob (OwnSl (.slice au (e::es).length cu) 54 1 (e::es).length (vals (e::es)))::.pt rp [.slice au (e::es).length cu,.int .i64 ((scanA q).2:Nat),.int .i64 k] 335::.ob (zh BEntO ((e::es).eraseIdx 0))::X::F) Xi)
   refine Yp (k:=1) hS (by simp) ?_
   clear hS;intro y hS
   have e1:(e::es).length-1=es.length:=by simp
   have e2:(vals (e::es)).drop (1*1)=vals es:=rfl
   have e3:(e::es).eraseIdx 0=es:=rfl
   rw[e1,e2,e3]at hS
   repeat first|refine Gp ?_|refine Gw λw hS=>?_|refine Gb λb w hS=>?_
   refine⟨[.ob (OwnSo y 54 1 es.length (vals es)),.ob (zh BEntO es),X],?_,SL.into hS Xi⟩
   unfold ReadQ2
   rw[hr]
   exact⟨y,es,rfl,rfl,rfl⟩
theorem y2(X:Chunk)(s:Int)(v:Value)(b:List UInt8)(hb:Rdb X v b)(hN:b.length≤140737488355328):SP 209 [.int .u32 s,v] [X] (Gives (.int .u32 (moreC s b)) [X]):=by
 intro W F w hS;apply vc209;unfold Vc209;(try simp only[app]at hS)
 refine ZF ?_
 refine⟨λvs w=>∃i:Nat,i≤b.length∧vs=[.int .u32 ((b.take i).foldl stepC (cpl32 s)),.int .i64 i]∧SL W (X::F) w,λvs _=>match vs with
  | [_,.int _ i]=>b.length-i.toNat
  | _=>0,⟨0,by omega,rfl,hS⟩,?_⟩
 clear hS
 rintro v1 v2 w1 ⟨i,hi,hv,hS⟩
 cases hv
 refine zN hS .hd hb ?_
 repeat first|refine Gp ?_|refine Gw λw hS=>?_|refine Gb λb w hS=>?_
 refine ze (λh=>?_) (λh=>?_)
 ·have hi:i<b.length:=by omega
  have hx:=b[i].toNat_lt
  refine yy hS .hd hb hi ?_
  refine zR ?_
  rw[wrap_u32 (by omega) (by omega)]
  refine ZE ?_
  refine⟨λvs w=>∃k:Nat,k≤8∧vs=[.int .u32 (bitsC k (xor32 ((b.take i).foldl stepC (cpl32 s)) (b[i].toNat:Int))),.int .i64 k]∧SL W (X::F) w,λvs _=>match vs with
   | [_,.int _ k]=>8-k.toNat
   | _=>0,⟨0,by omega,rfl,hS⟩,?_⟩
  clear hS
  rintro u1 u2 w2 ⟨k,hk,hu,hS⟩
  cases hu
  repeat first|refine Gp ?_|refine Gw λw hS=>?_|refine Gb λb w hS=>?_
  refine ze (λh1=>?_) (λh1=>?_)
  ·have hbb:∀c,bitsC (k+1) c=bitC (bitsC k c):=λc=>rfl
   refine Qi ?_
   refine s_eq ?_
   refine Zf (n:=1) (by omega) ?_
   refine ze (λh2=>?_) (λh2=>?_)
   ·refine ZE ?_
    repeat first|refine Gp ?_|refine Gw λw hS=>?_|refine Gb λb w hS=>?_
    refine⟨⟨k+1,by omega,?_,hS⟩,?_⟩
    ·rw[hbb,bitC,if_pos h2]
    ·simp only[Int.toNat_natCast];omega
   ·repeat first|refine Gp ?_|refine Gw λw hS=>?_|refine Gb λb w hS=>?_
    refine⟨⟨k+1,by omega,?_,hS⟩,?_⟩
    ·rw[hbb,bitC,if_neg h2]
    ·simp only[Int.toNat_natCast];omega
  ·obtain rfl:k=8:=by omega
   repeat first|refine Gp ?_|refine Gw λw hS=>?_|refine Gb λb w hS=>?_
   refine⟨⟨i+1,by omega,?_,hS⟩,?_⟩
   ·rw[show b.take (i+1)=b.take i++[b[i]] by rw[List.take_add_one];simp[hi],List.foldl_append];rfl
   ·simp only[Int.toNat_natCast];omega
 ·obtain rfl:i=b.length:=by omega
  refine ZF ?_
  rw[List.take_length]
  exact⟨_,⟨rfl,rfl⟩,hS⟩
theorem Z5(X:Chunk)(v:Value)(b:List UInt8)(hb:Rdb X v b)(hN:b.length≤140737488355328):SP 210 [v] [X] (Gives (.int .u32 (moreC 0 b)) [X]):=by
 intro W F w hS;apply vc210;unfold Vc210;(try simp only[app]at hS)
 (apply zd (y2 X 0 v b hb hN) hS;exact Xp;clear hS)
 (rintro v post ⟨rfl,rfl⟩ w hS;(try simp only[app]at hS);(repeat (first|refine Gp ?_|refine Gw λw hS=>?_|refine Gb λb w hS=>?_)))
 exact⟨_,⟨rfl,rfl⟩,hS⟩
theorem yE(x:Int)(n:Nat)(hn:n≤8):SP 164 [.int .u64 x,.int .i64 n] [] (λu post=>post=[.ob (OwnSl u 5 1 (numB x n).length ((numB x n).map u8c))]):=by
 intro W F w hS;apply vc164;unfold Vc164;(try simp only[app]at hS)
 repeat first|refine Gp ?_|refine Gw λw hS=>?_|refine Gb λb w hS=>?_
 have hS:=OwnSl.nil (t:=5) (sz:=1) hS
 have hS:SL W (.ob (OwnSl (.slice none 0 0) 5 1 ([]:List UInt8).length (([]:List UInt8).map u8c))::F) w:=hS
 refine⟨λvs w=>∃(u:Value) (c:List UInt8) (k:Nat),vs=[u,.int .i64 ((k:Int)-1)]∧k≤n∧c++numB x k=numB x n∧SL W (.ob (OwnSl u 5 1 c.length (c.map u8c))::F) w,λvs _=>match vs with
  | [_,.int _ i]=>(i+1).toNat
  | _=>0,⟨_,[],n,rfl,Nat.le_refl _,rfl,hS⟩,?_⟩
 clear hS
 rintro u1 u2 w1 ⟨u,c,k,hv,hk,hc,hS⟩
 cases hv
 repeat first|refine Gp ?_|refine Gw λw hS=>?_|refine Gb λb w hS=>?_
 refine ze (λh=>?_) (λh=>?_)
 ·obtain⟨j,rfl⟩:∃j,k=j+1:=⟨k-1,by omega⟩
  have e0:((j+1:Nat):Int)-1=(j:Int):=by omega
  rw[e0]
  refine Q2 (by omega) ?_
  have e1:(8:Int)*(j:Int)=((8*j:Nat):Int):=by omega
  rw[e1]
  refine zR ?_
  rw[wrap_u64 (by omega) (by omega)]
  refine Q1 (by omega) ?_
  refine zR ?_
  rw[wrap_u8]
  refine zD (cells:=[u8c (lowB (x.fdiv (2 ^ (8*j))))]) hS rfl ?_
  clear hS;intro p w hS
  have hcl:c.length+(j+1)=n:=by
   have:=congrArg List.length hc
   simpa [numB_len] using this
  refine zw (m:=1) (cs:=[u8c (lowB (x.fdiv (2 ^ (8*j))))]) hS Xr (src_pt0 hS .hd rfl) rfl rfl (by intro v hv;simp only[List.mem_singleton]at hv;subst hv;rfl) (by omega) (by omega) ?_
  clear hS;intro u' w hS
  repeat first|refine Gp ?_|refine Gw λw hS=>?_|refine Gb λb w hS=>?_
  refine⟨⟨u',c++[lowB (x.fdiv (2 ^ (8*j)))],j,rfl,by omega,?_,?_⟩,?_⟩
  ·rw[← hc];simp[numB]
  ·simp only[List.length_append,List.length_cons,List.length_nil,List.map_append,List.map_cons,List.map_nil]
   exact SL.into hS Xi
  ·show ((j:Int)-1+1).toNat<((j:Int)+1).toNat
   omega
 ·obtain rfl:k=0:=by omega
  have e:c=numB x n:=by simpa [numB] using hc
  rw[e]at hS
  exact⟨_,rfl,hS⟩
theorem s_shl8{x:Nat}{K:Value→Prop}(h:K (.int .u64 (((x*256) % 18446744073709551616:Nat):Int))):zc .shl (.int .u64 (x:Int)) (.int .u64 8) K:=by
 refine⟨.int .u64 (((x*256) % 18446744073709551616:Nat):Int),?_,h⟩
 show (if (8:Int)<0 then none else some (Value.int .u64 (IntKind.u64.wrap ((x:Int)*2 ^ (min (8:Int).toNat IntKind.u64.bits)))))=_
 rw[if_neg (by omega)]
 congr 2
theorem s_or8{x:Nat}{c:UInt8}{K:Value→Prop}(h:K (.int .u64 (((x*256+c.toNat) % 18446744073709551616:Nat):Int))):
  zM .u64 (u8c c) λy=>zc .or (.int .u64 (((x*256) % 18446744073709551616:Nat):Int)) y K:=by
 have hc:=c.toNat_lt
 refine zR ?_
 rw[wrap_u64 (by omega) (by omega)]
 refine⟨_,or64 (by omega) (by omega),?_⟩
 have e:(x*256) % 18446744073709551616=((x*256) % 18446744073709551616 / 256) <<< 8:=by rw[Nat.shiftLeft_eq];omega
 have e2:(x*256) % 18446744073709551616 ||| c.toNat=(x*256+c.toNat) % 18446744073709551616:=by
  rw[e,← Nat.shiftLeft_add_eq_or_of_lt (show c.toNat<2 ^ 8 by omega),Nat.shiftLeft_eq];omega
 rw[e2];exact h
theorem yh(X:Chunk)(v:Value)(b:List UInt8)(hb:Rdb X v b)(hN:b.length≤140737488355328):SP 207 [v] [X] (Gives (.int .u64 (bigN b:Nat)) [X]):=by
 intro W F w hS;apply vc207;unfold Vc207;(try simp only[app]at hS)
 refine⟨λvs w=>∃i:Nat,i≤b.length∧vs=[.int .u64 (bigN (b.take i):Nat),.int .i64 i]∧SL W (X::F) w,λvs _=>match vs with
  | [_,.int _ i]=>b.length-i.toNat
  | _=>0,⟨0,by omega,rfl,hS⟩,?_⟩
 clear hS
 rintro v1 v2 w1 ⟨i,hi,hv,hS⟩
 cases hv
 refine zN hS Xh hb ?_
 repeat first|refine Gp ?_|refine Gw λw hS=>?_|refine Gb λb w hS=>?_
 refine ze (λh=>?_) (λh=>?_)
 ·have hi:i<b.length:=by omega
  refine s_shl8 ?_
  refine yy hS Xh hb hi ?_
  refine s_or8 ?_
  repeat first|refine Gp ?_|refine Gw λw hS=>?_|refine Gb λb w hS=>?_
  refine⟨⟨i+1,by omega,?_,hS⟩,?_⟩
  ·rw[bigN_take hi]
  ·simp only[Int.toNat_natCast];omega
 ·have:b.take i=b:=List.take_of_length_le (by omega)
  rw[this]
  exact⟨_,⟨rfl,rfl⟩,hS⟩
theorem Yh(X:Chunk)(v:Value)(q:List UInt8)(hq:Rdb X v q)(hN:q.length≤140737488355328):SP 166 [v] [X] (PutQ X q):=by
 intro W F w hS;apply vc166;unfold Vc166;(try simp only[app]at hS)
 refine zN hS .hd hq ?_
 repeat first|refine Gp ?_|refine Gw λw hS=>?_|refine Gb λb w hS=>?_
 refine ze (λh=>?_) (λh=>?_)
 ·exact⟨_,.big (by omega),hS⟩
 ·have hq1:q.length≤1048576:=by omega
  refine zN hS .hd hq ?_
  refine zR ?_
  rw[wrap_u64 (by omega) (by omega)]
  (apply zd (yE q.length 4 (by omega)) hS;exact Xp;clear hS)
  rintro v12 post rfl w hS;(try simp only[app]at hS)
  rw[numB4]at hS
  have hr1:Rdb (.ob (OwnSl v12 5 1 (four q.length).length ((four q.length).map u8c))) v12 (four q.length):=Rdb.own
  (apply zd (Z5 _ v12 (four q.length) hr1 (by rw[four_len];omega)) hS;exact Xp;clear hS)
  rintro v post ⟨rfl,rfl⟩ w hS;(try simp only[app]at hS)
  (apply zd (y2 X (moreC 0 (four q.length)) v q hq hN) hS;exact Xp;clear hS)
  rintro v post ⟨rfl,rfl⟩ w hS;(try simp only[app]at hS)
  have hs:moreC (moreC 0 (four q.length)) q=sumOf q:=rfl
  have hrg:=moreC_rng (moreC 0 (four q.length)) q
  rw[hs]at hrg ⊢
  refine zR ?_
  rw[wrap_u64 (by omega) (by omega)]
  (apply zd (yE (sumOf q) 4 (by omega)) hS;exact Xp;clear hS)
  rintro v20 post rfl w hS;(try simp only[app]at hS)
  rw[numB4]at hS
  refine zw (t:=5) (sz:=1) (x:=v12) (n:=(four q.length).length) (cells:=(four q.length).map u8c) (m:=(four (sumOf q)).length) (cs:=(four (sumOf q)).map u8c) hS Xr (src_own hS Xh) (by simp) rfl (u8c_one _) (by simp[four_len]) (by simp[four_len]) ?_
  clear hS;intro v21 w hS
  rw[← List.map_append,← List.length_append]at hS
  refine zw (t:=5) (sz:=1) (m:=q.length) (cs:=q.map u8c) hS .hd (hq.src hS Xh) (by simp) rfl (u8c_one _) (by simp only[List.length_append,four_len];omega) (by simp only[List.length_append,four_len];omega) ?_
  clear hS;intro v24 w hS
  rw[← List.map_append,← List.length_append]at hS
  have e:four (q.length:Nat)++four (sumOf q)++q=recB q:=rfl
  rw[e]at hS
  exact⟨_,.ok hq1 v24,SL.into hS Xi⟩
theorem qK(X:Chunk)(v:Value)(q:List UInt8)(hq:Rdb X v q)(hN:q.length≤140737488355328):SP 206 [v] [X] (TakeQ X q):=by
 intro W F w hS;apply vc206;unfold Vc206;(try simp only[app]at hS)
 refine zN hS .hd hq ?_
 repeat first|refine Gp ?_|refine Gw λw hS=>?_|refine Gb λb w hS=>?_
 refine ze (λh=>?_) (λh=>?_)
 ·exact⟨_,.er (take_er1 (by omega)),hS⟩
 ·have h8:8≤q.length:=by omega
  refine Zi (hi:=4) hS .hd hq (by omega) ?_
  intro v11 h11
  (apply zd (yh X v11 (q.take 4) h11 (by rw[List.length_take];omega)) hS;exact Xp;clear hS)
  rintro v post ⟨rfl,rfl⟩ w hS;(try simp only[app]at hS)
  rw[bigN_num4 (by omega)]
  have hlt:=num4_lt q
  refine ym (by omega) ?_
  have hsm:=λ(p:List UInt8) hp=>sum_same (q:=q) (p:=p) h8 hp
  have te2:=take_er2 (q:=q) h8
  have te3:=take_er3 (q:=q) h8
  have te4:=take_er4 (q:=q) h8
  have tok:=take_ok (q:=q) h8
  generalize num4 q=k at *
  repeat first|refine Gp ?_|refine Gw λw hS=>?_|refine Gb λb w hS=>?_
  refine ze (λh2=>?_) (λh2=>?_)
  ·exact⟨_,.er (te2 (by omega)),hS⟩
  ·refine zN hS .hd hq ?_
   repeat first|refine Gp ?_|refine Gw λw hS=>?_|refine Gb λb w hS=>?_
   refine ze (λh3=>?_) (λh3=>?_)
   ·exact⟨_,.er (te3 (by omega) (by omega)),hS⟩
   ·refine yd (a:=8) (b:=k) (by omega) ?_
    refine ZR (lo:=8) (hi:=8+k) hS .hd hq (by omega) (by omega) ?_
    intro v44 h44
    rw[show 8+k-8=k by omega]at h44
    have hl44:((q.drop 8).take k).length=k:=by rw[List.length_take,List.length_drop];omega
    generalize hp:(q.drop 8).take k=p at *
    repeat first|refine Gp ?_|refine Gw λw hS=>?_|refine Gb λb w hS=>?_
    refine Zi (hi:=4) hS .hd hq (by omega) ?_
    intro v26 h26
    refine ZR (lo:=4) (hi:=8) hS Xh hq (by omega) (by omega) ?_
    intro v32 h32
    rw[show 8-4=4 from rfl]at h32
    (apply zd (Z5 X v26 (q.take 4) h26 (by rw[List.length_take];omega)) hS;exact Xp;clear hS)
    rintro v post ⟨rfl,rfl⟩ w hS;(try simp only[app]at hS)
    (apply zd (y2 X (moreC 0 (q.take 4)) v44 p h44 (by omega)) hS;exact Xp;clear hS)
    rintro v post ⟨rfl,rfl⟩ w hS;(try simp only[app]at hS)
    have hrg:=moreC_rng (moreC 0 (q.take 4)) p
    refine zR ?_
    rw[wrap_u64 (by omega) (by omega)]
    (apply zd (yh X v32 ((q.drop 4).take 4) h32 (by rw[List.length_take];omega)) hS;exact Xp;clear hS)
    rintro v post ⟨rfl,rfl⟩ w hS;(try simp only[app]at hS)
    repeat first|refine Gp ?_|refine Gw λw hS=>?_|refine Gb λb w hS=>?_
    rw[show decide (moreC (moreC 0 (q.take 4)) p≠((bigN ((q.drop 4).take 4):Nat):Int))=decide (four (sumOf p)≠(q.drop 4).take 4) from hsm p hl44]
    refine ze (λh4=>?_) (λh4=>?_)
    ·exact⟨_,.er (te4 (by omega) (by omega) h4),SL.into hS Xi⟩
    ·repeat first|refine Gp ?_|refine Gw λw hS=>?_|refine Gb λb w hS=>?_
     have hS:=OwnSl.full (n:=0) (sz:=1) rfl hS
     refine zw (t:=5) (sz:=1) (n:=0) (m:=k) (cs:=p.map u8c) hS .hd (by have:=h44.src hS Xh;rw[hl44]at this;exact this) (by simp[hl44]) rfl (u8c_one _) (by omega) (by omega) ?_
     clear hS;intro v37 w hS
     rw[Nat.zero_add,List.nil_append]at hS
     refine yd (a:=8) (b:=k) (by omega) ?_
     have ht:=tok (by omega) (by omega) (Classical.not_not.1 h4)
     rw[← hl44]at hS
     exact⟨_,.ok ht v37,SL.into hS Xi⟩
theorem qT(X:Chunk)(v:Value)(q:List UInt8)(hq:Rdb X v q)(hN:q.length≤10000000000):SP 154 [v] [X] (ScanQ X q):=by
 intro W F w hS;apply vc154;unfold Vc154;(try simp only[app]at hS)
 have hS:=OwnSl.nil (t:=54) (sz:=1) (zh.nil (A:=BEntO) hS)
 refine⟨λvs w=>∃(u:Value) (es:List BEnt) (at_:Nat),vs=[u,.int .i64 at_]∧at_≤q.length∧es.length*8≤at_∧byts es++(scanA (q.drop at_)).1=(scanA q).1∧at_+(scanA (q.drop at_)).2=(scanA q).2 ∧
   SL W (.ob (OwnSl u 54 1 es.length (vals es))::.ob (zh BEntO es)::X::F) w,λvs _=>match vs with
  | [_,.int _ i]=>q.length-i.toNat
  | _=>0,⟨_,[],0,rfl,Nat.zero_le _,Nat.le_refl _,rfl,by simp,hS⟩,?_⟩
 clear hS
 rintro u1 u2 w1 ⟨u,es,i,hv,hi,h8,h1,h2,hS⟩
 cases hv
 refine zN hS Xh hq ?_
 repeat first|refine Gp ?_|refine Gw λw hS=>?_|refine Gb λb w hS=>?_
 refine ze (λh0=>?_) (λh0=>?_)
 ·refine Yo hS Xh hq hi ?_
  intro v12 h12
  (apply zd (qK X v12 (q.drop i) h12 (by rw[List.length_drop];omega)) hS;exact Xp;clear hS)
  intro v13 post hQ w hS
  unfold TakeQ at hQ
  cases ht:takeR (q.drop i) with
  | error e=>
   rw[ht]at hQ
   obtain⟨rfl,rfl⟩:=hQ
   (try simp only[app]at hS)
   repeat first|refine Gp ?_|refine Gw λw hS=>?_|refine Gb λb w hS=>?_
   have he:=takeR_err ht
   rw[scanA_er ht]at h1 h2
   refine ze (λ_=>?_) (λh=>by omega)
   refine⟨_,⟨u1,es,by simpa using h1,?_,rfl⟩,SL.into hS Xi⟩
   rw[← h2];rfl
  | ok x=>
   obtain⟨p,n⟩:=x
   rw[ht]at hQ
   obtain⟨y,rfl,rfl⟩:=hQ
   (try simp only[app]at hS)
   repeat first|refine Gp ?_|refine Gw λw hS=>?_|refine Gb λb w hS=>?_
   have hl:=takeR_len ht
   rw[scanA_ok ht]at h1 h2
   rw[List.length_drop]at hl
   refine ze (λh=>absurd rfl h) (λ_=>?_)
   have hone:=hS.ownOne .hd
   obtain⟨ay,cy,ey,_⟩:=OwnSl.at hS .hd
   subst ey
   refine zD (cells:=[.slice ay p.length cy]) hS rfl ?_
   clear hS;intro b w hS
   refine zw (m:=1) (cs:=[.slice ay p.length cy]) hS Xr (src_pt0 hS .hd rfl) rfl rfl (by intro v hv;simp only[List.mem_singleton]at hv;subst hv;rfl) (by omega) (by omega) ?_
   clear hS;intro u' w hS
   have hS:=zh.snoc (A:=BEntO) (xs:=es) (x:=(.slice ay p.length cy,p)) (SL.into hS (t:=.ob (zh BEntO es)::.ob (OwnSl (.slice ay p.length cy) 5 1 p.length (p.map u8c))::.ob (OwnSl u' 54 1 (es.length+1) (vals es++[.slice ay p.length cy]))::X::F) Xi)
   refine yd (a:=i) (b:=n) (by omega) ?_
   refine⟨⟨u',es++[(.slice ay p.length cy,p)],i+n,rfl,by omega,by simp;omega,?_,?_,?_⟩,?_⟩
   ·rw[← h1,← List.drop_drop];simp[byts]
   ·rw[← h2,← List.drop_drop];simp only;omega
   ·rw[show (es++[((Value.slice ay p.length cy,p):BEnt)]).length=es.length+1 by simp,show vals (es++[((Value.slice ay p.length cy,p):BEnt)])=vals es++[.slice ay p.length cy] by simp[vals]]
    exact SL.into hS Xi
   ·simp only[Int.toNat_natCast];omega
 ·have hd:q.drop i=[]:=List.drop_eq_nil_of_le (by omega)
  rw[hd,scanA_er takeR_nil]at h1 h2
  refine⟨_,⟨u1,es,by simpa using h1,?_,rfl⟩,SL.into hS Xi⟩
  rw[← h2];rfl
section
variable {W w:World} {l:List Chunk} {X:Chunk} {v:Value} {sz n:Nat}
theorem yF{α:Type}{enc:α→List Value}{xs:List α}{j i:Nat}{u:Value}{kk:IntKind}{K:Value→Prop}(hS:SL W l w)(m:Has X l)(hb:Rdn X sz v n (xs.map enc).flatten)(he:∀x,(enc x).length=sz)(hsz:0<sz)(hx:xs.length=n)(hj:j<n)
  (hu:(enc (xs[j]'(by omega)))[i]?=some u) (hK:K u):zj sz v (.int kk (j:Int)) λp=>za i p λq=>HLd q w K:=by
 obtain⟨a,c,rfl,hc⟩:=hb.sl hS m
 have hs:=hb.src hS m
 have hlen:(xs.map enc).flatten.length=n*sz:=by rw[← hx];exact flat_len he xs
 have hg:=flat_get he (by omega) hu
 cases a with
 | none=>
  have e:(xs.map enc).flatten=[]:=hs.2
  rw[e]at hg;simp at hg
 | some p=>
  refine⟨p,_,c,kk,j,rfl,rfl,hj,?_⟩
  refine⟨_,rfl,?_⟩
  refine⟨_,u,rfl,?_,hK⟩
  rw[addr_add2]
  exact hs.2.2 (j*sz+i) u hg
end
theorem zI(n:Int):SP 78 [.int .i64 n] [] (Gives (.agg (fdcells ⟨1,n,⟨#[]⟩⟩).toArray) []):=by
 intro W F w hS;apply vc78;unfold Vc78;(try simp only[app]at hS)
 repeat first|refine Gp ?_|refine Gw λw hS=>?_|refine Gb λb w hS=>?_
 exact⟨_,⟨rfl,rfl⟩,SL.into hS Xi⟩
theorem Yc(s:ByteArray):SP 163 [.string s] [] (Gives (.agg (fdcells ⟨2,0,s⟩).toArray) []):=by
 intro W F w hS;apply vc163;unfold Vc163;(try simp only[app]at hS)
 repeat first|refine Gp ?_|refine Gw λw hS=>?_|refine Gb λb w hS=>?_
 exact⟨_,⟨rfl,rfl⟩,SL.into hS Xi⟩
theorem Yt(x:PFd):SP 165 [.agg (fdcells x).toArray] [] (Gives (.bool (rightF x)) []):=by
 intro W F w hS;apply vc165;unfold Vc165;(try simp only[app]at hS)
 refine⟨fdcells x,rfl,?_⟩
 unfold fdcells
 repeat first|refine Gp ?_|refine Gw λw hS=>?_|refine Gb λb w hS=>?_
 unfold rightF
 refine ze (λh=>?_) (λh=>?_)
 ·rw[if_pos h]
  repeat first|refine Gp ?_|refine Gw λw hS=>?_|refine Gb λb w hS=>?_
  refine ze (λh1=>?_) (λh1=>?_)
  ·rw[decide_eq_true h1]
   exact⟨_,⟨rfl,rfl⟩,SL.into hS Xi⟩
  ·repeat first|refine Gp ?_|refine Gw λw hS=>?_|refine Gb λb w hS=>?_
   refine ze (λh2=>by omega) (λh2=>?_)
   rw[decide_eq_false h1]
   exact⟨_,⟨rfl,rfl⟩,SL.into hS Xi⟩
 ·rw[if_neg h]
  repeat first|refine Gp ?_|refine Gw λw hS=>?_|refine Gb λb w hS=>?_
  refine ze (λh2=>?_) (λh2=>?_)
  ·rw[if_pos h2]
   repeat first|refine Gp ?_|refine Gw λw hS=>?_|refine Gb λb w hS=>?_
   refine ze (λh3=>?_) (λh3=>?_)
   ·repeat first|refine Gp ?_|refine Gw λw hS=>?_|refine Gb λb w hS=>?_
    rw[decide_eq_true h3,Bool.true_and]
    have e:decide ((x.s.size:Int)≤4096)=decide (x.s.size≤4096):=by congr 1;exact propext ⟨λ_=>by omega,λ_=>by omega⟩
    rw[e]
    exact⟨_,⟨rfl,rfl⟩,SL.into hS Xi⟩
   ·rw[decide_eq_false h3,Bool.false_and]
    exact⟨_,⟨rfl,rfl⟩,SL.into hS Xi⟩
  ·rw[if_neg h2]
   exact⟨_,⟨rfl,rfl⟩,SL.into hS Xi⟩
theorem Zg(X:Chunk)(v:Value)(xs:List PFd)(hx:Rdn X 3 v xs.length (xs.map fdcells).flatten)(hN:xs.length≤140737488355328):SP 81 [v] [X] (EncQ X xs):=by
 intro W F w hS;apply vc81;unfold Vc81;(try simp only[app]at hS)
 refine Zk hS .hd hx ?_
 repeat first|refine Gp ?_|refine Gw λw hS=>?_|refine Gb λb w hS=>?_
 refine ze (λh=>?_) (λh=>?_)
 ·exact⟨_,.er (by unfold encFs;rw[if_pos (by omega)]),hS⟩
 ·refine Zk hS .hd hx ?_
  refine zR ?_
  rw[wrap_u64 (by omega) (by omega)]
  (apply zd (yE xs.length 2 (by omega)) hS;exact Xp;clear hS)
  rintro v13 post rfl w hS;(try simp only[app]at hS)
  have hb:∀i,i≤xs.length→(xs.take i).all rightF=true→(numB xs.length 2++((xs.take i).map encF).flatten).length≤200000000:=λi hi ha=>by
   have:=encFl_len ha
   rw[List.length_append,numB_len]
   rw[List.length_take]at this
   omega
  refine⟨λvs w=>∃(i:Nat) (u:Value),i≤xs.length∧vs=[u,.int .i64 i]∧(xs.take i).all rightF=true∧SL W (.ob (OwnSl u 5 1 (numB xs.length 2++((xs.take i).map encF).flatten).length ((numB xs.length 2++((xs.take i).map encF).flatten).map u8c))::X::F) w,λvs _=>match vs with
   | [_,.int _ i]=>xs.length-i.toNat
   | _=>0,⟨0,v13,by omega,rfl,rfl,(by simpa using hS)⟩,?_⟩
  clear hS
  rintro u1 u2 w1 ⟨i,u,hi,hv,ha,hS⟩
  cases hv
  have hbi:=hb i hi ha
  refine Zk hS Xh hx ?_
  repeat first|refine Gp ?_|refine Gw λw hS=>?_|refine Gb λb w hS=>?_
  refine ze (λh=>?_) (λh=>?_)
  ·have hi:i<xs.length:=by omega
   refine YT hS Xh hx fdcells_len (by omega) rfl hi ?_
   have hxi:xs[i]∈xs:=List.getElem_mem hi
   have htk:xs.take (i+1)=xs.take i++[xs[i]]:=by rw[List.take_add_one];simp[hi]
   (apply zd (Yt xs[i]) hS;exact Xp;clear hS)
   rintro v post ⟨rfl,rfl⟩ w hS;(try simp only[app]at hS)
   refine yA ?_
   cases hr:rightF xs[i] with
   | false=>
    refine zy ?_
    refine⟨[X],.er ?_,SL.into hS Xi⟩
    unfold encFs
    rw[if_neg (by omega),if_neg]
    intro h
    have:=List.all_eq_true.1 h xs[i] hxi
    rw[hr]at this;cases this
   | true=>
    refine zr ?_
    have ha2:(xs.take (i+1)).all rightF=true:=by rw[htk,List.all_append,ha];simp[hr]
    have hb2:=hb (i+1) (by omega) ha2
    have hen:((xs.take (i+1)).map encF).flatten=((xs.take i).map encF).flatten++encF xs[i]:=by rw[htk,List.map_append,List.flatten_append];simp only[List.map_cons,List.map_nil,List.flatten_cons,List.flatten_nil,List.append_nil]
    rw[hen]at hb2
    rw[List.length_append,List.length_append]at hb2
    have hk:xs[i].kind=1∨xs[i].kind=2:=by
     unfold rightF at hr
     by_cases h1:xs[i].kind=1
     ·exact .inl h1
     ·rw[if_neg h1]at hr
      by_cases h2:xs[i].kind=2
      ·exact .inr h2
      ·rw[if_neg h2]at hr;cases hr
    generalize hc:numB xs.length 2++((xs.take i).map encF).flatten=c at *
    have hcl:c.length+(encF xs[i]).length≤200000000:=by rw[← hc,List.length_append];omega
    refine yF (i:=0) hS Xh hx fdcells_len (by omega) rfl hi (u:=.int .i64 xs[i].kind) rfl ?_
    refine zR ?_
    rw[wrap_u8]
    refine zD (cells:=[u8c (lowB xs[i].kind)]) hS rfl ?_
    clear hS;intro p w hS
    refine zw (m:=1) (cs:=[u8c (lowB xs[i].kind)]) hS Xr (src_pt0 hS .hd rfl) rfl rfl (by intro v hv;simp only[List.mem_singleton]at hv;subst hv;rfl) (by omega) (by omega) ?_
    clear hS;intro u' w hS
    have hS:SL W (.ob (OwnSl u' 5 1 (c++[lowB xs[i].kind]).length ((c++[lowB xs[i].kind]).map u8c))::X::F) w:=by
     simp only[List.length_append,List.length_cons,List.length_nil,List.map_append,List.map_cons,List.map_nil]
     exact SL.into hS Xi
    refine yF (i:=0) hS Xh hx fdcells_len (by omega) rfl hi (u:=.int .i64 xs[i].kind) rfl ?_
    repeat first|refine Gp ?_|refine Gw λw hS=>?_|refine Gb λb w hS=>?_
    refine ze (λh1=>?_) (λh1=>?_)
    ·refine yF (i:=1) hS Xh hx fdcells_len (by omega) rfl hi (u:=.int .i64 xs[i].n) rfl ?_
     refine zR ?_
     have eu:IntKind.u64.wrap xs[i].n=unsig xs[i].n:=rfl
     rw[eu]
     (apply zd (yE (unsig xs[i].n) 8 (by omega)) hS;exact Xp;clear hS)
     rintro v47 post rfl w hS;(try simp only[app]at hS)
     refine zw (t:=5) (sz:=1) (x:=u') (n:=(c++[lowB xs[i].kind]).length) (cells:=(c++[lowB xs[i].kind]).map u8c) (m:=(numB (unsig xs[i].n) 8).length) (cs:=(numB (unsig xs[i].n) 8).map u8c) hS Xr (src_own hS Xh) (by simp) rfl (u8c_one _) (by rw[numB_len,List.length_append,List.length_singleton];omega) (by rw[numB_len,List.length_append,List.length_singleton];omega) ?_
     clear hS;intro v48 w hS
     rw[← List.map_append,← List.length_append]at hS
     repeat first|refine Gp ?_|refine Gw λw hS=>?_|refine Gb λb w hS=>?_
     refine⟨⟨i+1,v48,by omega,rfl,ha2,?_⟩,?_⟩
     ·have e:numB xs.length 2++((xs.take (i+1)).map encF).flatten=c++[lowB xs[i].kind]++numB (unsig xs[i].n) 8:=by
       rw[hen,← List.append_assoc,hc]
       have:encF xs[i]=lowB xs[i].kind::numB (unsig xs[i].n) 8:=by unfold encF;rw[if_pos h1]
       rw[this];simp
      rw[e]
      exact SL.into hS Xi
     ·simp only[Int.toNat_natCast];omega
    ·have hsz:xs[i].s.size≤4096:=by
      unfold rightF at hr
      rw[if_neg h1,if_pos (by omega),Bool.and_eq_true]at hr
      exact of_decide_eq_true hr.2
     have hef:encF xs[i]=lowB xs[i].kind::(numB xs[i].s.size 2++xs[i].s.data.toList):=by unfold encF;rw[if_neg h1]
     refine yF (i:=2) hS Xh hx fdcells_len (by omega) rfl hi (u:=.string xs[i].s) rfl ?_
     repeat first|refine Gp ?_|refine Gw λw hS=>?_|refine Gb λb w hS=>?_
     refine zR ?_
     rw[wrap_u64 (by omega) (by omega)]
     (apply zd (yE xs[i].s.size 2 (by omega)) hS;exact Xp;clear hS)
     rintro v57 post rfl w hS;(try simp only[app]at hS)
     refine zw (t:=5) (sz:=1) (x:=u') (n:=(c++[lowB xs[i].kind]).length) (cells:=(c++[lowB xs[i].kind]).map u8c) (m:=(numB xs[i].s.size 2).length) (cs:=(numB xs[i].s.size 2).map u8c) hS Xr (src_own hS Xh) (by simp) rfl (u8c_one _) (by rw[numB_len,List.length_append,List.length_singleton];omega) (by rw[numB_len,List.length_append,List.length_singleton];omega) ?_
     clear hS;intro v58 w hS
     rw[← List.map_append,← List.length_append]at hS
     refine yF (i:=2) hS Xh hx fdcells_len (by omega) rfl hi (u:=.string xs[i].s) rfl ?_
     have hsl:xs[i].s.data.toList.length=xs[i].s.size:=rfl
     have hel:(encF xs[i]).length=1+(2+xs[i].s.size):=by rw[hef];simp only[List.length_cons,List.length_append,numB_len];omega
     refine zw (m:=xs[i].s.size) (cs:=xs[i].s.data.toList.map u8c) hS Xr src_str (by simp) rfl (u8c_one _) (by simp only[List.length_append,List.length_cons,List.length_nil,numB_len];omega) (by simp only[List.length_append,List.length_cons,List.length_nil,numB_len];omega) ?_
     clear hS;intro v65 w hS
     repeat first|refine Gp ?_|refine Gw λw hS=>?_|refine Gb λb w hS=>?_
     refine⟨⟨i+1,v65,by omega,rfl,ha2,?_⟩,?_⟩
     ·have e:numB xs.length 2++((xs.take (i+1)).map encF).flatten=(c++[lowB xs[i].kind]++numB xs[i].s.size 2)++xs[i].s.data.toList:=by
       rw[hen,← List.append_assoc,hc,hef];simp
      rw[e]
      generalize c++[lowB xs[i].kind]++numB xs[i].s.size 2=A at *
      rw[List.length_append,List.map_append,hsl]
      exact SL.into hS Xi
     ·simp only[Int.toNat_natCast];omega
  ·obtain rfl:i=xs.length:=by omega
   rw[List.take_length]at hS ha
   exact⟨_,.ok (by unfold encFs;rw[if_neg (by omega),if_pos ha]) u1,SL.into hS Xi⟩
theorem qw(n:Int):SP 167 [.int .i64 n] [] (HeadQ n):=by
 intro W F w hS;apply vc167;unfold Vc167;(try simp only[app]at hS)
 repeat first|refine Gp ?_|refine Gw λw hS=>?_|refine Gb λb w hS=>?_
 unfold HeadQ
 refine ze (λh=>?_) (λh=>?_)
 ·refine⟨[],?_,hS⟩
  rw[if_pos (.inl (by omega))]
  exact⟨rfl,rfl⟩
 ·repeat first|refine Gp ?_|refine Gw λw hS=>?_|refine Gb λb w hS=>?_
  refine ze (λh2=>?_) (λh2=>?_)
  ·refine⟨[],?_,hS⟩
   rw[if_pos (.inr (by omega))]
   exact⟨rfl,rfl⟩
  ·simp only[if_neg (c:=n<1∨1099511627776<n) (by omega)]
   repeat first|refine Gp ?_|refine Gw λw hS=>?_|refine Gb λb w hS=>?_
   obtain⟨k,rfl⟩:∃k:Nat,n=(k:Int):=⟨n.toNat,by omega⟩
   (apply zd (zI (k:Int)) hS;exact Xp;clear hS)
   rintro v post ⟨rfl,rfl⟩ w hS;(try simp only[app]at hS)
   refine zD (cells:=fdcells ⟨1,(k:Int),⟨#[]⟩⟩) hS rfl ?_
   clear hS;intro b w hS
   (apply zd (Zg (.pt b (fdcells ⟨1,(k:Int),⟨#[]⟩⟩) 165) (.slice (some ⟨b,0,none⟩) 1 1) [⟨1,(k:Int),⟨#[]⟩⟩] (Rdn.pt rfl) (by simp)) hS;exact Xp;clear hS)
   intro r post hQ w hS
   unfold EncQ at hQ
   rw[encFs_hd (by omega)]at hQ
   obtain⟨u,rfl,rfl⟩:=hQ
   (try simp only[app]at hS)
   repeat first|refine Gp ?_|refine Gw λw hS=>?_|refine Gb λb w hS=>?_
   have hr1:Rdb (.ob (OwnSl u 5 1 (hdB k).length ((hdB k).map u8c))) u (hdB k):=Rdb.own
   (apply zd (Yh _ u (hdB k) hr1 (by rw[hdB_len];omega)) hS;exact Xp;clear hS)
   intro r post hQ w hS
   unfold PutQ at hQ
   rw[if_neg (by rw[hdB_len];omega)]at hQ
   obtain⟨y,rfl,rfl⟩:=hQ
   (try simp only[app]at hS)
   repeat first|refine Gp ?_|refine Gw λw hS=>?_|refine Gb λb w hS=>?_
   rw[Int.toNat_natCast]
   exact⟨_,⟨y,rfl,rfl⟩,SL.into hS Xi⟩
theorem Za(X:Chunk)(v:Value)(q:List UInt8)(hq:Rdb X v q)(hN:q.length≤140737488355328):SP 155 [v] [X] (DecQ X q):=by
 intro W F w hS;apply vc155;unfold Vc155;(try simp only[app]at hS)
 have hE:∀{e:Int} {w:World},decF q= .error e→SL W (X::F) w→∃post,DecQ X q (.tuple #[.slice none 0 0,.int .i64 e]) post∧SL W (app post F) w:=λh hS=>⟨[X],by unfold DecQ;rw[h];exact⟨rfl,rfl⟩,hS⟩
 refine zN hS .hd hq ?_
 repeat first|refine Gp ?_|refine Gw λw hS=>?_|refine Gb λb w hS=>?_
 refine ze (λh=>hE (decF_short (by omega)) hS) (λh=>?_)
 have h2:2≤q.length:=by omega
 refine Zi (hi:=2) hS .hd hq h2 ?_
 intro v14 h14
 (apply zd (yh X v14 (q.take 2) h14 (by rw[List.length_take];omega)) hS;exact Xp;clear hS)
 rintro v post ⟨rfl,rfl⟩ w hS;(try simp only[app]at hS)
 have hlt:bigN (q.take 2)<65536:=by
  have:=bigN_lt 2 (q.take 2) (by rw[List.length_take];omega)
  exact this
 refine ym (by omega) ?_
 repeat first|refine Gp ?_|refine Gw λw hS=>?_|refine Gb λb w hS=>?_
 refine ze (λh3=>hE (decF_big h2 (by omega)) hS) (λh3=>?_)
 have hdg:=decF_go h2 (by omega)
 generalize hm:bigN (q.take 2)=m at *
 have hS:=OwnSl.nil (t:=165) (sz:=3) hS
 refine⟨λvs w=>∃(i at_:Nat) (u:Value) (l:List PFd),vs=[.int .i64 at_,u,.int .i64 i]∧i≤m∧l.length=i∧at_≤q.length∧decF q=decG l (m-i) ⟨q.drop at_,0⟩∧SL W (.ob (OwnSl u 165 3 l.length (l.map fdcells).flatten)::X::F) w,
  λvs _=>match vs with|[_,_,.int _ i]=>(m-i).toNat|_=>0,⟨0,2,_,[],rfl,by omega,rfl,h2,hdg,hS⟩,?_⟩
 clear hS hdg
 rintro v5 v6 v7 w ⟨i,at_,u,l,hvs,him,hli,hat,hdg,hS⟩
 cases hvs
 repeat first|refine Gp ?_|refine Gw λw hS=>?_|refine Gb λb w hS=>?_
 refine ze (λh4=>?_) (λh4=>?_)
 ·have him:i<m:=by omega
  obtain⟨r,hr⟩:∃r,m-i=r+1:=⟨m-i-1,by omega⟩
  have hr2:m-(i+1)=r:=by omega
  rw[hr]at hdg
  refine zN hS Xh hq ?_
  repeat first|refine Gp ?_|refine Gw λw hS=>?_|refine Gb λb w hS=>?_
  refine ze (λh5=>?_) (λh5=>?_)
  ·have:q.drop at_=[]:=List.drop_eq_nil_of_le (by omega)
   rw[this,decG_nil]at hdg
   exact hE hdg (SL.into hS Xi)
  ·have hal:at_<q.length:=by omega
   rw[List.drop_eq_getElem_cons hal]at hdg
   have hx:=q[at_].toNat_lt
   refine yy hS Xh hq hal ?_
   refine ym (by omega) ?_
   repeat first|refine Gp ?_|refine Gw λw hS=>?_|refine Gb λb w hS=>?_
   refine ze (λh6=>?_) (λh6=>?_)
   ·rw[decG_one (by omega)]at hdg
    rw[List.length_drop]at hdg
    refine zN hS Xh hq ?_
    repeat first|refine Gp ?_|refine Gw λw hS=>?_|refine Gb λb w hS=>?_
    refine ze (λh7=>?_) (λh7=>?_)
    ·rw[if_pos (by omega)]at hdg
     exact hE hdg (SL.into hS Xi)
    ·rw[if_neg (by omega)]at hdg
     refine yd (a:=at_+1) (b:=8) (by omega) ?_
     refine ZR (lo:=at_+1) (hi:=at_+1+8) hS Xh hq (by omega) (by omega) ?_
     intro v48 h48
     rw[show at_+1+8-(at_+1)=8 by omega]at h48
     (apply zd (yh X v48 ((q.drop (at_+1)).take 8) h48 (by rw[List.length_take];omega)) hS;exact Xp;clear hS)
     rintro v post ⟨rfl,rfl⟩ w hS;(try simp only[app]at hS)
     have hb8:bigN ((q.drop (at_+1)).take 8)<18446744073709551616:=bigN_lt 8 _ (by rw[List.length_take,List.length_drop];omega)
     refine zR ?_
     rw[sig_cv hb8]
     (apply zd (zI (sig (bigN ((q.drop (at_+1)).take 8)))) hS;exact Xp;clear hS)
     rintro v post ⟨rfl,rfl⟩ w hS;(try simp only[app]at hS)
     refine zD (cells:=fdcells ⟨1,sig (bigN ((q.drop (at_+1)).take 8)),⟨#[]⟩⟩) hS rfl ?_
     clear hS;intro p w hS
     refine zw (m:=1) (cs:=fdcells ⟨1,sig (bigN ((q.drop (at_+1)).take 8)),⟨#[]⟩⟩) hS Xr (src_pt0 hS .hd rfl) rfl rfl (fd_one _) (by omega) (by omega) ?_
     clear hS;intro u' w hS
     refine yd (a:=at_+1) (b:=8) (by omega) ?_
     repeat first|refine Gp ?_|refine Gw λw hS=>?_|refine Gb λb w hS=>?_
     refine⟨⟨i+1,at_+1+8,u',l++[⟨1,sig (bigN ((q.drop (at_+1)).take 8)),⟨#[]⟩⟩],rfl,by omega,by simp;omega,by omega,?_,?_⟩,by dsimp only;omega⟩
     ·rw[hdg,hr2,List.drop_drop]
     ·rw[show (l++[(⟨1,sig (bigN ((q.drop (at_+1)).take 8)),⟨#[]⟩⟩:PFd)]).length=l.length+1 by simp,show ((l++[(⟨1,sig (bigN ((q.drop (at_+1)).take 8)),⟨#[]⟩⟩:PFd)]).map fdcells).flatten=(l.map fdcells).flatten++fdcells ⟨1,sig (bigN ((q.drop (at_+1)).take 8)),⟨#[]⟩⟩ by simp]
      exact SL.into hS Xi
   ·repeat first|refine Gp ?_|refine Gw λw hS=>?_|refine Gb λb w hS=>?_
    refine ze (λh7=>?_) (λh7=>?_)
    ·rw[decG_two (by omega)]at hdg
     rw[List.length_drop]at hdg
     refine zN hS Xh hq ?_
     repeat first|refine Gp ?_|refine Gw λw hS=>?_|refine Gb λb w hS=>?_
     refine ze (λh8=>?_) (λh8=>?_)
     ·rw[if_pos (by omega)]at hdg
      exact hE hdg (SL.into hS Xi)
     ·rw[if_neg (by omega)]at hdg
      refine yd (a:=at_+1) (b:=2) (by omega) ?_
      refine ZR (lo:=at_+1) (hi:=at_+1+2) hS Xh hq (by omega) (by omega) ?_
      intro v67 h67
      rw[show at_+1+2-(at_+1)=2 by omega]at h67
      (apply zd (yh X v67 ((q.drop (at_+1)).take 2) h67 (by rw[List.length_take];omega)) hS;exact Xp;clear hS)
      rintro v post ⟨rfl,rfl⟩ w hS;(try simp only[app]at hS)
      have hb2:bigN ((q.drop (at_+1)).take 2)<65536:=bigN_lt 2 _ (by rw[List.length_take,List.length_drop];omega)
      generalize bigN ((q.drop (at_+1)).take 2)=z at *
      refine ym (by omega) ?_
      refine yd (a:=at_+1) (b:=2) (by omega) ?_
      repeat first|refine Gp ?_|refine Gw λw hS=>?_|refine Gb λb w hS=>?_
      refine ze (λh9=>?_) (λh9=>?_)
      ·rw[if_pos (by omega)]at hdg
       exact hE hdg (SL.into hS Xi)
      ·rw[if_neg (by omega)]at hdg
       refine zN hS Xh hq ?_
       repeat first|refine Gp ?_|refine Gw λw hS=>?_|refine Gb λb w hS=>?_
       refine ze (λh10=>?_) (λh10=>?_)
       ·rw[if_pos (by omega)]at hdg
        exact hE hdg (SL.into hS Xi)
       ·rw[if_neg (by omega)]at hdg
        refine yd (a:=at_+1+2) (b:=z) (by omega) ?_
        refine ZR (lo:=at_+1+2) (hi:=at_+1+2+z) hS Xh hq (by omega) (by omega) ?_
        intro v86 h86
        rw[show at_+1+2+z-(at_+1+2)=z by omega]at h86
        obtain⟨a86,c86,rfl,_⟩:=h86.sl hS Xh
        refine y4 (bs:=(q.drop (at_+1+2)).take z) ⟨_,_,_,rfl⟩ (h86.src hS Xh) Tryz.underlying54 Tryz.underlying9 Tryz.underlying5 ?_
        (apply zd (Yc (bstr ((q.drop (at_+1+2)).take z))) hS;exact Xp;clear hS)
        rintro v post ⟨rfl,rfl⟩ w hS;(try simp only[app]at hS)
        refine zD (cells:=fdcells ⟨2,0,bstr ((q.drop (at_+1+2)).take z)⟩) hS rfl ?_
        clear hS;intro p w hS
        refine zw (m:=1) (cs:=fdcells ⟨2,0,bstr ((q.drop (at_+1+2)).take z)⟩) hS Xr (src_pt0 hS .hd rfl) rfl rfl (fd_one _) (by omega) (by omega) ?_
        clear hS;intro u' w hS
        refine yd (a:=at_+1+2) (b:=z) (by omega) ?_
        repeat first|refine Gp ?_|refine Gw λw hS=>?_|refine Gb λb w hS=>?_
        refine⟨⟨i+1,at_+1+2+z,u',l++[⟨2,0,bstr ((q.drop (at_+1+2)).take z)⟩],rfl,by omega,by simp;omega,by omega,?_,?_⟩,by dsimp only;omega⟩
        ·rw[hdg,hr2,List.drop_drop,List.drop_drop];rfl
        ·rw[show (l++[(⟨2,0,bstr ((q.drop (at_+1+2)).take z)⟩:PFd)]).length=l.length+1 by simp,show ((l++[(⟨2,0,bstr ((q.drop (at_+1+2)).take z)⟩:PFd)]).map fdcells).flatten=(l.map fdcells).flatten++fdcells ⟨2,0,bstr ((q.drop (at_+1+2)).take z)⟩ by simp]
         exact SL.into hS Xi
    ·rw[decG_else (by omega) (by omega)]at hdg
     exact hE hdg (SL.into hS Xi)
 ·have hmi:m-i=0:=by omega
  rw[hmi,decG_zero,List.length_drop]at hdg
  refine zN hS Xh hq ?_
  repeat first|refine Gp ?_|refine Gw λw hS=>?_|refine Gb λb w hS=>?_
  refine ze (λh5=>?_) (λh5=>?_)
  ·rw[if_pos (by omega)]at hdg
   exact hE hdg (SL.into hS Xi)
  ·rw[if_neg (by omega)]at hdg
   refine⟨[.ob (OwnSl v6 165 3 l.length (l.map fdcells).flatten),X],?_,SL.into hS Xi⟩
   unfold DecQ
   rw[hdg]
   exact⟨v6,rfl,rfl⟩
abbrev FdO(u:Value)(L:List PFd):Chunk:=.ob (OwnSl u 165 3 L.length (L.map fdcells).flatten)
theorem fds_one(L:List PFd):∀v∈(L.map fdcells).flatten,v.oneCell'=true:=recs_one encFd_one L
theorem yB{W w:World}{l F:List Chunk}{x y:Value}{L M:List PFd}{K:Value→World→Prop}(hS:SL W l w)(hr:Rem (FdO x L) l F)(hsrc:srcCells w 3 y M.length (M.map fdcells).flatten)(hb:L.length+M.length≤1000000)
  (h:∀v' w',SL W (FdO v' (L++M)::F) w'→K v' w'):zt 3 32 [.int .i64 0,.int .i64 0,.string ⟨#[]⟩] 165 x y w K:=
 zw hS hr hsrc (flat_len fd_len M) rfl (fds_one M) (by omega) (by omega) λv' w' hS=>h v' w' (by
  have e:((L++M).map fdcells).flatten=(L.map fdcells).flatten++(M.map fdcells).flatten:=by simp
  show SL W (.ob (OwnSl v' 165 3 (L++M).length ((L++M).map fdcells).flatten)::F) w'
  rw[e,List.length_append];exact hS)
theorem src_fd1{W w:World}{l:List Chunk}{b:Nat}{x:PFd}(hS:SL W l w)(m:Has (.pt b (fdcells x) 165) l):srcCells w 3 (.slice (some ⟨b,0,none⟩) 1 1) [x].length ([x].map fdcells).flatten:=by
 simpa using src_pt0 (m:=1) (sz:=3) (cap:=1) hS m rfl
section
variable (b:Nat) (x1 x2 x3 x4 x5 x6 x7:Int) (t:TypeId)
theorem ints1:SP 180 [.slice (some ⟨b,0,none⟩) 1 1] [.pt b [.int .i64 x1] t] (λu post=>post=[FdO u [iF x1]]):=yU b [x1] t (by simp)
theorem ints2:SP 180 [.slice (some ⟨b,0,none⟩) 2 2] [.pt b [.int .i64 x1,.int .i64 x2] t] (λu post=>post=[FdO u [iF x1,iF x2]]):=yU b [x1,x2] t (by simp)
theorem ints4:SP 180 [.slice (some ⟨b,0,none⟩) 4 4] [.pt b [.int .i64 x1,.int .i64 x2,.int .i64 x3,.int .i64 x4] t] (λu post=>post=[FdO u [iF x1,iF x2,iF x3,iF x4]]):=yU b [x1,x2,x3,x4] t (by simp)
theorem ints7:SP 180 [.slice (some ⟨b,0,none⟩) 7 7] [.pt b [.int .i64 x1,.int .i64 x2,.int .i64 x3,.int .i64 x4,.int .i64 x5,.int .i64 x6,.int .i64 x7] t] (λu post=>post=[FdO u [iF x1,iF x2,iF x3,iF x4,iF x5,iF x6,iF x7]]):=yU b [x1,x2,x3,x4,x5,x6,x7] t (by simp)
end
def EncIQ(H:Heap)(t:PItem)(u:Value)(post:List Chunk):Prop:=match encItem t with
 | .error e=>u= .tuple #[.slice none 0 0,.int .i64 e]∧post=[.mem H]
 | .ok b=>∃v,u= .tuple #[v,.int .i64 0]∧post=[.ob (OwnSl v 5 1 b.length (b.map u8c)),.mem H]
def fdsA(t:PItem)(i:Nat):List PFd:=[iF t.lsn,iF t.ops.length]++((t.ops.take i).map fdsOp).flatten
def fdsB(t:PItem)(i:Nat):List PFd:=fdsA t t.ops.length++[iF t.notes.length]++((t.notes.take i).map fdsNote).flatten
theorem fdsA_s{t:PItem}{i:Nat}(h:i<t.ops.length):fdsA t (i+1)=fdsA t i++fdsOp t.ops[i]:=by
 unfold fdsA;rw[List.take_succ_eq_append_getElem h,List.map_append,List.flatten_append,List.map_singleton,List.flatten_singleton,List.append_assoc]
theorem fdsB_s{t:PItem}{i:Nat}(h:i<t.notes.length):fdsB t (i+1)=fdsB t i++fdsNote t.notes[i]:=by
 unfold fdsB;rw[List.take_succ_eq_append_getElem h,List.map_append,List.flatten_append,List.map_singleton,List.flatten_singleton,← List.append_assoc]
theorem fdsB_e(t:PItem):fdsB t t.notes.length=fdsItem t:=by
 unfold fdsB fdsA fdsItem;simp
theorem flatN_len{α β:Type}{f:α→List β}{n:Nat}(hn:∀x,(f x).length=n)(xs:List α):((xs.map f).flatten).length=xs.length*n:=by
 induction xs with
 | nil=>simp
 | cons x xs ih=>simp[hn,ih,Nat.add_mul];omega
theorem fdsA_len(t:PItem)(i:Nat):(fdsA t i).length≤2+5*i:=by
 unfold fdsA
 rw[List.length_append,flatN_len (n:=5) (λ_=>rfl),List.length_take]
 simp;omega
theorem fdsB_len(t:PItem)(i:Nat):(fdsB t i).length≤3+5*t.ops.length+7*i:=by
 have:=fdsA_len t t.ops.length
 unfold fdsB
 rw[List.length_append,List.length_append,flatN_len (n:=7) (λ_=>rfl),List.length_take]
 simp;omega
theorem Qp(H:Heap)(x:ItV)(t:PItem)(hx:ItIs H x t):SP 104 [agg (encIt x)] [.mem H] (EncIQ H t):=by
 intro W F w hS;apply vc104;unfold Vc104;(try simp only[app]at hS)
 refine zB hS λxb w hS=>?_
 repeat first|refine Gp ?_|refine Gw λw hS=>?_|refine Gb λb w hS=>?_
 (apply zd (z6 H x t hx) hS;exact Xp;clear hS)
 (rintro v post ⟨rfl,rfl⟩ w hS;(try simp only[app]at hS);(repeat (first|refine Gp ?_|refine Gw λw hS=>?_|refine Gb λb w hS=>?_)))
 refine zK (λh=>?_) (λhm=>?_)
 ·exact⟨[.mem H],by unfold EncIQ encItem;rw[h];exact⟨rfl,rfl⟩,SL.into hS Xi⟩
 have hb:=(mayItem_iff.1 hm).1
 unfold encIt at hS
 rw[hx.lsn]at hS
 repeat first|refine Gp ?_|refine Gw λw hS=>?_|refine Gb λb w hS=>?_
 refine zq hx.ops ?_
 repeat first|refine Gp ?_|refine Gw λw hS=>?_|refine Gb λb w hS=>?_
 (apply zd (ints2 b t.lsn t.ops.length 2) hS;exact Xp;clear hS)
 rintro u post rfl w hS
 (try simp only[app]at hS)
 repeat first|refine Gp ?_|refine Gw λw hS=>?_|refine Gb λb w hS=>?_
 refine zq hx.ops ?_
 have hS:SL W (FdO u (fdsA t 0)::_) _:=hS
 refine⟨λvs w=>∃(i:Nat) (u:Value),vs=[u,.int .i64 i]∧i≤t.ops.length∧SL W (FdO u (fdsA t i)::.pt xb [.int .i64 t.lsn,x.ov,x.nv] 46::.mem H::F) w,
  λvs _=>match vs with|[_,.int _ i]=>(t.ops.length-i).toNat|_=>0,⟨0,_,rfl,by omega,SL.into hS Xi⟩,?_⟩
 clear hS
 rintro u v3 w ⟨i,_,hvs,hi,hS⟩
 cases hvs
 have hAl:=fdsA_len t i
 repeat first|refine Gp ?_|refine Gw λw hS=>?_|refine Gb λb w hS=>?_
 refine ze (λh=>?_) (λh=>?_)
 ·have hil:i<t.ops.length:=by omega
  have hs:=fdsA_s hil
  refine zH hS Xh encOp_len' hx.ops (x:=t.ops[i]) (by simp[hil]) hil ?_
  generalize t.ops[i]=o at *
  obtain⟨ol,ot,ok,og,ov⟩:=o
  repeat first|refine Gp ?_|refine Gw λw hS=>?_|refine Gb λb w hS=>?_
  unfold encOp at hS
  repeat first|refine Gp ?_|refine Gw λw hS=>?_|refine Gb λb w hS=>?_
  (apply zd (Yl og) hS;exact Xp;clear hS)
  (rintro v post ⟨rfl,rfl⟩ w hS;(try simp only[app]at hS);(repeat (first|refine Gp ?_|refine Gw λw hS=>?_|refine Gb λb w hS=>?_)))
  (apply zd (ints4 b ol ot ok (bitI og) 2) hS;exact Xp;clear hS)
  rintro u2 post rfl w hS
  (try simp only[app]at hS)
  refine yB (L:=fdsA t i) hS Xr (src_own hS Xh) (by simp;omega) λu3 w hS=>?_
  repeat first|refine Gp ?_|refine Gw λw hS=>?_|refine Gb λb w hS=>?_
  (apply zd (qr ov) hS;exact Xp;clear hS)
  (rintro v post ⟨rfl,rfl⟩ w hS;(try simp only[app]at hS);(repeat (first|refine Gp ?_|refine Gw λw hS=>?_|refine Gb λb w hS=>?_)))
  refine yB (M:=[tF ov]) hS Xr (src_fd1 hS Xh) (by simp;omega) λu4 w hS=>?_
  repeat first|refine Gp ?_|refine Gw λw hS=>?_|refine Gb λb w hS=>?_
  refine⟨⟨i+1,_,rfl,by omega,?_⟩,by dsimp only;omega⟩
  rw[hs]
  simp only[List.append_assoc]at hS
  have hS:SL W (FdO _ (fdsA t i++fdsOp ⟨ol,ot,ok,og,ov⟩)::_) _:=hS
  exact SL.into hS Xi
 ·have hie:i=t.ops.length:=by omega
  subst hie
  repeat first|refine Gp ?_|refine Gw λw hS=>?_|refine Gb λb w hS=>?_
  refine zq hx.nts ?_
  repeat first|refine Gp ?_|refine Gw λw hS=>?_|refine Gb λb w hS=>?_
  (apply zd (ints1 b t.notes.length 2) hS;exact Xp;clear hS)
  rintro u2 post rfl w hS
  (try simp only[app]at hS)
  refine yB (L:=fdsA t t.ops.length) hS Xr (src_own hS Xh) (by simp;omega) λu3 w hS=>?_
  repeat first|refine Gp ?_|refine Gw λw hS=>?_|refine Gb λb w hS=>?_
  refine zq hx.nts ?_
  refine⟨λvs w=>∃(i:Nat) (u:Value),vs=[u,.int .i64 i]∧i≤t.notes.length∧SL W (FdO u (fdsB t i)::.pt xb [.int .i64 t.lsn,x.ov,x.nv] 46::.mem H::F) w,
   λvs _=>match vs with|[_,.int _ i]=>(t.notes.length-i).toNat|_=>0,⟨0,u3,rfl,by omega,?_⟩,?_⟩
  ·rw[show fdsB t 0=fdsA t t.ops.length++[iF t.notes.length] by unfold fdsB;simp]
   exact SL.into hS Xi
  clear hS
  rintro u v3 w ⟨i,_,hvs,hi,hS⟩
  cases hvs
  have hBl:=fdsB_len t i
  repeat first|refine Gp ?_|refine Gw λw hS=>?_|refine Gb λb w hS=>?_
  refine ze (λh=>?_) (λh=>?_)
  ·have hil:i<t.notes.length:=by omega
   have hs:=fdsB_s hil
   refine zH hS Xh encNote_len hx.nts (x:=t.notes[i]) (by simp[hil]) hil ?_
   generalize t.notes[i]=o at *
   obtain⟨n1,n2,n3,n4,n5,n6,n7⟩:=o
   repeat first|refine Gp ?_|refine Gw λw hS=>?_|refine Gb λb w hS=>?_
   unfold encNote at hS
   repeat first|refine Gp ?_|refine Gw λw hS=>?_|refine Gb λb w hS=>?_
   (apply zd (Yl n7) hS;exact Xp;clear hS)
   (rintro v post ⟨rfl,rfl⟩ w hS;(try simp only[app]at hS);(repeat (first|refine Gp ?_|refine Gw λw hS=>?_|refine Gb λb w hS=>?_)))
   (apply zd (ints7 b n1 n2 n3 n4 n5 n6 (bitI n7) 2) hS;exact Xp;clear hS)
   rintro u2 post rfl w hS
   (try simp only[app]at hS)
   refine yB (L:=fdsB t i) hS Xr (src_own hS Xh) (by simp;omega) λu3 w hS=>?_
   repeat first|refine Gp ?_|refine Gw λw hS=>?_|refine Gb λb w hS=>?_
   refine⟨⟨i+1,_,rfl,by omega,?_⟩,by dsimp only;omega⟩
   rw[hs]
   have hS:SL W (FdO _ (fdsB t i++fdsNote ⟨n1,n2,n3,n4,n5,n6,n7⟩)::_) _:=hS
   exact SL.into hS Xi
  ·have hie:i=t.notes.length:=by omega
   subst hie
   rw[fdsB_e]at hS hBl
   (apply zd (Zy (FdO u (fdsItem t)) u (fdsItem t) Rdn.own (by omega)) hS;exact Xp;clear hS)
   rintro r post hq w hS
   (try simp only[app]at hS)
   unfold EncQ at hq
   unfold EncIQ encItem
   rw[hm,if_pos rfl]
   cases he:encFs (fdsItem t) with
   | error e=>
    rw[he]at hq
    obtain⟨rfl,rfl⟩:=hq
    (try simp only[app]at hS)
    repeat first|refine Gp ?_|refine Gw λw hS=>?_|refine Gb λb w hS=>?_
    exact⟨_,⟨rfl,rfl⟩,SL.into hS Xi⟩
   | ok bs=>
    rw[he]at hq
    obtain⟨v,rfl,rfl⟩:=hq
    (try simp only[app]at hS)
    repeat first|refine Gp ?_|refine Gw λw hS=>?_|refine Gb λb w hS=>?_
    exact⟨_,⟨v,rfl,rfl⟩,SL.into hS Xi⟩
theorem ZK(on:Bool):SP 80 [.bool on] [] (Gives (agg (fdcells (iF (bitI on)))) []):=by
 intro W F w hS;apply vc80;unfold Vc80;(try simp only[app]at hS)
 repeat first|refine Gp ?_|refine Gw λw hS=>?_|refine Gb λb w hS=>?_
 cases on with
 | true=>
  refine zy ?_
  (apply zd (zI 1) hS;exact Xp;clear hS)
  (rintro v post ⟨rfl,rfl⟩ w hS;(try simp only[app]at hS);(repeat (first|refine Gp ?_|refine Gw λw hS=>?_|refine Gb λb w hS=>?_)))
  (exact⟨_,⟨rfl,rfl⟩,SL.into hS Xi⟩)
 | false=>
  refine zr ?_
  (apply zd (zI 0) hS;exact Xp;clear hS)
  (rintro v post ⟨rfl,rfl⟩ w hS;(try simp only[app]at hS);(repeat (first|refine Gp ?_|refine Gw λw hS=>?_|refine Gb λb w hS=>?_)))
  (exact⟨_,⟨rfl,rfl⟩,SL.into hS Xi⟩)
section
variable (a b c d e f g:PFd)
abbrev zF:List Value:=[.int .i64 0,.int .i64 0,.string ⟨#[]⟩]
theorem fill2F:fillL (zrow zF 2) [(0,3,agg (fdcells a)),(3,3,agg (fdcells b))]=some ([a,b].map fdcells).flatten:=by simp[fillL,zrow,Value.cells,fdcells]
theorem fill4F:fillL (zrow zF 4) [(0,3,agg (fdcells a)),(3,3,agg (fdcells b)),(6,3,agg (fdcells c)),(9,3,agg (fdcells d))]=some ([a,b,c,d].map fdcells).flatten:=by simp[fillL,zrow,Value.cells,fdcells]
theorem fill7F:fillL (zrow zF 7) [(0,3,agg (fdcells a)),(3,3,agg (fdcells b)),(6,3,agg (fdcells c)),(9,3,agg (fdcells d)),(12,3,agg (fdcells e)),(15,3,agg (fdcells f)),(18,3,agg (fdcells g))]=some ([a,b,c,d,e,f,g].map fdcells).flatten:=by simp[fillL,zrow,Value.cells,fdcells]
end
def fdsCh(c:Chg):List PFd:=[iF c.table,iF c.key,iF (bitI c.gone),tF c.val]
theorem QN(c:Chg):SP 79 [agg (encChg c)] [] (λu post=>post=[FdO u (fdsCh c)]):=by
 intro W F w hS;apply vc79;unfold Vc79;(try simp only[app]at hS)
 refine zB hS λcb w hS=>?_
 unfold encChg at hS
 repeat first|refine Gp ?_|refine Gw λw hS=>?_|refine Gb λb w hS=>?_
 (apply zd (zI c.table) hS;exact Xp;clear hS)
 (rintro v post ⟨rfl,rfl⟩ w hS;(try simp only[app]at hS);(repeat (first|refine Gp ?_|refine Gw λw hS=>?_|refine Gb λb w hS=>?_)))
 (apply zd (zI c.key) hS;exact Xp;clear hS)
 (rintro v post ⟨rfl,rfl⟩ w hS;(try simp only[app]at hS);(repeat (first|refine Gp ?_|refine Gw λw hS=>?_|refine Gb λb w hS=>?_)))
 (apply zd (ZK c.gone) hS;exact Xp;clear hS)
 (rintro v post ⟨rfl,rfl⟩ w hS;(try simp only[app]at hS);(repeat (first|refine Gp ?_|refine Gw λw hS=>?_|refine Gb λb w hS=>?_)))
 (apply zd (Yc c.val) hS;exact Xp;clear hS)
 (rintro v post ⟨rfl,rfl⟩ w hS;(try simp only[app]at hS);(repeat (first|refine Gp ?_|refine Gw λw hS=>?_|refine Gb λb w hS=>?_)))
 refine zD hS (fill4F (iF c.table) (iF c.key) (iF (bitI c.gone)) (tF c.val)) λb w hS=>?_
 have hS:=OwnSl.full (n:=4) (sz:=3) rfl hS
 exact⟨_,rfl,SL.into (show SL W (FdO _ (fdsCh c)::_) _ from hS) Xi⟩
theorem Zm(H:Heap)(x:ItV)(t:PItem)(hx:ItIs H x t):SP 19 [agg (encIt x)] [.mem H] (EncIQ H t):=by
 intro W F w hS;apply vc19;unfold Vc19;(try simp only[app]at hS)
 refine zB hS λxb w hS=>?_
 repeat first|refine Gp ?_|refine Gw λw hS=>?_|refine Gb λb w hS=>?_
 (apply zd (zZ H x t hx) hS;exact Xp;clear hS)
 (rintro v post ⟨rfl,rfl⟩ w hS;(try simp only[app]at hS);(repeat (first|refine Gp ?_|refine Gw λw hS=>?_|refine Gb λb w hS=>?_)))
 refine zK (λh=>?_) (λhm=>?_)
 ·exact⟨[.mem H],by unfold EncIQ encItem;rw[h];exact⟨rfl,rfl⟩,SL.into hS Xi⟩
 have hb:=(mayItem_iff.1 hm).1
 unfold encIt at hS
 rw[hx.lsn]at hS
 repeat first|refine Gp ?_|refine Gw λw hS=>?_|refine Gb λb w hS=>?_
 refine zq hx.ops ?_
 (apply zd (zI t.lsn) hS;exact Xp;clear hS)
 (rintro v post ⟨rfl,rfl⟩ w hS;(try simp only[app]at hS);(repeat (first|refine Gp ?_|refine Gw λw hS=>?_|refine Gb λb w hS=>?_)))
 (apply zd (zI t.ops.length) hS;exact Xp;clear hS)
 (rintro v post ⟨rfl,rfl⟩ w hS;(try simp only[app]at hS);(repeat (first|refine Gp ?_|refine Gw λw hS=>?_|refine Gb λb w hS=>?_)))
 refine zD hS (fill2F (iF t.lsn) (iF t.ops.length)) λb w hS=>?_
 have hS:=OwnSl.full (n:=2) (sz:=3) rfl hS
 have hS:SL W (FdO _ (fdsA t 0)::_) _:=hS
 refine⟨λvs w=>∃(i:Nat) (u:Value),vs=[u,.int .i64 i]∧i≤t.ops.length∧SL W (FdO u (fdsA t i)::.pt xb [.int .i64 t.lsn,x.ov,x.nv] 46::.mem H::F) w,
  λvs _=>match vs with|[_,.int _ i]=>(t.ops.length-i).toNat|_=>0,⟨0,_,rfl,by omega,SL.into hS Xi⟩,?_⟩
 clear hS
 rintro u v3 w ⟨i,_,hvs,hi,hS⟩
 cases hvs
 have hAl:=fdsA_len t i
 repeat first|refine Gp ?_|refine Gw λw hS=>?_|refine Gb λb w hS=>?_
 refine zq hx.ops ?_
 repeat first|refine Gp ?_|refine Gw λw hS=>?_|refine Gb λb w hS=>?_
 refine ze (λh=>?_) (λh=>?_)
 ·have hil:i<t.ops.length:=by omega
  have hs:=fdsA_s hil
  repeat first|refine Gp ?_|refine Gw λw hS=>?_|refine Gb λb w hS=>?_
  refine zH hS Xh encOp_len' hx.ops (x:=t.ops[i]) (by simp[hil]) hil ?_
  generalize t.ops[i]=o at *
  obtain⟨ol,ot,ok,og,ov⟩:=o
  repeat first|refine Gp ?_|refine Gw λw hS=>?_|refine Gb λb w hS=>?_
  unfold encOp at hS
  repeat first|refine Gp ?_|refine Gw λw hS=>?_|refine Gb λb w hS=>?_
  (apply zd (zI ol) hS;exact Xp;clear hS)
  (rintro v post ⟨rfl,rfl⟩ w hS;(try simp only[app]at hS);(repeat (first|refine Gp ?_|refine Gw λw hS=>?_|refine Gb λb w hS=>?_)))
  refine yB (L:=fdsA t i) (M:=[iF ol]) hS Xr (src_fd1 hS Xh) (by simp;omega) λu3 w hS=>?_
  repeat first|refine Gp ?_|refine Gw λw hS=>?_|refine Gb λb w hS=>?_
  (apply zd (QN ⟨ot,ok,og,ov⟩) hS;exact Xp;clear hS)
  rintro u2 post rfl w hS
  (try simp only[app]at hS)
  refine yB (L:=fdsA t i++[iF ol]) hS Xr (src_own hS Xh) (by simp[fdsCh];omega) λu4 w hS=>?_
  repeat first|refine Gp ?_|refine Gw λw hS=>?_|refine Gb λb w hS=>?_
  refine⟨⟨i+1,_,rfl,by omega,?_⟩,by dsimp only;omega⟩
  rw[hs]
  simp only[List.append_assoc]at hS
  have hS:SL W (FdO _ (fdsA t i++fdsOp ⟨ol,ot,ok,og,ov⟩)::_) _:=hS
  exact SL.into hS Xi
 ·have hie:i=t.ops.length:=by omega
  subst hie
  repeat first|refine Gp ?_|refine Gw λw hS=>?_|refine Gb λb w hS=>?_
  refine zq hx.nts ?_
  repeat first|refine Gp ?_|refine Gw λw hS=>?_|refine Gb λb w hS=>?_
  (apply zd (zI t.notes.length) hS;exact Xp;clear hS)
  (rintro v post ⟨rfl,rfl⟩ w hS;(try simp only[app]at hS);(repeat (first|refine Gp ?_|refine Gw λw hS=>?_|refine Gb λb w hS=>?_)))
  refine yB (L:=fdsA t t.ops.length) (M:=[iF t.notes.length]) hS Xr (src_fd1 hS Xh) (by simp;omega) λu3 w hS=>?_
  refine⟨λvs w=>∃(i:Nat) (u:Value),vs=[u,.int .i64 i]∧i≤t.notes.length∧SL W (FdO u (fdsB t i)::.pt xb [.int .i64 t.lsn,x.ov,x.nv] 46::.mem H::F) w,
   λvs _=>match vs with|[_,.int _ i]=>(t.notes.length-i).toNat|_=>0,⟨0,u3,rfl,by omega,?_⟩,?_⟩
  ·rw[show fdsB t 0=fdsA t t.ops.length++[iF t.notes.length] by unfold fdsB;simp]
   exact SL.into hS Xi
  clear hS
  rintro u v3 w ⟨i,_,hvs,hi,hS⟩
  cases hvs
  have hBl:=fdsB_len t i
  repeat first|refine Gp ?_|refine Gw λw hS=>?_|refine Gb λb w hS=>?_
  refine zq hx.nts ?_
  repeat first|refine Gp ?_|refine Gw λw hS=>?_|refine Gb λb w hS=>?_
  refine ze (λh=>?_) (λh=>?_)
  ·have hil:i<t.notes.length:=by omega
   have hs:=fdsB_s hil
   repeat first|refine Gp ?_|refine Gw λw hS=>?_|refine Gb λb w hS=>?_
   refine zH hS Xh encNote_len hx.nts (x:=t.notes[i]) (by simp[hil]) hil ?_
   generalize t.notes[i]=o at *
   obtain⟨n1,n2,n3,n4,n5,n6,n7⟩:=o
   repeat first|refine Gp ?_|refine Gw λw hS=>?_|refine Gb λb w hS=>?_
   unfold encNote at hS
   repeat first|refine Gp ?_|refine Gw λw hS=>?_|refine Gb λb w hS=>?_
   (apply zd (zI n1) hS;exact Xp;clear hS)
   (rintro v post ⟨rfl,rfl⟩ w hS;(try simp only[app]at hS);(repeat (first|refine Gp ?_|refine Gw λw hS=>?_|refine Gb λb w hS=>?_)))
   (apply zd (zI n2) hS;exact Xp;clear hS)
   (rintro v post ⟨rfl,rfl⟩ w hS;(try simp only[app]at hS);(repeat (first|refine Gp ?_|refine Gw λw hS=>?_|refine Gb λb w hS=>?_)))
   (apply zd (zI n3) hS;exact Xp;clear hS)
   (rintro v post ⟨rfl,rfl⟩ w hS;(try simp only[app]at hS);(repeat (first|refine Gp ?_|refine Gw λw hS=>?_|refine Gb λb w hS=>?_)))
   (apply zd (zI n4) hS;exact Xp;clear hS)
   (rintro v post ⟨rfl,rfl⟩ w hS;(try simp only[app]at hS);(repeat (first|refine Gp ?_|refine Gw λw hS=>?_|refine Gb λb w hS=>?_)))
   (apply zd (zI n5) hS;exact Xp;clear hS)
   (rintro v post ⟨rfl,rfl⟩ w hS;(try simp only[app]at hS);(repeat (first|refine Gp ?_|refine Gw λw hS=>?_|refine Gb λb w hS=>?_)))
   (apply zd (zI n6) hS;exact Xp;clear hS)
   (rintro v post ⟨rfl,rfl⟩ w hS;(try simp only[app]at hS);(repeat (first|refine Gp ?_|refine Gw λw hS=>?_|refine Gb λb w hS=>?_)))
   (apply zd (ZK n7) hS;exact Xp;clear hS)
   (rintro v post ⟨rfl,rfl⟩ w hS;(try simp only[app]at hS);(repeat (first|refine Gp ?_|refine Gw λw hS=>?_|refine Gb λb w hS=>?_)))
   refine zD hS (fill7F (iF n1) (iF n2) (iF n3) (iF n4) (iF n5) (iF n6) (iF (bitI n7))) λb w hS=>?_
   have hS:=OwnSl.full (n:=7) (sz:=3) rfl hS
   refine yB (L:=fdsB t i) (M:=fdsNote ⟨n1,n2,n3,n4,n5,n6,n7⟩) hS Xr (src_own hS .hd) (by simp[fdsNote];omega) λu3 w hS=>?_
   repeat first|refine Gp ?_|refine Gw λw hS=>?_|refine Gb λb w hS=>?_
   refine⟨⟨i+1,_,rfl,by omega,?_⟩,by dsimp only;omega⟩
   rw[hs]
   have hS:SL W (FdO _ (fdsB t i++fdsNote ⟨n1,n2,n3,n4,n5,n6,n7⟩)::_) _:=hS
   exact SL.into hS Xi
  ·have hie:i=t.notes.length:=by omega
   subst hie
   rw[fdsB_e]at hS hBl
   (apply zd (Zg (FdO u (fdsItem t)) u (fdsItem t) Rdn.own (by omega)) hS;exact Xp;clear hS)
   rintro r post hq w hS
   (try simp only[app]at hS)
   unfold EncQ at hq
   unfold EncIQ encItem
   rw[hm,if_pos rfl]
   cases he:encFs (fdsItem t) with
   | error e=>
    rw[he]at hq
    obtain⟨rfl,rfl⟩:=hq
    (try simp only[app]at hS)
    repeat first|refine Gp ?_|refine Gw λw hS=>?_|refine Gb λb w hS=>?_
    exact⟨_,⟨rfl,rfl⟩,SL.into hS Xi⟩
   | ok bs=>
    rw[he]at hq
    obtain⟨v,rfl,rfl⟩:=hq
    (try simp only[app]at hS)
    repeat first|refine Gp ?_|refine Gw λw hS=>?_|refine Gb λb w hS=>?_
    exact⟨_,⟨v,rfl,rfl⟩,SL.into hS Xi⟩
def intR(m:Int)(r:PRd):Int × PRd:=match r.bad,r.l with
 | false,f::l=>if f.kind=1∧0≤f.n∧f.n≤m then (f.n,⟨l,false⟩) else (0,⟨f::l,true⟩)
 | _,l=>(0,⟨l,true⟩)
def flagR(r:PRd):Bool × PRd:=(decide ((intR 1 r).1=1),(intR 1 r).2)
def opR(r:PRd):AOp × PRd:=
 let a:=intR 1099511627776 r;let b:=intR 7 a.2;let c:=intR 1099511627776 b.2;let d:=flagR c.2;let e:=textP d.2
 (⟨a.1,b.1,c.1,d.1,e.1⟩,e.2)
def noteRd(r:PRd):PNote × PRd:=
 let a:=intR 2 r;let b:=intR 64 a.2;let c:=intR 8 b.2;let d:=intR 8 c.2;let e:=intR 1099511627776 d.2;let f:=intR 1099511627776 e.2;let g:=flagR f.2
 (⟨a.1,b.1,c.1,d.1,e.1,f.1,g.1⟩,g.2)
def itemR(r:PRd):PItem × PRd:=
 let a:=intR 1099511627776 r;let n:=intR 4096 a.2;let os:=manyP opR n.1.toNat n.2;let m:=intR 256 os.2;let ns:=manyP noteRd m.1.toNat m.2
 (⟨a.1,os.1,ns.1⟩,ns.2)
def decRI(l:List PFd):Option PItem:=
 let x:=itemR ⟨l,false⟩
 if x.2.bad=false∧x.2.l=[]∧mayItem x.1=true then some x.1 else none
section
variable {α β γ:Type}
def Mono(p:PRd→α × PRd):Prop:=∀r,r.bad=true→(p r).2.bad=true
structure Agr(p q:PRd→α × PRd)(V:α→Prop):Prop where
 same:∀r,(q r).2.bad=false→p r=q r
 bad:∀r,(q r).2.bad=true→(p r).2.bad=true∨V (p r).1
def seqP(p:PRd→α × PRd)(f:α→PRd→β × PRd)(r:PRd):(α × β) × PRd:=(((p r).1,(f (p r).1 (p r).2).1),(f (p r).1 (p r).2).2)
def mapP(g:α→β)(p:PRd→α × PRd)(r:PRd):β × PRd:=(g (p r).1,(p r).2)
theorem Mono.seq{p:PRd→α × PRd}{f:α→PRd→β × PRd}(hp:Mono p)(hf:∀a,Mono (f a)):Mono (seqP p f):=λr h=>hf _ _ (hp r h)
theorem Mono.map{p:PRd→α × PRd}(g:α→β)(hp:Mono p):Mono (mapP g p):=λr h=>hp r h
theorem Agr.seq{p q:PRd→α × PRd}{f g:α→PRd→β × PRd}{V:α→Prop}{U:β→Prop}(h:Agr p q V)(k:∀a,Agr (f a) (g a) U)(hg:∀a,Mono (g a))(hf:∀a,Mono (f a)):Agr (seqP p f) (seqP q g) λx=>V x.1∨U x.2:=by
 refine⟨λr hr=>?_,λr hr=>?_⟩
 ·have h1:(q r).2.bad=false:=by
   cases hb:(q r).2.bad with
   | false=>rfl
   | true=>have h2:(g (q r).1 (q r).2).2.bad=false:=hr;rw[hg _ _ hb]at h2;cases h2
  unfold seqP
  rw[h.same r h1,(k _).same _ hr]
 ·cases h1:(q r).2.bad with
  | false=>
   have e:=h.same r h1
   have hr':(g (q r).1 (q r).2).2.bad=true:=hr
   rcases (k _).bad _ hr' with h2|h2
   ·left;unfold seqP;rw[e];exact h2
   ·right;right;unfold seqP;rw[e];exact h2
  | true=>
   rcases h.bad r h1 with h2|h2
   ·exact .inl (hf _ _ h2)
   ·exact .inr (.inl h2)
theorem Agr.map{p q:PRd→α × PRd}{V:α→Prop}{U:β→Prop}(h:Agr p q V)(g:α→β)(hv:∀x,V x→U (g x)):Agr (mapP g p) (mapP g q) U:=
 ⟨λr hr=>by unfold mapP;rw[h.same r hr],λr hr=>(h.bad r hr).imp id (hv _)⟩
theorem Mono.many{p:PRd→α × PRd}(hp:Mono p):∀i,Mono (manyP p i)
 | 0,r,h=>h
 | i+1,r,h=>by unfold manyP;rw[if_pos h];exact h
theorem Agr.many{p q:PRd→α × PRd}{V:α→Prop}(h:Agr p q V)(hp:Mono p)(hq:Mono q):∀i,Agr (manyP p i) (manyP q i) λl=>∃x∈l,V x
 | 0=>⟨λr _=>rfl,λr hr=>.inl hr⟩
 | i+1=>by
  have ih:=Agr.many h hp hq i
  refine⟨λr hr=>?_,λr hr=>?_⟩
  ·unfold manyP at hr ⊢
   cases hb:r.bad with
   | true=>simp[hb]at hr ⊢
   | false=>
    simp only[hb]at hr ⊢
    have hr:(manyP q i (q r).2).2.bad=false:=hr
    have h1:(q r).2.bad=false:=by
     cases h1:(q r).2.bad with
     | false=>rfl
     | true=>rw[Mono.many hq i _ h1]at hr;cases hr
    rw[h.same r h1,ih.same _ hr]
  ·unfold manyP at hr ⊢
   cases hb:r.bad with
   | true=>left;simp[hb]
   | false=>
    simp only[hb]at hr ⊢
    have hr:(manyP q i (q r).2).2.bad=true:=hr
    show (manyP p i (p r).2).2.bad=true∨∃x∈(p r).1::(manyP p i (p r).2).1,V x
    cases h1:(q r).2.bad with
    | false=>
     rw[h.same r h1]
     rcases ih.bad _ hr with h2|⟨x,h2,h3⟩
     ·exact .inl h2
     ·exact .inr ⟨x,.tail _ h2,h3⟩
    | true=>
     rcases h.bad r h1 with h2|h2
     ·exact .inl (Mono.many hp i _ h2)
     ·exact .inr ⟨_,.head _,h2⟩
end
theorem nextP_bad(k:Int){r:PRd}(h:r.bad=true):(nextP k r).2.bad=true:=by unfold nextP;rw[h]
theorem intP_mono:Mono intP:=λr h=>nextP_bad 1 h
theorem textP_mono:Mono textP:=λr h=>nextP_bad 2 h
theorem smallP_mono(m:Int):Mono (smallP m):=λr h=>by unfold smallP;split;rfl;exact intP_mono r h
theorem bitP_mono:Mono bitP:=λr h=>smallP_mono 1 r h
theorem intR_mono(m:Int):Mono (intR m):=λr h=>by unfold intR;rw[h]
theorem flagR_mono:Mono flagR:=λr h=>intR_mono 1 r h
theorem intR_cons(m:Int)(f:PFd)(l:List PFd):intR m ⟨f::l,false⟩=if f.kind=1∧0≤f.n∧f.n≤m then (f.n,⟨l,false⟩) else (0,⟨f::l,true⟩):=rfl
theorem intP_cons(f:PFd)(l:List PFd):intP ⟨f::l,false⟩=if f.kind=1 then (f.n,⟨l,false⟩) else (0,⟨f::l,true⟩):=by
 unfold intP nextP
 simp only
 split<;>rfl
theorem intR_agr(m:Int):Agr intP (intR m) λn=>¬(0≤n∧n≤m):=by
 refine⟨λr h=>?_,λr h=>?_⟩
 ·obtain⟨l,b⟩:=r
  cases b with
  | true=>cases h
  | false=>
   cases l with
   | nil=>cases h
   | cons f l=>
    rw[intR_cons]at h ⊢
    rw[intP_cons]
    split at h
    ·rename_i hc;rw[if_pos hc,if_pos hc.1]
    ·cases h
 ·obtain⟨l,b⟩:=r
  cases b with
  | true=>exact .inl rfl
  | false=>
   cases l with
   | nil=>exact .inl rfl
   | cons f l=>
    rw[intR_cons]at h
    rw[intP_cons]
    split at h
    ·cases h
    ·rename_i hc
     by_cases hk:f.kind=1
     ·right;rw[if_pos hk];exact λhh=>hc ⟨hk,hh⟩
     ·left;rw[if_neg hk]
theorem smallP_agr(m k:Int)(hk:k≤m):Agr (smallP m) (intR k) λn=>¬(0≤n∧n≤k):=by
 have h0:=intR_agr k
 have hin:∀r,(intR k r).2.bad=false→0≤(intR k r).1∧(intR k r).1≤k:=λr h=>by
  obtain⟨l,b⟩:=r
  unfold intR at h ⊢
  cases b<;>cases l<;>simp only at h ⊢
  ·cases h
  ·split at h
   ·rename_i hc;rw[if_pos hc];exact⟨hc.2.1,hc.2.2⟩
   ·cases h
  ·cases h
  ·cases h
 refine⟨λr h=>?_,λr h=>?_⟩
 ·have:=hin r h
  unfold smallP
  rw[h0.same r h,if_neg (by omega)]
 ·unfold smallP
  split
  ·exact .inl rfl
  ·exact h0.bad r h
theorem bitP_agr:Agr bitP flagR λ_=>False:=by
 have h0:=smallP_agr 1 1 (Int.le_refl _)
 refine⟨λr h=>?_,λr h=>?_⟩
 ·unfold bitP flagR;rw[h0.same r h]
 ·left
  rcases h0.bad r h with h1|h1
  ·exact h1
  ·show (smallP 1 r).2.bad=true
   unfold smallP at h1 ⊢
   split
   ·rfl
   ·rename_i hc
    rw[if_neg hc]at h1
    exact absurd ⟨by omega,by omega⟩ h1
theorem textP_agr:Agr textP textP λ_=>False:=⟨λr h=>rfl,λr h=>.inl h⟩
def VOp(o:AOp):Prop:=¬(0≤o.lsn∧o.lsn≤1099511627776)∨¬(0≤o.table∧o.table≤7)∨¬(0≤o.key∧o.key≤1099511627776)
def mkOp(x:Int × Int × Int × Bool × ByteArray):AOp:=⟨x.1,x.2.1,x.2.2.1,x.2.2.2.1,x.2.2.2.2⟩
theorem opP_eq:opP=mapP mkOp (seqP intP λ_=>seqP (smallP 8) λ_=>seqP intP λ_=>seqP bitP λ_=>textP):=by funext r;simp only[opP,mapP,seqP,mkOp]
theorem opR_eq:opR=mapP mkOp (seqP (intR 1099511627776) λ_=>seqP (intR 7) λ_=>seqP (intR 1099511627776) λ_=>seqP flagR λ_=>textP):=by funext r;simp only[opR,mapP,seqP,mkOp]
theorem opP_mono:Mono opP:=by rw[opP_eq];exact (intP_mono.seq λ_=>(smallP_mono 8).seq λ_=>intP_mono.seq λ_=>bitP_mono.seq λ_=>textP_mono).map _
theorem opR_mono:Mono opR:=by rw[opR_eq];exact ((intR_mono _).seq λ_=>(intR_mono 7).seq λ_=>(intR_mono _).seq λ_=>flagR_mono.seq λ_=>textP_mono).map _
theorem op_agr:Agr opP opR VOp:=by
 rw[opP_eq,opR_eq]
 have a5:=textP_agr
 have a4:=bitP_agr.seq (f:=λ_=>textP) (g:=λ_=>textP) (λ_=>a5) (λ_=>textP_mono) (λ_=>textP_mono)
 have m4p:Mono (seqP bitP λ_=>textP):=bitP_mono.seq λ_=>textP_mono
 have m4q:Mono (seqP flagR λ_=>textP):=flagR_mono.seq λ_=>textP_mono
 have a3:=(intR_agr 1099511627776).seq (f:=λ_=>seqP bitP λ_=>textP) (g:=λ_=>seqP flagR λ_=>textP) (λ_=>a4) (λ_=>m4q) (λ_=>m4p)
 have m3p:Mono (seqP intP λ_=>seqP bitP λ_=>textP):=intP_mono.seq λ_=>m4p
 have m3q:Mono (seqP (intR 1099511627776) λ_=>seqP flagR λ_=>textP):=(intR_mono _).seq λ_=>m4q
 have a2:=(smallP_agr 8 7 (by decide)).seq (f:=λ_=>seqP intP λ_=>seqP bitP λ_=>textP) (g:=λ_=>seqP (intR 1099511627776) λ_=>seqP flagR λ_=>textP) (λ_=>a3) (λ_=>m3q) (λ_=>m3p)
 have a1:=(intR_agr 1099511627776).seq (f:=λ_=>seqP (smallP 8) λ_=>seqP intP λ_=>seqP bitP λ_=>textP) (g:=λ_=>seqP (intR 7) λ_=>seqP (intR 1099511627776) λ_=>seqP flagR λ_=>textP) (λ_=>a2) (λ_=>(intR_mono 7).seq λ_=>m3q) (λ_=>(smallP_mono 8).seq λ_=>m3p)
 refine a1.map mkOp λx h=>?_
 rcases h with h|h|h|h|h
 ·exact .inl h
 ·exact .inr (.inl h)
 ·exact .inr (.inr h)
 ·exact h.elim
 ·exact h.elim
def VNote(n:PNote):Prop:=¬(0≤n.at_∧n.at_≤1099511627776)∨¬(0≤n.cursor∧n.cursor≤1099511627776)∨¬(0≤n.kind∧n.kind≤2)∨¬(0≤n.id∧n.id≤64)∨¬(0≤n.table∧n.table≤8)∨¬(0≤n.weight∧n.weight≤8)
def mkNote(x:Int × Int × Int × Int × Int × Int × Bool):PNote:=⟨x.1,x.2.1,x.2.2.1,x.2.2.2.1,x.2.2.2.2.1,x.2.2.2.2.2.1,x.2.2.2.2.2.2⟩
theorem noteP_eq:noteP=mapP mkNote (seqP (smallP 2) λ_=>seqP (smallP 64) λ_=>seqP (smallP 8) λ_=>seqP (smallP 8) λ_=>seqP intP λ_=>seqP intP λ_=>bitP):=by funext r;simp only[noteP,mapP,seqP,mkNote]
theorem noteR_eq:noteRd=mapP mkNote (seqP (intR 2) λ_=>seqP (intR 64) λ_=>seqP (intR 8) λ_=>seqP (intR 8) λ_=>seqP (intR 1099511627776) λ_=>seqP (intR 1099511627776) λ_=>flagR):=by funext r;simp only[noteRd,mapP,seqP,mkNote]
theorem noteP_mono:Mono noteP:=by rw[noteP_eq];exact ((smallP_mono 2).seq λ_=>(smallP_mono 64).seq λ_=>(smallP_mono 8).seq λ_=>(smallP_mono 8).seq λ_=>intP_mono.seq λ_=>intP_mono.seq λ_=>bitP_mono).map _
theorem noteR_mono:Mono noteRd:=by rw[noteR_eq];exact ((intR_mono 2).seq λ_=>(intR_mono 64).seq λ_=>(intR_mono 8).seq λ_=>(intR_mono 8).seq λ_=>(intR_mono _).seq λ_=>(intR_mono _).seq λ_=>flagR_mono).map _
theorem note_agr:Agr noteP noteRd VNote:=by
 rw[noteP_eq,noteR_eq]
 have a6:=(intR_agr 1099511627776).seq (f:=λ_=>bitP) (g:=λ_=>flagR) (λ_=>bitP_agr) (λ_=>flagR_mono) (λ_=>bitP_mono)
 have p6:Mono (seqP intP λ_=>bitP):=intP_mono.seq λ_=>bitP_mono
 have q6:Mono (seqP (intR 1099511627776) λ_=>flagR):=(intR_mono _).seq λ_=>flagR_mono
 have a5:=(intR_agr 1099511627776).seq (f:=λ_=>seqP intP λ_=>bitP) (g:=λ_=>seqP (intR 1099511627776) λ_=>flagR) (λ_=>a6) (λ_=>q6) (λ_=>p6)
 have p5:Mono (seqP intP λ_=>seqP intP λ_=>bitP):=intP_mono.seq λ_=>p6
 have q5:Mono (seqP (intR 1099511627776) λ_=>seqP (intR 1099511627776) λ_=>flagR):=(intR_mono _).seq λ_=>q6
 have a4:=(smallP_agr 8 8 (by decide)).seq (f:=λ_=>seqP intP λ_=>seqP intP λ_=>bitP) (g:=λ_=>seqP (intR 1099511627776) λ_=>seqP (intR 1099511627776) λ_=>flagR) (λ_=>a5) (λ_=>q5) (λ_=>p5)
 have p4:=(smallP_mono 8).seq (f:=λ_=>seqP intP λ_=>seqP intP λ_=>bitP) λ_=>p5
 have q4:=(intR_mono 8).seq (f:=λ_=>seqP (intR 1099511627776) λ_=>seqP (intR 1099511627776) λ_=>flagR) λ_=>q5
 have a3:=(smallP_agr 8 8 (by decide)).seq (f:=λ_=>seqP (smallP 8) λ_=>seqP intP λ_=>seqP intP λ_=>bitP) (g:=λ_=>seqP (intR 8) λ_=>seqP (intR 1099511627776) λ_=>seqP (intR 1099511627776) λ_=>flagR) (λ_=>a4) (λ_=>q4) (λ_=>p4)
 have p3:=(smallP_mono 8).seq (f:=λ_=>seqP (smallP 8) λ_=>seqP intP λ_=>seqP intP λ_=>bitP) λ_=>p4
 have q3:=(intR_mono 8).seq (f:=λ_=>seqP (intR 8) λ_=>seqP (intR 1099511627776) λ_=>seqP (intR 1099511627776) λ_=>flagR) λ_=>q4
 have a2:=(smallP_agr 64 64 (by decide)).seq (f:=λ_=>seqP (smallP 8) λ_=>seqP (smallP 8) λ_=>seqP intP λ_=>seqP intP λ_=>bitP) (g:=λ_=>seqP (intR 8) λ_=>seqP (intR 8) λ_=>seqP (intR 1099511627776) λ_=>seqP (intR 1099511627776) λ_=>flagR) (λ_=>a3) (λ_=>q3) (λ_=>p3)
 have p2:=(smallP_mono 64).seq (f:=λ_=>seqP (smallP 8) λ_=>seqP (smallP 8) λ_=>seqP intP λ_=>seqP intP λ_=>bitP) λ_=>p3
 have q2:=(intR_mono 64).seq (f:=λ_=>seqP (intR 8) λ_=>seqP (intR 8) λ_=>seqP (intR 1099511627776) λ_=>seqP (intR 1099511627776) λ_=>flagR) λ_=>q3
 have a1:=(smallP_agr 2 2 (by decide)).seq (f:=λ_=>seqP (smallP 64) λ_=>seqP (smallP 8) λ_=>seqP (smallP 8) λ_=>seqP intP λ_=>seqP intP λ_=>bitP) (g:=λ_=>seqP (intR 64) λ_=>seqP (intR 8) λ_=>seqP (intR 8) λ_=>seqP (intR 1099511627776) λ_=>seqP (intR 1099511627776) λ_=>flagR) (λ_=>a2) (λ_=>q2) (λ_=>p2)
 refine a1.map mkNote λx h=>?_
 rcases h with h|h|h|h|h|h|h
 ·exact .inr (.inr (.inl h))
 ·exact .inr (.inr (.inr (.inl h)))
 ·exact .inr (.inr (.inr (.inr (.inl h))))
 ·exact .inr (.inr (.inr (.inr (.inr h))))
 ·exact .inl h
 ·exact .inr (.inl h)
 ·exact h.elim
def mkItem(x:Int × (Int × List AOp) × Int × List PNote):PItem:=⟨x.1,x.2.1.2,x.2.2.2⟩
def opsRd(one:PRd→AOp × PRd)(i:PRd→Int × PRd):PRd→(Int × List AOp) × PRd:=seqP i λn=>manyP one n.toNat
def notesRd(one:PRd→PNote × PRd)(i:PRd→Int × PRd):PRd→(Int × List PNote) × PRd:=seqP i λn=>manyP one n.toNat
theorem itemP_eq:itemP=mapP mkItem (seqP intP λ_=>seqP (opsRd opP (smallP 4096)) λ_=>notesRd noteP (smallP 256)):=by funext r;simp only[itemP,mapP,seqP,mkItem,opsRd,notesRd]
theorem itemR_eq:itemR=mapP mkItem (seqP (intR 1099511627776) λ_=>seqP (opsRd opR (intR 4096)) λ_=>notesRd noteRd (intR 256)):=by funext r;simp only[itemR,mapP,seqP,mkItem,opsRd,notesRd]
def VItem(x:PItem):Prop:=¬(0≤x.lsn∧x.lsn≤1099511627776)∨(∃o∈x.ops,VOp o)∨∃n∈x.notes,VNote n
theorem smallS_agr(m:Int):Agr (smallP m) (intR m) λ_=>False:=by
 have h0:=smallP_agr m m (Int.le_refl _)
 refine⟨h0.same,λr h=>?_⟩
 rcases h0.bad r h with h1|h1
 ·exact .inl h1
 ·left
  unfold smallP at h1 ⊢
  split
  ·rfl
  ·rename_i hc
   rw[if_neg hc]at h1
   exact absurd ⟨by omega,by omega⟩ h1
theorem item_agr:Agr itemP itemR VItem:=by
 rw[itemP_eq,itemR_eq]
 have o1:Agr (opsRd opP (smallP 4096)) (opsRd opR (intR 4096)) λx=>False∨∃o∈x.2,VOp o:=(smallS_agr 4096).seq (λn=>op_agr.many opP_mono opR_mono n.toNat) (λn=>opR_mono.many _) (λn=>opP_mono.many _)
 have n1:Agr (notesRd noteP (smallP 256)) (notesRd noteRd (intR 256)) λx=>False∨∃o∈x.2,VNote o:=(smallS_agr 256).seq (λn=>note_agr.many noteP_mono noteR_mono n.toNat) (λn=>noteR_mono.many _) (λn=>noteP_mono.many _)
 have mo:Mono (opsRd opP (smallP 4096)):=(smallP_mono _).seq λn=>opP_mono.many _
 have mo':Mono (opsRd opR (intR 4096)):=(intR_mono _).seq λn=>opR_mono.many _
 have mn:Mono (notesRd noteP (smallP 256)):=(smallP_mono _).seq λn=>noteP_mono.many _
 have mn':Mono (notesRd noteRd (intR 256)):=(intR_mono _).seq λn=>noteR_mono.many _
 have a2:=o1.seq (f:=λ_=>notesRd noteP (smallP 256)) (g:=λ_=>notesRd noteRd (intR 256)) (λ_=>n1) (λ_=>mn') (λ_=>mn)
 have a1:=(intR_agr 1099511627776).seq (f:=λ_=>seqP (opsRd opP (smallP 4096)) λ_=>notesRd noteP (smallP 256)) (g:=λ_=>seqP (opsRd opR (intR 4096)) λ_=>notesRd noteRd (intR 256)) (λ_=>a2) (λ_=>mo'.seq λ_=>mn') (λ_=>mo.seq λ_=>mn)
 refine a1.map mkItem λx h=>?_
 rcases h with h|(h|h)|(h|h)
 ·exact .inl h
 ·exact h.elim
 ·exact .inr (.inl h)
 ·exact h.elim
 ·exact .inr (.inr h)
theorem mayItem_V{x:PItem}(h:mayItem x=true):¬VItem x:=by
 unfold mayItem at h
 rw[Bool.and_eq_true,Bool.and_eq_true,decide_eq_true_eq,List.all_eq_true,List.all_eq_true]at h
 obtain⟨⟨h1,h2⟩,h3⟩:=h
 rintro (hv|⟨o,ho,hv⟩|⟨n,hn,hv⟩)
 ·omega
 ·have:=h2 o ho
  unfold mayOp at this
  rw[decide_eq_true_eq]at this
  unfold VOp at hv
  omega
 ·have:=h3 n hn
  unfold mayNote at this
  rw[decide_eq_true_eq]at this
  unfold VNote at hv
  omega
theorem decR_eq(l:List PFd):decRI l=decI l:=by
 unfold decRI decI
 simp only
 cases hb:(itemR ⟨l,false⟩).2.bad with
 | false=>rw[item_agr.same _ hb,hb]
 | true=>
  rw[if_neg (by simp),if_neg]
  rintro ⟨h1,_,h3⟩
  rcases item_agr.bad _ hb with h|h
  ·rw[h]at h1;cases h1
  ·exact mayItem_V h3 h
theorem decF_len{b:List UInt8}{l:List PFd}(h:decF b= .ok l):l.length≤32767:=by
 rw[decF_eq]at h
 split at h
 ·have h1:=fieldsF_len (mostF 32767 ⟨b,0⟩).1 (mostF 32767 ⟨b,0⟩).2
  have h2:=mostF_le 32767 ⟨b,0⟩
  cases h;omega
 ·cases h
theorem smallP_in{m:Int}(hm:0≤m)(r:PRd):0≤(smallP m r).1∧(smallP m r).1≤m:=by
 unfold smallP
 split
 ·exact⟨Int.le_refl _,hm⟩
 ·omega
theorem intR_in{m:Int}(hm:0≤m)(r:PRd):0≤(intR m r).1∧(intR m r).1≤m:=by
 obtain⟨l,b⟩:=r
 unfold intR
 cases b with
 | true=>exact⟨Int.le_refl _,hm⟩
 | false=>
  cases l with
  | nil=>exact⟨Int.le_refl _,hm⟩
  | cons f l=>
   simp only
   split
   ·rename_i h;exact⟨h.2.1,h.2.2⟩
   ·exact⟨Int.le_refl _,hm⟩
theorem manyP_stop{α:Type}(one:PRd→α × PRd){i:Nat}{r:PRd}(h:i=0∨r.bad=true):manyP one i r=([],r):=by
 cases i with
 | zero=>rfl
 | succ i=>unfold manyP;rw[if_pos (by rcases h with h|h;cases h;exact h)]
theorem manyP_go{α:Type}(one:PRd→α × PRd){i:Nat}{r:PRd}(h:r.bad=false):manyP one (i+1) r=((one r).1::(manyP one i (one r).2).1,(manyP one i (one r).2).2):=by
 conv=>lhs;unfold manyP
 rw[if_neg (by rw[h];decide)]
structure ManyAt{α:Type}(one:PRd→α × PRd)(n:Nat)(r0:PRd)(xs:List α)(k:Nat)(r:PRd):Prop where
 eq:manyP one n r0=(xs++(manyP one k r).1,(manyP one k r).2)
 le:xs.length+k≤n
theorem ManyAt.start{α:Type}(one:PRd→α × PRd)(n:Nat)(r:PRd):ManyAt one n r [] n r:=⟨rfl,by simp⟩
theorem ManyAt.step{α:Type}{one:PRd→α × PRd}{n:Nat}{r0:PRd}{xs:List α}{k:Nat}{r:PRd}(h:ManyAt one n r0 xs (k+1) r)(hb:r.bad=false):ManyAt one n r0 (xs++[(one r).1]) k (one r).2:=
 ⟨by rw[h.eq,manyP_go one hb];simp,by have:=h.le;rw[List.length_append,List.length_singleton];omega⟩
theorem ManyAt.stop{α:Type}{one:PRd→α × PRd}{n:Nat}{r0:PRd}{xs:List α}{k:Nat}{r:PRd}(h:ManyAt one n r0 xs k r)(hb:k=0∨r.bad=true):manyP one n r0=(xs,r):=by
 rw[h.eq,manyP_stop one hb,List.append_nil]
theorem QR(rp:Nat)(r:PRd):SP 220 [.pointer (some ⟨rp,0,none⟩)] [.ob (PRdO rp r)] (Gives (agg (encOp (opP r).1)) [.ob (PRdO rp (opP r).2)]):=by
 intro W F w hS;apply vc220;unfold Vc220;(try simp only[app]at hS)
 repeat first|refine Gp ?_|refine Gw λw hS=>?_|refine Gb λb w hS=>?_
 (apply zd (yu rp r) hS;exact Xp;clear hS)
 (rintro v post ⟨rfl,rfl⟩ w hS;(try simp only[app]at hS);(repeat (first|refine Gp ?_|refine Gw λw hS=>?_|refine Gb λb w hS=>?_)))
 (apply zd (zU rp (intP r).2 8) hS;exact Xp;clear hS)
 (rintro v post ⟨rfl,rfl⟩ w hS;(try simp only[app]at hS);(repeat (first|refine Gp ?_|refine Gw λw hS=>?_|refine Gb λb w hS=>?_)))
 (apply zd (yu rp _) hS;exact Xp;clear hS)
 (rintro v post ⟨rfl,rfl⟩ w hS;(try simp only[app]at hS);(repeat (first|refine Gp ?_|refine Gw λw hS=>?_|refine Gb λb w hS=>?_)))
 (apply zd (ZJ rp _) hS;exact Xp;clear hS)
 (rintro v post ⟨rfl,rfl⟩ w hS;(try simp only[app]at hS);(repeat (first|refine Gp ?_|refine Gw λw hS=>?_|refine Gb λb w hS=>?_)))
 (apply zd (Y5 rp _) hS;exact Xp;clear hS)
 (rintro v post ⟨rfl,rfl⟩ w hS;(try simp only[app]at hS);(repeat (first|refine Gp ?_|refine Gw λw hS=>?_|refine Gb λb w hS=>?_)))
 simp only[opP]
 exact⟨_,⟨rfl,rfl⟩,SL.into hS Xi⟩
theorem qo(rp:Nat)(r:PRd):SP 221 [.pointer (some ⟨rp,0,none⟩)] [.ob (PRdO rp r)] (Gives (agg (encNote (noteP r).1)) [.ob (PRdO rp (noteP r).2)]):=by
 intro W F w hS;apply vc221;unfold Vc221;(try simp only[app]at hS)
 repeat first|refine Gp ?_|refine Gw λw hS=>?_|refine Gb λb w hS=>?_
 (apply zd (zU rp r 2) hS;exact Xp;clear hS)
 (rintro v post ⟨rfl,rfl⟩ w hS;(try simp only[app]at hS);(repeat (first|refine Gp ?_|refine Gw λw hS=>?_|refine Gb λb w hS=>?_)))
 (apply zd (zU rp _ 64) hS;exact Xp;clear hS)
 (rintro v post ⟨rfl,rfl⟩ w hS;(try simp only[app]at hS);(repeat (first|refine Gp ?_|refine Gw λw hS=>?_|refine Gb λb w hS=>?_)))
 (apply zd (zU rp _ 8) hS;exact Xp;clear hS)
 (rintro v post ⟨rfl,rfl⟩ w hS;(try simp only[app]at hS);(repeat (first|refine Gp ?_|refine Gw λw hS=>?_|refine Gb λb w hS=>?_)))
 (apply zd (zU rp _ 8) hS;exact Xp;clear hS)
 (rintro v post ⟨rfl,rfl⟩ w hS;(try simp only[app]at hS);(repeat (first|refine Gp ?_|refine Gw λw hS=>?_|refine Gb λb w hS=>?_)))
 (apply zd (yu rp _) hS;exact Xp;clear hS)
 (rintro v post ⟨rfl,rfl⟩ w hS;(try simp only[app]at hS);(repeat (first|refine Gp ?_|refine Gw λw hS=>?_|refine Gb λb w hS=>?_)))
 (apply zd (yu rp _) hS;exact Xp;clear hS)
 (rintro v post ⟨rfl,rfl⟩ w hS;(try simp only[app]at hS);(repeat (first|refine Gp ?_|refine Gw λw hS=>?_|refine Gb λb w hS=>?_)))
 (apply zd (ZJ rp _) hS;exact Xp;clear hS)
 (rintro v post ⟨rfl,rfl⟩ w hS;(try simp only[app]at hS);(repeat (first|refine Gp ?_|refine Gw λw hS=>?_|refine Gb λb w hS=>?_)))
 simp only[noteP]
 exact⟨_,⟨rfl,rfl⟩,SL.into hS Xi⟩
def DecIQ(X:Chunk)(H:Heap)(b:List UInt8)(u:Value)(post:List Chunk):Prop:=match decItem b with
 | .error e=>e≠0∧∃H',H.le H'∧u= .tuple #[agg (encIt ⟨0,.slice none 0 0,.slice none 0 0⟩),.int .i64 e]∧post=[X,.mem H']
 | .ok t=>∃x H',H.le H'∧u= .tuple #[agg (encIt x),.int .i64 0]∧ItIs H' x t∧post=[X,.mem H']
theorem decItem_er{b:List UInt8}{e:Int}(h:decF b= .error e):decItem b= .error e:=by unfold decItem;rw[h]
theorem decItem_no{b:List UInt8}{l:List PFd}(h:decF b= .ok l)(h2:¬((itemP ⟨l,false⟩).2.bad=false∧(itemP ⟨l,false⟩).2.l=[]∧mayItem (itemP ⟨l,false⟩).1=true)):decItem b= .error 3:=by
 unfold decItem decI;rw[h];simp only;rw[if_neg h2]
theorem decItem_is{b:List UInt8}{l:List PFd}(h:decF b= .ok l)(h2:(itemP ⟨l,false⟩).2.bad=false∧(itemP ⟨l,false⟩).2.l=[]∧mayItem (itemP ⟨l,false⟩).1=true):decItem b= .ok (itemP ⟨l,false⟩).1:=by
 unfold decItem decI;rw[h];simp only;rw[if_pos h2]
theorem decF_er{b:List UInt8}{e:Int}(h:decF b= .error e):e≠0:=by
 rw[decF_eq]at h
 split at h
 ·cases h
 ·rename_i h2;cases h;exact h2
abbrev OpO(v:Value)(l:List AOp):Chunk:=.ob (OwnSl v 96 5 l.length (l.map encOp).flatten)
abbrev NtO(v:Value)(l:List PNote):Chunk:=.ob (OwnSl v 98 7 l.length (l.map encNote).flatten)
structure ItRd(l:List PFd)(lsn:Int)(r1:PRd):Prop where
 lsn:(itemP ⟨l,false⟩).1.lsn=lsn
 ops:(itemP ⟨l,false⟩).1.ops=(manyP opP (smallP 4096 r1).1.toNat (smallP 4096 r1).2).1
 nts:∀r2,(manyP opP (smallP 4096 r1).1.toNat (smallP 4096 r1).2).2=r2→(itemP ⟨l,false⟩).1.notes=(manyP noteP (smallP 256 r2).1.toNat (smallP 256 r2).2).1∧(itemP ⟨l,false⟩).2=(manyP noteP (smallP 256 r2).1.toNat (smallP 256 r2).2).2
theorem ItRd.is(l:List PFd):ItRd l (intP ⟨l,false⟩).1 (intP ⟨l,false⟩).2:=⟨rfl,rfl,λr2 h=>by subst h;exact⟨rfl,rfl⟩⟩
theorem Yf(X:Chunk)(H:Heap)(v:Value)(bs:List UInt8)(hv:Rdb X v bs):SP 172 [v] [X,.mem H] (DecIQ X H bs):=by
 intro W F w hS;apply vc172;unfold Vc172;(try simp only[app]at hS)
 refine Gb λzb w hS=>?_
 (apply zd (Zw X v bs hv) hS;exact Xp;clear hS)
 rintro r post hq w hS
 unfold DecQ at hq
 cases hd:decF bs with
 | error e=>
  rw[hd]at hq
  obtain⟨rfl,rfl⟩:=hq
  have he:=decF_er hd
  (try simp only[app]at hS)
  repeat first|refine Gp ?_|refine Gw λw hS=>?_|refine Gb λb w hS=>?_
  refine ze (λ_=>?_) (λh=>absurd he h)
  repeat first|refine Gp ?_|refine Gw λw hS=>?_|refine Gb λb w hS=>?_
  exact⟨[X,.mem H],by unfold DecIQ;rw[decItem_er hd];exact⟨he,H,Heap.le_refl H,rfl,rfl⟩,SL.into hS Xi⟩
 | ok l=>
  rw[hd]at hq
  obtain⟨lv,rfl,rfl⟩:=hq
  (try simp only[app]at hS)
  repeat first|refine Gp ?_|refine Gw λw hS=>?_|refine Gb λb w hS=>?_
  refine ze (λh=>absurd rfl h) (λ_=>?_)
  (apply zd (qx lv l) hS;exact Xp;clear hS)
  rintro _ post ⟨rp,rfl,rfl⟩ w hS
  (try simp only[app]at hS)
  (apply zd (yu rp ⟨l,false⟩) hS;exact Xp;clear hS)
  rintro v1 post ⟨rfl,rfl⟩ w hS
  (try simp only[app]at hS)
  have hI:=ItRd.is l
  generalize (intP ⟨l,false⟩).1=lsn at *
  generalize (intP ⟨l,false⟩).2=r1 at *
  have hn1:=smallP_in (m:=4096) (by decide) r1
  refine Gp ?_
  refine Gb λxb w hS=>?_
  have hS:SL W (OpO (.slice none 0 0) []::_) _:=OwnSl.nil hS
  have hS:SL W (NtO (.slice none 0 0) []::_) _:=OwnSl.nil hS
  refine⟨λus w=>us=[]∧∃ov,SL W (OpO ov (manyP opP (smallP 4096 r1).1.toNat (smallP 4096 r1).2).1::.ob (PRdO rp (manyP opP (smallP 4096 r1).1.toNat (smallP 4096 r1).2).2)::NtO (.slice none 0 0) []::.pt xb [.int .i64 lsn,ov,.slice none 0 0] 46::.pt zb [.int .i64 0,.slice none 0 0,.slice none 0 0] 46::X::.mem H::F) w,?_,?_⟩
  ·(apply zd (zU rp r1 4096) hS;exact Xp;clear hS)
   rintro v1 post ⟨rfl,rfl⟩ w hS
   (try simp only[app]at hS)
   generalize (smallP 4096 r1).1=n1 at *
   generalize (smallP 4096 r1).2=r2 at *
   refine⟨λus w=>∃(k:Nat) (ops:List AOp) (r:PRd) (ov:Value),us=[.int .i64 k]∧ManyAt opP n1.toNat r2 ops k r∧SL W (OpO ov ops::.ob (PRdO rp r)::NtO (.slice none 0 0) []::.pt xb [.int .i64 lsn,ov,.slice none 0 0] 46::.pt zb [.int .i64 0,.slice none 0 0,.slice none 0 0] 46::X::.mem H::F) w,
    λus _=>match us with|[.int _ i]=>i.toNat|_=>0,⟨n1.toNat,[],r2,.slice none 0 0,by rw[show ((n1.toNat:Nat):Int)=n1 by omega],ManyAt.start _ _ _,SL.into hS Xi⟩,?_⟩
   clear hS
   rintro v8 w ⟨k,ops,r,ov,hus,hM,hS⟩
   cases hus
   have hle:=hM.le
   repeat first|refine Gp ?_|refine Gw λw hS=>?_|refine Gb λb w hS=>?_
   refine ze (λh=>?_) (λh=>?_)
   ·(apply zd (ZZ rp r) hS;exact Xp;clear hS)
    (rintro v post ⟨rfl,rfl⟩ w hS;(try simp only[app]at hS);(repeat (first|refine Gp ?_|refine Gw λw hS=>?_|refine Gb λb w hS=>?_)))
    refine zK (λhb=>?_) (λhb=>?_)
    ·obtain⟨k,rfl⟩:∃j,k=j+1:=⟨k-1,by omega⟩
     have hM:=hM.step hb
     repeat first|refine Gp ?_|refine Gw λw hS=>?_|refine Gb λb w hS=>?_
     (apply zd (QR rp r) hS;exact Xp;clear hS)
     (rintro v post ⟨rfl,rfl⟩ w hS;(try simp only[app]at hS);(repeat (first|refine Gp ?_|refine Gw λw hS=>?_|refine Gb λb w hS=>?_)))
     refine yD (n:=ops.length) (xs:=ops) (y:=(opP r).1) (enc:=encOp) hS Xr Xh encOp_len' (λx=>encOp_one x) rfl (by omega) (by omega) λu w hS=>?_
     have h1:=OwnSl.one hS
     repeat first|refine Gp ?_|refine Gw λw hS=>?_|refine Gb λb w hS=>?_
     refine⟨⟨k,_,_,u,by rw[show ((k+1:Nat):Int)-1=(k:Int) by omega],hM,?_⟩,by dsimp only;omega⟩
     have hS:=hS.snocL (x:=(opP r).1)
     exact SL.into hS Xi
    ·refine⟨rfl,ov,?_⟩
     rw[hM.stop (.inr hb)];exact SL.into hS Xi
   ·refine⟨rfl,ov,?_⟩
    rw[hM.stop (.inl (by omega))];exact SL.into hS Xi
  ·clear hS
   rintro w ⟨_,ov,hS⟩
   have hops:=hI.ops
   obtain⟨hnts,hrd⟩:=hI.nts _ rfl
   generalize (manyP opP (smallP 4096 r1).1.toNat (smallP 4096 r1).2).1=ops at *
   generalize (manyP opP (smallP 4096 r1).1.toNat (smallP 4096 r1).2).2=r3 at *
   have hn2:=smallP_in (m:=256) (by decide) r3
   refine⟨λus w=>us=[]∧∃nv,SL W (NtO nv (manyP noteP (smallP 256 r3).1.toNat (smallP 256 r3).2).1::.ob (PRdO rp (manyP noteP (smallP 256 r3).1.toNat (smallP 256 r3).2).2)::OpO ov ops::.pt xb [.int .i64 lsn,ov,nv] 46::.pt zb [.int .i64 0,.slice none 0 0,.slice none 0 0] 46::X::.mem H::F) w,?_,?_⟩
   ·(apply zd (zU rp r3 256) hS;exact Xp;clear hS)
    rintro v1 post ⟨rfl,rfl⟩ w hS
    (try simp only[app]at hS)
    generalize (smallP 256 r3).1=n1 at *
    generalize (smallP 256 r3).2=r2 at *
    refine⟨λus w=>∃(k:Nat) (nts:List PNote) (r:PRd) (nv:Value),us=[.int .i64 k]∧ManyAt noteP n1.toNat r2 nts k r∧SL W (NtO nv nts::.ob (PRdO rp r)::OpO ov ops::.pt xb [.int .i64 lsn,ov,nv] 46::.pt zb [.int .i64 0,.slice none 0 0,.slice none 0 0] 46::X::.mem H::F) w,
     λus _=>match us with|[.int _ i]=>i.toNat|_=>0,⟨n1.toNat,[],r2,.slice none 0 0,by rw[show ((n1.toNat:Nat):Int)=n1 by omega],ManyAt.start _ _ _,SL.into hS Xi⟩,?_⟩
    clear hS
    rintro v8 w ⟨k,nts,r,nv,hus,hM,hS⟩
    cases hus
    have hle:=hM.le
    repeat first|refine Gp ?_|refine Gw λw hS=>?_|refine Gb λb w hS=>?_
    refine ze (λh=>?_) (λh=>?_)
    ·(apply zd (ZZ rp r) hS;exact Xp;clear hS)
     (rintro v post ⟨rfl,rfl⟩ w hS;(try simp only[app]at hS);(repeat (first|refine Gp ?_|refine Gw λw hS=>?_|refine Gb λb w hS=>?_)))
     refine zK (λhb=>?_) (λhb=>?_)
     ·obtain⟨k,rfl⟩:∃j,k=j+1:=⟨k-1,by omega⟩
      have hM:=hM.step hb
      repeat first|refine Gp ?_|refine Gw λw hS=>?_|refine Gb λb w hS=>?_
      (apply zd (qo rp r) hS;exact Xp;clear hS)
      (rintro v post ⟨rfl,rfl⟩ w hS;(try simp only[app]at hS);(repeat (first|refine Gp ?_|refine Gw λw hS=>?_|refine Gb λb w hS=>?_)))
      refine yD (n:=nts.length) (xs:=nts) (y:=(noteP r).1) (enc:=encNote) hS Xr Xh encNote_len encNote_one rfl (by omega) (by omega) λu w hS=>?_
      have h1:=OwnSl.one hS
      repeat first|refine Gp ?_|refine Gw λw hS=>?_|refine Gb λb w hS=>?_
      refine⟨⟨k,_,_,u,by rw[show ((k+1:Nat):Int)-1=(k:Int) by omega],hM,?_⟩,by dsimp only;omega⟩
      have hS:=hS.snocL (x:=(noteP r).1)
      exact SL.into hS Xi
     ·refine⟨rfl,nv,?_⟩
      rw[hM.stop (.inr hb)];exact SL.into hS Xi
    ·refine⟨rfl,nv,?_⟩
     rw[hM.stop (.inl (by omega))];exact SL.into hS Xi
   ·clear hS
    rintro w ⟨_,nv,hS⟩
    rw[← hnts,← hrd,← hops]at hS
    have hlsn:=hI.lsn
    generalize ht:(itemP ⟨l,false⟩).1=t at *
    generalize hr:(itemP ⟨l,false⟩).2=r at *
    obtain⟨H1,h01,hO,hS⟩:=OwnSl.freeze (SL.into hS (t:=.mem H::OpO ov t.ops::NtO nv t.notes::.ob (PRdO rp r)::.pt xb [.int .i64 lsn,ov,nv] 46::.pt zb [.int .i64 0,.slice none 0 0,.slice none 0 0] 46::X::F) Xi)
    obtain⟨H2,h12,hN,hS⟩:=OwnSl.freeze hS
    have hx:ItIs H2 ⟨lsn,ov,nv⟩ t:=⟨hlsn.symm,hO.mono h12,hN⟩
    have h02:=Heap.le_trans h01 h12
    (apply zd (qQ rp r) hS;exact Xp;clear hS)
    (rintro v post ⟨rfl,rfl⟩ w hS;(try simp only[app]at hS);(repeat (first|refine Gp ?_|refine Gw λw hS=>?_|refine Gb λb w hS=>?_)))
    have hno:¬(r.bad=false∧r.l=[]∧mayItem t=true)→∀{w:World},SL W (X::.mem H2::F) w→∃post,DecIQ X H bs (.tuple #[agg (encIt ⟨0,.slice none 0 0,.slice none 0 0⟩),.int .i64 3]) post∧SL W (app post F) w:=λh w hS=>⟨[X,.mem H2],by unfold DecIQ;rw[decItem_no hd (by rw[ht,hr];exact h)];exact⟨by decide,H2,h02,rfl,rfl⟩,hS⟩
    refine zK (λhb=>?_) (λhb=>?_)
    ·have hb:=of_decide_eq_false hb
     repeat first|refine Gp ?_|refine Gw λw hS=>?_|refine Gb λb w hS=>?_
     exact hno (λh=>hb ⟨h.1,h.2.1⟩) (SL.into hS Xi)
    ·have hb:=of_decide_eq_true hb
     repeat first|refine Gp ?_|refine Gw λw hS=>?_|refine Gb λb w hS=>?_
     (apply zd (z6 H2 ⟨lsn,ov,nv⟩ t hx) hS;exact Xp;clear hS)
     (rintro v post ⟨rfl,rfl⟩ w hS;(try simp only[app]at hS);(repeat (first|refine Gp ?_|refine Gw λw hS=>?_|refine Gb λb w hS=>?_)))
     refine zK (λhm=>?_) (λhm=>?_)
     ·repeat first|refine Gp ?_|refine Gw λw hS=>?_|refine Gb λb w hS=>?_
      exact hno (λh=>by rw[h.2.2]at hm;cases hm) (SL.into hS Xi)
     ·have h1:=encIt_one hx
      refine zA hS Xh rfl ?_
      refine zP hS Xu rfl rfl h1 λw hS=>?_
      repeat first|refine Gp ?_|refine Gw λw hS=>?_|refine Gb λb w hS=>?_
      exact⟨[X,.mem H2],by unfold DecIQ;rw[decItem_is hd (by rw[ht,hr];exact⟨hb.1,hb.2,hm⟩),ht];exact⟨⟨lsn,ov,nv⟩,H2,h02,rfl,hx,rfl⟩,SL.into hS Xi⟩
def Tab1(x:Nat × List Cell):zG:=HEx λm:List (Int × Cell)=>zT (RelG m x.2) [.ob (MapO KI cellV x.1 m)]
theorem Tab1.iff{W w:World}{x:Nat × List Cell}{l:List Chunk}:SL W (.ob (Tab1 x)::l) w↔∃m,RelG m x.2∧SL W (.ob (MapO KI cellV x.1 m)::l) w:=by
 unfold Tab1
 simp only[SL.ex,SL.fact,List.cons_append,List.nil_append]
abbrev mapV(b:Nat):Value:=.map (some b)
def Grd(r:Nat)(ts:List (List Cell)):zG:=HEx λx:Nat × Nat × List Value × List Nat=>zT (x.2.2.2.length=ts.length∧ts.length≤8∧okS ts)
 [.pt r [.slice (some ⟨x.1,0,none⟩) ts.length x.2.1] 208,.pt x.1 (x.2.2.2.map mapV++x.2.2.1) 213,.ob (zh Tab1 (x.2.2.2.zip ts))]
theorem Grd.iff{W w:World}{r:Nat}{ts:List (List Cell)}{l:List Chunk}:SL W (.ob (Grd r ts)::l) w↔∃(bv cap:Nat) (rest:List Value) (bs:List Nat),(bs.length=ts.length∧ts.length≤8∧okS ts) ∧
  SL W (.pt r [.slice (some ⟨bv,0,none⟩) ts.length cap] 208::.pt bv (bs.map mapV++rest) 213::.ob (zh Tab1 (bs.zip ts))::l) w:=by
 unfold Grd
 simp only[SL.ex,SL.fact,List.cons_append,List.nil_append]
 constructor
 ·rintro ⟨⟨bv,cap,rest,bs⟩,h1,h2⟩;exact⟨bv,cap,rest,bs,h1,h2⟩
 ·rintro ⟨bv,cap,rest,bs,h1,h2⟩;exact⟨⟨bv,cap,rest,bs⟩,h1,h2⟩
theorem zip_set:∀(bs:List Nat) (ts:List (List Cell)) (t:Nat) (b:Nat) (C:List Cell),bs[t]?=some b→(bs.zip ts).set t (b,C)=bs.zip (ts.set t C)
 | [],ts,t,b,C,h=>by simp at h
 | x::bs,[],t,b,C,h=>by simp
 | x::bs,y::ts,0,b,C,h=>by simp at h;subst h;simp
 | x::bs,y::ts,t+1,b,C,h=>by simp;exact zip_set bs ts t b C (by simpa using h)
theorem Tbs.open{W w:World}{bs:List Nat}{ts:List (List Cell)}{l:List Chunk}{t:Nat}(ht:t<ts.length)(hb:t<bs.length)(h:SL W (.ob (zh Tab1 (bs.zip ts))::l) w):
  ∃m,RelG m ts[t]∧SL W (.ob (MapO KI cellV bs[t] m)::.ob (zh Tab1 ((bs.zip ts).eraseIdx t))::l) w:=
 Tab1.iff.1 (zh.take h (x:=(bs[t],ts[t])) (by simp[List.getElem?_zip_eq_some,hb,ht]))
theorem Tbs.close{W w:World}{bs:List Nat}{ts:List (List Cell)}{l:List Chunk}{t:Nat}{C:List Cell}{m:List (Int × Cell)}(ht:t<ts.length)(hb:t<bs.length)(hm:RelG m C)
  (h:SL W (.ob (MapO KI cellV bs[t] m)::.ob (zh Tab1 ((bs.zip ts).eraseIdx t))::l) w):SL W (.ob (zh Tab1 (bs.zip (ts.set t C)))::l) w:=by
 have h1:SL W (.ob (Tab1 (bs[t],C))::.ob (zh Tab1 ((bs.zip ts).eraseIdx t))::l) w:=Tab1.iff.2 ⟨m,hm,h⟩
 have h2:=zh.put h1 (by simp;omega)
 rwa [zip_set bs ts t bs[t] C (by simp[hb])]at h2
theorem Y4(a:Option Addr)(n cap:Nat)(t:Int):SP 114 [.slice a n cap,.int .i64 t] [] (Gives (.bool (decide (0≤t∧t<n))) []):=by
 intro W F w hS;apply vc114;unfold Vc114;(try simp only[app]at hS)
 repeat first|refine Gp ?_|refine Gw λw hS=>?_|refine Gb λb w hS=>?_
 refine ze (λh=>?_) (λh=>?_)
 ·repeat first|refine Gp ?_|refine Gw λw hS=>?_|refine Gb λb w hS=>?_
  have:(decide (t<(n:Int)))=decide (0≤t∧t<n):=by simp[h]
  rw[this]
  (exact⟨_,⟨rfl,rfl⟩,SL.into hS Xi⟩)
 ·have:(decide (0≤t∧t<(n:Int)))=false:=by simp;omega
  rw[this]
  (exact⟨_,⟨rfl,rfl⟩,SL.into hS Xi⟩)
theorem qL(bv cap:Nat)(rest:List Value)(bs:List Nat)(ts:List (List Cell))(o:AOp)(hb:bs.length=ts.length):
  SP 230 [.slice (some ⟨bv,0,none⟩) ts.length cap,agg (encOp o)] [.pt bv (bs.map mapV++rest) 213,.ob (zh Tab1 (bs.zip ts))]
   (Gives (.bool (putS ts o).2) [.pt bv (bs.map mapV++rest) 213,.ob (zh Tab1 (bs.zip (putS ts o).1))]):=by
 intro W F w hS;apply vc230;unfold Vc230;(try simp only[app]at hS)
 obtain⟨lsn,table,key,gone,val⟩:=o
 refine⟨_,rfl,zJ hS ?_⟩
 clear hS;intro p w hS
 simp only[encOp]at hS
 repeat first|refine Gp ?_|refine Gw λw hS=>?_|refine Gb λb w hS=>?_
 (apply zd (Y4 (some ⟨bv,0,none⟩) ts.length cap table) hS;exact Xp;clear hS)
 rintro v post ⟨rfl,rfl⟩ w hS
 (try simp only[app]at hS)
 repeat first|refine Gp ?_|refine Gw λw hS=>?_|refine Gb λb w hS=>?_
 refine zK (λhe=>?_) (λhe=>?_)
 ·have hp:putS ts ⟨lsn,table,key,gone,val⟩=(ts,false):=by
   simp only[decide_eq_false_iff_not]at he
   unfold putS
   by_cases h0:table<0
   ·simp[h0]
   ·have:ts[table.toNat]?=none:=List.getElem?_eq_none (by omega)
    simp[h0,this]
  rw[hp]
  (exact⟨_,⟨rfl,rfl⟩,SL.into hS Xi⟩)
 ·have he':=of_decide_eq_true he
  obtain⟨t,rfl⟩:∃t:Nat,table=t:=⟨table.toNat,by omega⟩
  have ht:t<ts.length:=by omega
  have htb:t<bs.length:=by omega
  have hbv:(bs.map mapV++rest)[0+t*1]?=some (mapV bs[t]):=by simp[List.getElem?_append_left,htb]
  obtain⟨m,hm,hS⟩:=Tbs.open ht htb (SL.into hS (t:=.ob (zh Tab1 (bs.zip ts))::.pt p [.int .i64 lsn,.int .i64 t,.int .i64 key,.bool gone,.string val] 96::.pt bv (bs.map mapV++rest) 213::F) Xi)
  refine⟨λvs w=>vs=[]∧(∀c,getC ts[t] key=some c→¬lsn<c.lsn)∧SL W (.ob (MapO KI cellV bs[t] m)::.ob (zh Tab1 ((bs.zip ts).eraseIdx t))::.pt p [.int .i64 lsn,.int .i64 t,.int .i64 key,.bool gone,.string val] 96::.pt bv (bs.map mapV++rest) 213::F) w,?_,?_⟩
  ·refine yi hS ?_
   clear hS;intro w hS
   repeat first|refine Gp ?_|refine Gw λw hS=>?_|refine Gb λb w hS=>?_
   refine zC ht (zS hS Xh hbv ?_)
   repeat first|refine Gp ?_|refine Gw λw hS=>?_|refine Gb λb w hS=>?_
   refine Yu (z:=agg (encCell ⟨0,0,false,⟨#[]⟩⟩)) hS Xh (keyOkI .i64) Tryz.underlying213 Tryz.underlying2 Tryz.zeroValue80 ?_
   rw[hm.get]
   cases hg:getC ts[t] key with
   | none=>
    simp only[Option.map_none,Option.getD_none,Option.isSome_none]
    repeat first|refine Gp ?_|refine Gw λw hS=>?_|refine Gb λb w hS=>?_
    refine zS hS Xh hbv (ZP ?_)
    repeat first|refine Gp ?_|refine Gw λw hS=>?_|refine Gb λb w hS=>?_
    refine Yu (z:=agg (encCell ⟨0,0,false,⟨#[]⟩⟩)) hS Xh (keyOkI .i64) Tryz.underlying213 Tryz.underlying2 Tryz.zeroValue80 ?_
    rw[hm.get,hg]
    simp only[Option.map_none,Option.getD_none,Option.isSome_none]
    refine⟨trivial,?_⟩
    simp only[encCell]
    repeat first|refine Gp ?_|refine Gw λw hS=>?_|refine Gb λb w hS=>?_
    exact⟨by simp,λc hc=>(by cases hc),(by exact SL.into hS Xi)⟩
   | some c=>
    simp only[Option.map_some,Option.getD_some,Option.isSome_some]
    repeat first|refine Gp ?_|refine Gw λw hS=>?_|refine Gb λb w hS=>?_
    refine zS hS Xh hbv (ZP ?_)
    repeat first|refine Gp ?_|refine Gw λw hS=>?_|refine Gb λb w hS=>?_
    refine Yu (z:=agg (encCell ⟨0,0,false,⟨#[]⟩⟩)) hS Xh (keyOkI .i64) Tryz.underlying213 Tryz.underlying2 Tryz.zeroValue80 ?_
    rw[hm.get,hg]
    simp only[Option.map_some,Option.getD_some,Option.isSome_some]
    refine⟨trivial,?_⟩
    simp only[cellV,encCell]
    repeat first|refine Gp ?_|refine Gw λw hS=>?_|refine Gb λb w hS=>?_
    refine ze (λhl=>?_) (λhl=>?_)
    ·have hp:putT ts[t] ⟨lsn,t,key,gone,val⟩=(ts[t],false):=by unfold putT;simp only[hg,hl,if_true]
     rw[putS_at (t:=t) rfl ht,hp]
     have hS:=Tbs.close (l:=.pt bv (bs.map mapV++rest) 213::F) ht htb hm (by exact SL.into hS Xi)
     (exact⟨_,⟨rfl,rfl⟩,SL.into hS Xi⟩)
    ·exact⟨by simp,λc' hc=>(by cases hc;exact hl),(by exact SL.into hS Xi)⟩
  ·clear hS
   rintro w ⟨-,hnew,hS⟩
   have hp:putT ts[t] ⟨lsn,t,key,gone,val⟩=(insC ts[t] (cellOf ⟨lsn,t,key,gone,val⟩),true):=by
    unfold putT
    cases hg:getC ts[t] key with
    | none=>simp only
    | some c=>simp only[hnew c hg,if_false]
   rw[putS_at (t:=t) rfl ht,hp]
   repeat first|refine Gp ?_|refine Gw λw hS=>?_|refine Gb λb w hS=>?_
   refine⟨λvs w=>vs=[]∧SL W (.pt b (encCell (cellOf ⟨lsn,t,key,gone,val⟩)) 80::.ob (MapO KI cellV bs[t] m)::.ob (zh Tab1 ((bs.zip ts).eraseIdx t))::.pt p [.int .i64 lsn,.int .i64 t,.int .i64 key,.bool gone,.string val] 96::.pt bv (bs.map mapV++rest) 213::F) w,?_,?_⟩
   ·repeat first|refine Gp ?_|refine Gw λw hS=>?_|refine Gb λb w hS=>?_
    cases gone with
    | true=>
     refine zy ?_
     repeat first|refine Gp ?_|refine Gw λw hS=>?_|refine Gb λb w hS=>?_
     simp only[cellOf,encCell,if_true];exact SL.into hS Xi
    | false=>
     refine zr ?_
     refine⟨rfl,?_⟩
     simp only[cellOf,encCell,Bool.false_eq_true,if_false];exact SL.into hS Xi
   ·clear hS
    rintro w ⟨-,hS⟩
    refine yi hS ?_
    clear hS;intro w hS
    repeat first|refine Gp ?_|refine Gw λw hS=>?_|refine Gb λb w hS=>?_
    refine zC ht (zS hS Xh hbv ?_)
    repeat first|refine Gp ?_|refine Gw λw hS=>?_|refine Gb λb w hS=>?_
    refine YP (val:=cellV) hS Xu (keyOkI .i64) Tryz.underlying213 Tryz.underlying2 ?_
    clear hS
    intro u w hS
    have hm2:RelG (mset m key (cellOf ⟨lsn,t,key,gone,val⟩)) (insC ts[t] (cellOf ⟨lsn,t,key,gone,val⟩)):=hm.put (cellOf ⟨lsn,t,key,gone,val⟩)
    have hS:=Tbs.close (l:=.pt bv (bs.map mapV++rest) 213::F) ht htb hm2 (by exact SL.into hS Xi)
    (exact⟨_,⟨rfl,rfl⟩,SL.into hS Xi⟩)
theorem gnewG_bad(n:Int)(h:n<1∨8<n):SP 90 [.int .i64 n] [] (Gives (.tuple #[.pointer none,.int .i64 1]) []):=by
 intro W F w hS;apply vc90;unfold Vc90;(try simp only[app]at hS)
 repeat first|refine Gp ?_|refine Gw λw hS=>?_|refine Gb λb w hS=>?_
 refine ze (λh1=>?_) (λh1=>?_)
 ·(exact⟨_,⟨rfl,rfl⟩,SL.into hS Xi⟩)
 ·repeat first|refine Gp ?_|refine Gw λw hS=>?_|refine Gb λb w hS=>?_
  refine ze (λh2=>?_) (λh2=>by omega)
  (exact⟨_,⟨rfl,rfl⟩,SL.into hS Xi⟩)
theorem gnewG_ok(n:Nat)(h1:1≤n)(h2:n≤8):SP 90 [.int .i64 n] [] (λv post=>∃r:Nat,v= .tuple #[.pointer (some ⟨r,0,none⟩),.int .i64 0]∧post=[.ob (Grd r (List.replicate n []))]):=by
 intro W F w hS;apply vc90;unfold Vc90;(try simp only[app]at hS)
 repeat first|refine Gp ?_|refine Gw λw hS=>?_|refine Gb λb w hS=>?_
 refine ze (λh=>by omega) (λ_=>?_)
 repeat first|refine Gp ?_|refine Gw λw hS=>?_|refine Gb λb w hS=>?_
 refine ze (λh=>by omega) (λ_=>?_)
 repeat first|refine Gp ?_|refine Gw λw hS=>?_|refine Gb λb w hS=>?_
 refine⟨_,rfl,zJ hS ?_⟩
 clear hS;intro r w hS
 have hS:=OwnSl.nil (t:=213) (sz:=1) hS
 have hS:=zh.nil (A:=Tab1) hS
 refine⟨λvs w=>∃(k:Nat) (v:Value) (bs:List Nat),vs=[.int .i64 k]∧k≤n∧bs.length=k∧SL W (.ob (zh Tab1 (bs.zip (List.replicate k [])))::.ob (OwnSl v 213 1 k (bs.map mapV))::.pt r [v] 208::F) w,λvs _=>match vs with|[.int _ k]=>(n-k).toNat|_=>0,⟨0,_,[],rfl,by omega,rfl,hS⟩,?_⟩
 clear hS
 rintro v14 w ⟨k,v,bs,hvs,hk,hbs,hS⟩
 cases hvs
 repeat first|refine Gp ?_|refine Gw λw hS=>?_|refine Gb λb w hS=>?_
 refine ze (λh=>?_) (λh=>?_)
 ·repeat first|refine Gp ?_|refine Gw λw hS=>?_|refine Gb λb w hS=>?_
  refine s_mapMk (key:=KI) (val:=cellV) (p:=λb w'=>zo (zrow [.map none] 1) [(0,1,(.map (some b)))] 213 1 w' _) hS ?_
  clear hS;intro b w hS
  have hS:SL W (.ob (Tab1 (b,[]))::_) w:=Tab1.iff.2 ⟨[],RelG.nil,hS⟩
  refine zD (cells:=[mapV b]) hS (by simp[fillL,zrow,Value.cells]) ?_
  clear hS;intro b2 w hS
  refine zw (n:=k) (m:=1) (cells:=bs.map mapV) hS Xr (src_pt0 (cs:=[mapV b]) hS .hd rfl) rfl rfl (by simp[Value.oneCell']) (by omega) (by omega) ?_
  clear hS;intro v' w hS
  have h1:=OwnSl.one hS
  have hS:=zh.snoc (A:=Tab1) (x:=(b,[])) (xs:=bs.zip (List.replicate k [])) (l:=.ob (OwnSl v' 213 1 (k+1) (bs.map mapV++[mapV b]))::.pt r [v] 208::F) (by exact SL.into hS Xi)
  repeat first|refine Gp ?_|refine Gw λw hS=>?_|refine Gb λb w hS=>?_
  refine⟨⟨k+1,v',bs++[b],rfl,(by omega),(by simp[hbs]),?_⟩,(by dsimp only;omega)⟩
  have e:(bs++[b]).zip (List.replicate (k+1) ([]:List Cell))=bs.zip (List.replicate k [])++[(b,[])]:=by
   rw[List.replicate_succ',List.zip_append (by simp[hbs])];rfl
  rw[e,List.map_append,List.map_cons,List.map_nil]
  exact SL.into hS Xi
 ·obtain rfl:k=n:=by omega
  rcases OwnSl.open (Has.front hS Xr) with ⟨_,h0,_⟩|⟨bv,cap,rest,rfl,hc,hl,hr,hS⟩
  ·omega
  ·have hS:SL W (.ob (Grd r (List.replicate k []))::F) w:=Grd.iff.2 ⟨bv,cap,rest,bs,⟨by simp[hbs],by simpa using h2,λC hC=>by
    obtain⟨_,rfl⟩:=List.mem_replicate.1 hC
    exact⟨List.Pairwise.nil,by simp⟩⟩,by rw[List.length_replicate];exact SL.into hS Xi⟩
   exact⟨_,⟨r,rfl,rfl⟩,hS⟩
theorem YV(r:Nat)(ts:List (List Cell)):SP 69 [.pointer (some ⟨r,0,none⟩)] [.ob (Grd r ts)] (Gives (.int .i64 ts.length) [.ob (Grd r ts)]):=by
 intro W F w hS;apply vc69;unfold Vc69;(try simp only[app]at hS)
 obtain⟨bv,cap,rest,bs,hA,hS⟩:=Grd.iff.1 hS
 repeat first|refine Gp ?_|refine Gw λw hS=>?_|refine Gb λb w hS=>?_
 have hS:=Grd.iff.2 ⟨bv,cap,rest,bs,hA,hS⟩
 (exact⟨_,⟨rfl,rfl⟩,SL.into hS Xi⟩)
theorem QD(H:Heap)(r:Nat)(ts:List (List Cell))(v:Value)(ops:List AOp)(hv:RdSl H 5 v ops.length (ops.map encOp).flatten)(hn:ops.length≤1000000)(hk:∀o∈ops,inI64 o.key):
  SP 186 [.pointer (some ⟨r,0,none⟩),v] [.mem H,.ob (Grd r ts)] (Gives (.int .i64 ((putAll ts ops).2:Nat)) [.mem H,.ob (Grd r (putAll ts ops).1)]):=by
 intro W F w hS;apply vc186;unfold Vc186;(try simp only[app]at hS)
 refine zq hv ?_
 refine⟨λvs w=>∃k:Nat,vs=[.int .i64 ((putAll ts (ops.take k)).2:Nat),.int .i64 k]∧k≤ops.length∧SL W (.mem H::.ob (Grd r (putAll ts (ops.take k)).1)::F) w,λvs _=>match vs with|[_,.int _ k]=>(ops.length-k).toNat|_=>0,⟨0,rfl,by omega,hS⟩,?_⟩
 clear hS
 rintro v5 v10 w ⟨k,hvs,hk1,hS⟩
 cases hvs
 repeat first|refine Gp ?_|refine Gw λw hS=>?_|refine Gb λb w hS=>?_
 refine ze (λh=>?_) (λh=>?_)
 ·have hk2:k<ops.length:=by omega
  have hx:ops[k]?=some ops[k]:=by simp[hk2]
  refine zH hS Xh encOp_len hv hx hk2 ?_
  obtain⟨bv,cap,rest,bs,hA,hS⟩:=Grd.iff.1 (SL.into hS (t:=.ob (Grd r (putAll ts (ops.take k)).1)::.mem H::F) Xi)
  refine zJ hS ?_
  clear hS;intro p w hS
  refine zP (vs:=encOp ops[k]) hS Xu rfl rfl (encOp_one _) ?_
  clear hS;intro w hS
  repeat first|refine Gp ?_|refine Gw λw hS=>?_|refine Gb λb w hS=>?_
  (apply zd (qL bv cap rest bs (putAll ts (ops.take k)).1 ops[k] hA.1) hS;exact Xp;clear hS)
  rintro v post ⟨rfl,rfl⟩ w hS
  (try simp only[app]at hS)
  have hpk:putAll ts (ops.take (k+1))=((putS (putAll ts (ops.take k)).1 ops[k]).1,(putAll ts (ops.take k)).2+if (putS (putAll ts (ops.take k)).1 ops[k]).2 then 1 else 0):=by
   rw[List.take_succ_eq_append_getElem hk2,putAll_append];simp[putAll]
  have hle:(putAll ts (ops.take k)).2≤k:=Nat.le_trans (putAll_le _ _) (by simp;omega)
  have hS:=Grd.iff.2 ⟨bv,cap,rest,bs,⟨by rw[putS_len];exact hA.1,by rw[putS_len];exact hA.2.1,okS_put hA.2.2 (hk _ (List.getElem_mem hk2))⟩,(by rw[putS_len];exact SL.into hS (t:=.pt r [.slice (some ⟨bv,0,none⟩) (putAll ts (ops.take k)).1.length cap] 208::.pt bv (bs.map mapV++rest) 213::.ob (zh Tab1 (bs.zip (putS (putAll ts (ops.take k)).1 ops[k]).1))::.mem H::F) Xi)⟩
  cases hb2:(putS (putAll ts (ops.take k)).1 ops[k]).2 with
  | true=>
   refine zy ?_
   repeat first|refine Gp ?_|refine Gw λw hS=>?_|refine Gb λb w hS=>?_
   refine⟨⟨k+1,(by rw[hpk,hb2];simp),(by omega),(by rw[hpk];exact SL.into hS Xi)⟩,(by dsimp only;omega)⟩
  | false=>
   refine zr ?_
   repeat first|refine Gp ?_|refine Gw λw hS=>?_|refine Gb λb w hS=>?_
   refine⟨⟨k+1,(by rw[hpk,hb2];simp),(by omega),(by rw[hpk];exact SL.into hS Xi)⟩,(by dsimp only;omega)⟩
 ·obtain rfl:k=ops.length:=by omega
  rw[List.take_length]at hS ⊢
  (exact⟨_,⟨rfl,rfl⟩,SL.into hS Xi⟩)
theorem YU(r:Nat)(ts:List (List Cell))(t:Int)(hs:small ts 0):SP 35 [.pointer (some ⟨r,0,none⟩),.int .i64 t] [.ob (Grd r ts)]
  (λv post=>post=[.ob (Grd r ts),.ob (OwnSl v 80 4 (cellsAt ts t).length ((cellsAt ts t).map encCell).flatten)]):=by
 intro W F w hS;apply vc35;unfold Vc35;(try simp only[app]at hS)
 obtain⟨bv,cap,rest,bs,hA,hS⟩:=Grd.iff.1 hS
 repeat first|refine Gp ?_|refine Gw λw hS=>?_|refine Gb λb w hS=>?_
 (apply zd (Y4 (some ⟨bv,0,none⟩) ts.length cap t) hS;exact Xp;clear hS)
 rintro v post ⟨rfl,rfl⟩ w hS
 (try simp only[app]at hS)
 repeat first|refine Gp ?_|refine Gw λw hS=>?_|refine Gb λb w hS=>?_
 refine zK (λhe=>?_) (λhe=>?_)
 ·have hc:cellsAt ts t=[]:=by
   have he':=of_decide_eq_false he
   unfold cellsAt
   split
   ·rw[List.getElem?_eq_none (by omega)];rfl
   ·rfl
  rw[hc]
  have hS:=Grd.iff.2 ⟨bv,cap,rest,bs,hA,hS⟩
  exact⟨_,rfl,(OwnSl.nil hS).perm (.swap _ _ _)⟩
 ·have he':=of_decide_eq_true he
  obtain⟨t,rfl⟩:∃u:Nat,t=u:=⟨t.toNat,by omega⟩
  have ht:t<ts.length:=by omega
  have htb:t<bs.length:=by omega
  have hbv:(bs.map mapV++rest)[0+t*1]?=some (mapV bs[t]):=by simp[List.getElem?_append_left,htb]
  have hc:cellsAt ts t=ts[t]:=by unfold cellsAt;simp[ht]
  rw[hc]
  have hok:=hA.2.2 ts[t] (List.getElem_mem ht)
  have hsm:=hs ts[t] (List.getElem_mem ht)
  repeat first|refine Gp ?_|refine Gw λw hS=>?_|refine Gb λb w hS=>?_
  refine zC ht (zS hS Xh hbv ?_)
  obtain⟨m,hm,hS⟩:=Tbs.open ht htb (SL.into hS (t:=.ob (zh Tab1 (bs.zip ts))::.pt r [.slice (some ⟨bv,0,none⟩) ts.length cap] 208::.pt bv (bs.map mapV++rest) 213::F) Xi)
  have hml:=hm.len hok.1
  refine s_keysC (val:=cellV) hS .hd (by omega) (hm.wf hok) ?_
  clear hS;intro v w hS
  rw[hm.skeys hok.1,hml]at hS
  refine zE hS .hd ?_
  refine⟨λvs w=>∃(k:Nat) (u:Value),vs=[u,.int .i64 k]∧k≤ts[t].length∧SL W (.ob (OwnSl u 80 4 k (((ts[t].take k).map encCell).flatten))::.ob (OwnSl v 2 1 ts[t].length ((ts[t].map (·.key)).map KI))::.ob (MapO KI cellV bs[t] m)::.ob (zh Tab1 ((bs.zip ts).eraseIdx t))::.pt r [.slice (some ⟨bv,0,none⟩) ts.length cap] 208::.pt bv (bs.map mapV++rest) 213::F) w,λvs _=>match vs with|[_,.int _ k]=>(ts[t].length-k).toNat|_=>0,⟨0,_,rfl,by omega,OwnSl.nil hS⟩,?_⟩
  clear hS
  rintro v5 v25 w ⟨k,u,hvs,hk,hS⟩
  cases hvs
  repeat first|refine Gp ?_|refine Gw λw hS=>?_|refine Gb λb w hS=>?_
  refine ze (λh=>?_) (λh=>?_)
  ·have hk2:k<ts[t].length:=by omega
   refine yI hS (.tl .hd) hk2 (u:=KI ts[t][k].key) (by simp[hk2]) ?_
   repeat first|refine Gp ?_|refine Gw λw hS=>?_|refine Gb λb w hS=>?_
   refine zC ht (zS hS Xh hbv ?_)
   refine yQ (z:=agg (encCell ⟨0,0,false,⟨#[]⟩⟩)) hS Xh (keyOkI .i64) Tryz.underlying213 Tryz.underlying2 Tryz.zeroValue80 ?_
   rw[hm.get,getC_mem hok.1 (List.getElem_mem hk2)]
   refine zD hS (fill_cell _ _ rfl) ?_
   clear hS;intro b w hS
   refine zw (n:=k) (m:=1) hS Xr (src_pt0 (cs:=encCell ts[t][k]) hS .hd rfl) rfl rfl (encCell_one _) (by omega) (by omega) ?_
   clear hS;intro u' w hS
   repeat first|refine Gp ?_|refine Gw λw hS=>?_|refine Gb λb w hS=>?_
   refine⟨⟨k+1,u',rfl,(by omega),(by rw[flat_take encCell _ k hk2];exact SL.into hS Xi)⟩,(by dsimp only;omega)⟩
  ·obtain rfl:k=ts[t].length:=by omega
   rw[List.take_length]at hS
   have hS:=Tbs.close (C:=ts[t]) (l:=.ob (OwnSl v5 80 4 ts[t].length ((ts[t].map encCell).flatten))::.pt r [.slice (some ⟨bv,0,none⟩) ts.length cap] 208::.pt bv (bs.map mapV++rest) 213::F) ht htb hm (by exact SL.into hS Xi)
   rw[List.set_getElem_self]at hS
   have hS:SL W (.ob (Grd r ts)::.ob (OwnSl v5 80 4 ts[t].length ((ts[t].map encCell).flatten))::F) w:=Grd.iff.2 ⟨bv,cap,rest,bs,hA,by exact SL.into hS Xi⟩
   exact⟨_,rfl,hS⟩
structure XSeg where
 file:Int
 first:Int
 size:Nat
 es:List BEnt
 a:Option Addr
 c:Nat
def XSeg.lv(x:XSeg):Value:=.slice x.a x.es.length x.c
def XSeg.pl(x:XSeg):PSeg:=⟨x.file,x.first,x.size,byts x.es⟩
def xcells(x:XSeg):List Value:=[.int .i64 x.file,.int .i64 x.first,.int .i64 x.size,x.lv]
theorem xcells_len(x:XSeg):(xcells x).length=4:=rfl
theorem byts_len(es:List BEnt):(byts es).length=es.length:=by simp[byts]
def XSegO(x:XSeg):zG:=zT True [.ob (OwnSo x.lv 54 1 x.es.length (vals x.es)),.ob (zh BEntO x.es)]
theorem XSegO.iff{W w:World}{x:XSeg}{l:List Chunk}:SL W (.ob (XSegO x)::l) w↔SL W (.ob (OwnSo x.lv 54 1 x.es.length (vals x.es))::.ob (zh BEntO x.es)::l) w:=by
 unfold XSegO
 simp only[SL.fact,List.cons_append,List.nil_append,true_and]
def TornO(v:Value)(t:Option PTorn):zG:=match t with
 | none=>zT (v= .pointer none) []
 | some x=>HEx λb:Nat=>zT (v= .pointer (some ⟨b,0,none⟩)) [.pt b [.int .i64 x.file,.int .i64 x.had,.bool x.fresh] 288]
theorem TornO_none{W w:World}{v:Value}{l:List Chunk}:SL W (.ob (TornO v none)::l) w↔v= .pointer none∧SL W l w:=by
 unfold TornO
 simp only[SL.fact,List.nil_append]
theorem TornO_some{W w:World}{v:Value}{x:PTorn}{l:List Chunk}:SL W (.ob (TornO v (some x))::l) w↔∃b:Nat,v= .pointer (some ⟨b,0,none⟩)∧SL W (.pt b [.int .i64 x.file,.int .i64 x.had,.bool x.fresh] 288::l) w:=by
 unfold TornO
 simp only[SL.ex,SL.fact,List.cons_append,List.nil_append]
theorem TornO_one{W w:World}{v:Value}{t:Option PTorn}{l:List Chunk}(h:SL W (.ob (TornO v t)::l) w):v.oneCell'=true:=by
 cases t with
 | none=>rw[(TornO_none.1 h).1];rfl
 | some x=>obtain⟨b,rfl,_⟩:=TornO_some.1 h;rfl
abbrev lcells(sv tv:Value)(dp:Nat)(base size:Int):List Value:=[sv,.pointer (some ⟨dp,0,none⟩),.int .i64 base,.int .i64 size,tv]
abbrev RowX(sv:Value)(xs:List XSeg):Chunk:=.ob (OwnSo sv 290 4 xs.length (xs.map xcells).flatten)
abbrev LogX(lp dp:Nat)(base size:Int)(t:Option PTorn)(sv tv:Value)(xs:List XSeg):List Chunk:=[.pt lp (lcells sv tv dp base size) 201,RowX sv xs,.ob (zh XSegO xs),.ob (TornO tv t)]
def LogO(lp dp:Nat)(g:PLog):zG:=HEx λx:Value × Value × List XSeg=>zT (x.2.2.map XSeg.pl=g.segs) (LogX lp dp g.base g.size g.torn x.1 x.2.1 x.2.2)
theorem LogO.iff{W w:World}{lp dp:Nat}{g:PLog}{l:List Chunk}:SL W (.ob (LogO lp dp g)::l) w↔∃sv tv xs,xs.map XSeg.pl=g.segs∧SL W (.pt lp (lcells sv tv dp g.base g.size) 201::RowX sv xs::.ob (zh XSegO xs)::.ob (TornO tv g.torn)::l) w:=by
 unfold LogO LogX
 simp only[SL.ex,SL.fact,List.cons_append,List.nil_append]
 exact⟨λ⟨x,h1,h2⟩=>⟨x.1,x.2.1,x.2.2,h1,h2⟩,λ⟨a,b,c,h1,h2⟩=>⟨(a,b,c),h1,h2⟩⟩
section
variable {W w:World} {l:List Chunk}
theorem YA{v:Value}{xs:List XSeg}{j:Nat}{k:IntKind}{K:Value→Prop}(h:SL W l w)(m:Has (RowX v xs) l)(hj:j<xs.length)(hK:K (.agg (xcells xs[j]).toArray)):zj 4 v (.int k (j:Int)) λp=>zi 4 p w K:=by
 refine yo h m hj λb o hb=>⟨⟨b,o,none⟩,xcells xs[j],rfl,rfl,λi u hu=>?_,hK⟩
 rw[Addr.add_lit]
 have hi:i<4:=(List.getElem?_eq_some_iff.1 hu).1
 exact hb i u hi (flat_get xcells_len hj hu)
theorem qy{v u:Value}{xs:List XSeg}{i j:Nat}{k:IntKind}{K:Value→Prop}(h:SL W l w)(m:Has (RowX v xs) l)(hj:j<xs.length)(hu:(xcells xs[j])[i]?=some u)(hK:K u):zj 4 v (.int k (j:Int)) λp=>za i p λq=>HLd q w K:=by
 refine yo h m hj λb o hb=>?_
 refine zW ?_
 have hi:i<4:=(List.getElem?_eq_some_iff.1 hu).1
 exact⟨_,u,rfl,hb i u hi (flat_get xcells_len hj hu),hK⟩
end
theorem flatX_len(xs:List XSeg):(xs.map xcells).flatten.length=xs.length*4:=by
 induction xs with
 | nil=>rfl
 | cons x xs ih=>simp[ih,xcells_len];omega
theorem yR(f n s:Int)(a:Option Addr)(k c:Nat)(h : -1000000000000000≤n∧n≤1000000000000000)(hk:k≤1000000000000000):SP 189 [.agg #[.int .i64 f,.int .i64 n,.int .i64 s,.slice a k c]] [] (Gives (.int .i64 (n+k)) []):=by
 intro W F w hS;apply vc189;unfold Vc189;(try simp only[app]at hS)
 refine⟨[.int .i64 f,.int .i64 n,.int .i64 s,.slice a k c],rfl,?_⟩
 repeat first|refine Gp ?_|refine Gw λw hS=>?_|refine Gb λb w hS=>?_
 (exact⟨_,⟨rfl,rfl⟩,SL.into hS Xi⟩)
theorem ZV(x:XSeg){N:Nat}(h:SegOk x.pl N)(hN:N≤1000000000000000):SP 189 [.agg (xcells x).toArray] [] (Gives (.int .i64 x.pl.next) []):=by
 have h1:=h.n0;have h2:=h.n1;have h3:=h.ln
 have e:x.pl.next=x.first+x.es.length:=by simp[PSeg.next,XSeg.pl,byts_len]
 rw[e]
 have h3:x.es.length≤N:=by simpa [XSeg.pl,byts_len] using h3
 exact yR x.file x.first x.size x.a x.es.length x.c (by simp only[XSeg.pl]at h1 h2;omega) (by omega)
theorem yj(lp:Nat)(cs:List Value)(t:TypeId)(sv:Value)(xs:List XSeg)(hcs:cs[0]?=some sv){N:Nat}(h:∀s∈xs.map XSeg.pl,SegOk s N)(hN:N≤1000000000000000)(hl:xs.length≤1000000000000000):
  SP 110 [.pointer (some ⟨lp,0,none⟩)] [.pt lp cs t,RowX sv xs] (Gives (.int .i64 (headG (xs.map XSeg.pl))) [.pt lp cs t,RowX sv xs]):=by
 intro W F w hS;apply vc110;unfold Vc110;(try simp only[app]at hS)
 repeat first|refine Gp ?_|refine Gw λw hS=>?_|refine Gb λb w hS=>?_
 refine zS hS .hd hcs ?_
 refine zL hS Xh ?_
 repeat first|refine Gp ?_|refine Gw λw hS=>?_|refine Gb λb w hS=>?_
 have hh:=headG_ge h
 refine ze (λh0=>?_) (λh0=>?_)
 ·have:xs=[]:=List.eq_nil_of_length_eq_zero (by omega)
  subst this
  (exact⟨_,⟨rfl,rfl⟩,SL.into hS Xi⟩)
 ·repeat first|refine Gp ?_|refine Gw λw hS=>?_|refine Gb λb w hS=>?_
  refine zS hS .hd hcs ?_
  repeat first|refine Gp ?_|refine Gw λw hS=>?_|refine Gb λb w hS=>?_
  refine zS hS .hd hcs ?_
  refine zL hS Xh ?_
  repeat first|refine Gp ?_|refine Gw λw hS=>?_|refine Gb λb w hS=>?_
  have e:((xs.length:Nat):Int)-1=((xs.length-1:Nat):Int):=by omega
  rw[e]
  have hj:xs.length-1<xs.length:=by omega
  refine YA hS Xh hj ?_
  have hm:(xs[xs.length-1]'hj).pl∈xs.map XSeg.pl:=List.mem_map.2 ⟨_,List.getElem_mem hj,rfl⟩
  have hg:headG (xs.map XSeg.pl)=(xs[xs.length-1]'hj).pl.next-1:=by
   unfold headG
   rw[List.getLast?_map,List.getLast?_eq_getElem?,List.getElem?_eq_getElem hj];rfl
  have hok:=h _ hm
  rw[hg]at hh ⊢
  (apply zd (ZV _ hok hN) hS;exact Xp;clear hS)
  (rintro v post ⟨rfl,rfl⟩ w hS;(try simp only[app]at hS);(repeat (first|refine Gp ?_|refine Gw λw hS=>?_|refine Gb λb w hS=>?_)))
  exact⟨_,⟨rfl,rfl⟩,SL.into hS Xi⟩
theorem Qt(lp:Nat)(cs:List Value)(t:TypeId)(sv:Value)(xs:List XSeg)(hcs:cs[0]?=some sv)(hl:xs.length≤1000000000000000):
  SP 111 [.pointer (some ⟨lp,0,none⟩)] [.pt lp cs t,RowX sv xs] (Gives (.int .i64 (lowG (xs.map XSeg.pl))) [.pt lp cs t,RowX sv xs]):=by
 intro W F w hS;apply vc111;unfold Vc111;(try simp only[app]at hS)
 repeat first|refine Gp ?_|refine Gw λw hS=>?_|refine Gb λb w hS=>?_
 refine zS hS .hd hcs ?_
 refine zL hS Xh ?_
 repeat first|refine Gp ?_|refine Gw λw hS=>?_|refine Gb λb w hS=>?_
 refine ze (λh0=>?_) (λh0=>?_)
 ·have:xs=[]:=List.eq_nil_of_length_eq_zero (by omega)
  subst this
  (exact⟨_,⟨rfl,rfl⟩,SL.into hS Xi⟩)
 ·cases xs with
  | nil=>simp at h0
  | cons x xs=>
   repeat first|refine Gp ?_|refine Gw λw hS=>?_|refine Gb λb w hS=>?_
   refine zS hS .hd hcs ?_
   refine qy (j:=0) (i:=1) hS Xh (by simp) (u:=.int .i64 x.first) rfl ?_
   exact⟨_,⟨rfl,rfl⟩,hS⟩
theorem zh.back{W w:World}{l:List Chunk}{α:Type}{A:α→zG}{xs:List α}{t:Nat}{x:α}(h:SL W (.ob (A x)::.ob (zh A (xs.eraseIdx t))::l) w)(hx:xs[t]?=some x):SL W (.ob (zh A xs)::l) w:=by
 obtain⟨ht,e⟩:=List.getElem?_eq_some_iff.1 hx
 have:=zh.put h ht
 rwa [← e,List.set_getElem_self]at this
theorem xseg_next(x:XSeg):x.pl.next=x.first+x.es.length:=by simp[PSeg.next,XSeg.pl,byts_len]
theorem readG_at(xs:List XSeg)(i:Nat)(n:Int):readG ((xs.drop i).map XSeg.pl) n=match xs[i]? with
 | none=>none
 | some x=>if x.first≤n∧n<x.pl.next then (byts x.es)[(n-x.first).toNat]? else readG ((xs.drop (i+1)).map XSeg.pl) n:=by
 cases h:xs[i]? with
 | none=>
  have:xs.drop i=[]:=List.drop_eq_nil_of_le (by rw[List.getElem?_eq_none_iff]at h;exact h)
  rw[this];rfl
 | some x=>
  obtain⟨hi,e⟩:=List.getElem?_eq_some_iff.1 h
  rw[List.drop_eq_getElem_cons hi,e];rfl
def ReadLQ(pre:List Chunk)(o:Option (List UInt8))(r:Value)(post:List Chunk):Prop:=match o with
 | none=>r= .tuple #[.slice none 0 0,.int .i64 5]∧post=pre
 | some b=>∃u,r= .tuple #[u,.int .i64 0]∧post= .ob (OwnSl u 5 1 b.length (b.map u8c))::pre
theorem q8(lp:Nat)(cs:List Value)(t:TypeId)(sv:Value)(xs:List XSeg)(n:Int)(hcs:cs[0]?=some sv){N:Nat}(h:∀s∈xs.map XSeg.pl,SegOk s N)(hN:N≤1000000000000000)(hl:xs.length≤1000000000000000)(hn : -9000000000000000000≤n∧n≤9000000000000000000):
  SP 171 [.pointer (some ⟨lp,0,none⟩),.int .i64 n] [.pt lp cs t,RowX sv xs,.ob (zh XSegO xs)] (ReadLQ [.pt lp cs t,RowX sv xs,.ob (zh XSegO xs)] (readG (xs.map XSeg.pl) n)):=by
 intro W F w hS;apply vc171;unfold Vc171;(try simp only[app]at hS)
 repeat first|refine Gp ?_|refine Gw λw hS=>?_|refine Gb λb w hS=>?_
 refine zS hS .hd hcs ?_
 refine zL hS Xh ?_
 refine⟨λvs w=>∃i:Nat,i≤xs.length∧vs=[.int .i64 i]∧readG (xs.map XSeg.pl) n=readG ((xs.drop i).map XSeg.pl) n∧SL W (.pt lp cs t::RowX sv xs::.ob (zh XSegO xs)::F) w,λvs _=>match vs with
  | [.int _ i]=>xs.length-i.toNat
  | _=>0,⟨0,by omega,rfl,rfl,hS⟩,?_⟩
 clear hS
 rintro v1 w1 ⟨i,hi,hv,hr,hS⟩
 cases hv
 rw[readG_at]at hr
 repeat first|refine Gp ?_|refine Gw λw hS=>?_|refine Gb λb w hS=>?_
 refine ze (λh0=>?_) (λh0=>?_)
 ·have hj:i<xs.length:=by omega
  have hx:xs[i]?=some xs[i]:=List.getElem?_eq_getElem hj
  refine YA hS Xh hj ?_
  have hok:=h _ (List.mem_map.2 ⟨_,List.getElem_mem hj,rfl⟩)
  rw[hx]at hr
  simp only at hr
  generalize xs[i]=x at *
  have hnx:=xseg_next x
  unfold xcells XSeg.lv
  repeat first|refine Gp ?_|refine Gw λw hS=>?_|refine Gb λb w hS=>?_
  refine ze (λh1=>?_) (λh1=>?_)
  ·repeat first|refine Gp ?_|refine Gw λw hS=>?_|refine Gb λb w hS=>?_
   (apply zd (ZV x hok hN) hS;exact Xp;clear hS)
   (rintro v post ⟨rfl,rfl⟩ w hS;(try simp only[app]at hS);(repeat (first|refine Gp ?_|refine Gw λw hS=>?_|refine Gb λb w hS=>?_)))
   refine ze (λh2=>?_) (λh2=>?_)
   ·rw[if_pos ⟨h1,h2⟩]at hr
    have hh1:=hok.n0
    have hh2:=hok.n1
    simp only[XSeg.pl]at hh1 hh2
    repeat first|refine Gp ?_|refine Gw λw hS=>?_|refine Gb λb w hS=>?_
    obtain⟨j,hjn⟩:=Int.eq_ofNat_of_zero_le (show 0≤n-x.first by omega)
    have hjl:j<x.es.length:=by omega
    rw[hjn]at hr ⊢
    have hS:=zh.take (SL.into hS (t:=.ob (zh XSegO xs)::.pt lp cs t::RowX sv xs::F) Xi) hx
    have hS:=XSegO.iff.1 hS
    unfold XSeg.lv at hS
    refine yo (j:=j) hS .hd hjl λb o hb=>?_
    have hej:x.es[j]?=some x.es[j]:=List.getElem?_eq_getElem hjl
    have hval:(vals x.es)[j*1+0]?=some x.es[j].1:=by simp[vals,hjl]
    refine⟨_,_,rfl,hb 0 _ (by omega) hval,?_⟩
    have hS:=zh.take (SL.into hS (t:=.ob (zh BEntO x.es)::.ob (OwnSo (.slice x.a x.es.length x.c) 54 1 x.es.length (vals x.es))::.ob (zh XSegO (xs.eraseIdx i))::.pt lp cs t::RowX sv xs::F) Xi) hej
    have hbl:x.es[j].2.length≤1048576:=hok.bl _ (List.mem_map.2 ⟨_,List.getElem_mem hjl,rfl⟩)
    have hby:(byts x.es)[((j:Int)).toNat]?=some x.es[j].2:=by simp[byts,hjl]
    rw[hby]at hr
    rw[hr]
    generalize x.es[j]=e at *
    have hR:Rdb (.ob (BEntO e)) e.1 e.2:=Rdb.own
    obtain⟨ea,ec,ee,_⟩:=hR.sl hS .hd
    have hR2:=hR
    rw[ee]at hR2 ⊢
    refine Zj (cs:=e.2.map u8c) hS (λw' c hS'=>hR2.src hS' (.tl .hd)) (by simp) (u8c_one _) (by omega) ?_
    clear hS;intro u w hS _
    repeat first|refine Gp ?_|refine Gw λw hS=>?_|refine Gb λb w hS=>?_
    have hS:=zh.back (SL.into hS (t:=.ob (BEntO e)::.ob (zh BEntO (x.es.eraseIdx j))::.ob (OwnSo (.slice x.a x.es.length x.c) 54 1 x.es.length (vals x.es))::.ob (OwnSl u 5 1 e.2.length (e.2.map u8c))::.ob (zh XSegO (xs.eraseIdx i))::.pt lp cs t::RowX sv xs::F) Xi) hej
    have hS:=(XSegO.iff (x:=x)).2 (SL.into hS (t:=.ob (OwnSo (.slice x.a x.es.length x.c) 54 1 x.es.length (vals x.es))::.ob (zh BEntO x.es)::.ob (OwnSl u 5 1 e.2.length (e.2.map u8c))::.ob (zh XSegO (xs.eraseIdx i))::.pt lp cs t::RowX sv xs::F) Xi)
    have hS:=zh.back (SL.into hS (t:=.ob (XSegO x)::.ob (zh XSegO (xs.eraseIdx i))::.ob (OwnSl u 5 1 e.2.length (e.2.map u8c))::.pt lp cs t::RowX sv xs::F) Xi) hx
    exact⟨.ob (OwnSl u 5 1 e.2.length (e.2.map u8c))::[.pt lp cs t,RowX sv xs,.ob (zh XSegO xs)],⟨u,rfl,rfl⟩,SL.into hS Xi⟩
   ·rw[if_neg (by omega)]at hr
    repeat first|refine Gp ?_|refine Gw λw hS=>?_|refine Gb λb w hS=>?_
    refine⟨⟨i+1,by omega,rfl,hr,SL.into hS Xi⟩,?_⟩
    simp only[Int.toNat_natCast];omega
  ·rw[if_neg (by omega)]at hr
   repeat first|refine Gp ?_|refine Gw λw hS=>?_|refine Gb λb w hS=>?_
   refine⟨⟨i+1,by omega,rfl,hr,SL.into hS Xi⟩,?_⟩
   simp only[Int.toNat_natCast];omega
 ·have hx:xs[i]?=none:=List.getElem?_eq_none (by omega)
  rw[hx]at hr
  rw[hr]
  exact⟨_,⟨rfl,rfl⟩,hS⟩
theorem mendG_some(segs:List PSeg)(base size:Int)(x:PTorn)(d:DS):mendG ⟨segs,base,size,some x⟩ d =
  ((⟨segs,base,size,if (if x.fresh=true then d.remove x.file else d.cut x.file x.had).2=0 then none else some x⟩,(if x.fresh=true then d.remove x.file else d.cut x.file x.had).1),(if x.fresh=true then d.remove x.file else d.cut x.file x.had).2):=rfl
theorem q7(lp dp:Nat)(g:PLog)(d:DS)(N:Nat)(hok:d.Ok N)(hN:N≤140737488355328)(hops:d.ops≤100000):
  SP 229 [.pointer (some ⟨lp,0,none⟩)] [.ob (LogO lp dp g),.ob (DskO dp d)] (Gives (.int .i64 (mendG g d).2) [.ob (LogO lp dp (mendG g d).1.1),.ob (DskO dp (mendG g d).1.2)]):=by
 intro W F w hS;apply vc229;unfold Vc229;(try simp only[app]at hS)
 obtain⟨sv,tv,xs,hx,hS⟩:=LogO.iff.1 hS
 obtain⟨segs,base,size,torn⟩:=g
 simp only at hx hS
 cases torn with
 | none=>
  rw[show mendG ⟨segs,base,size,none⟩ d=((⟨segs,base,size,none⟩,d),0) from rfl]
  obtain⟨rfl,hS⟩:=TornO_none.1 (SL.into hS (t:=.ob (TornO tv none)::.pt lp (lcells sv tv dp base size) 201::RowX sv xs::.ob (zh XSegO xs)::.ob (DskO dp d)::F) Xi)
  repeat first|refine Gp ?_|refine Gw λw hS=>?_|refine Gb λb w hS=>?_
  refine zy ?_
  repeat first|refine Gp ?_|refine Gw λw hS=>?_|refine Gb λb w hS=>?_
  have hS:=(TornO_none (v:=.pointer none)).2 ⟨rfl,hS⟩
  exact⟨_,⟨rfl,rfl⟩,LogO.iff.2 ⟨sv,.pointer none,xs,hx,SL.into hS Xi⟩⟩
 | some x=>
  obtain⟨tb,rfl,hS⟩:=TornO_some.1 (SL.into hS (t:=.ob (TornO tv (some x))::.pt lp (lcells sv tv dp base size) 201::RowX sv xs::.ob (zh XSegO xs)::.ob (DskO dp d)::F) Xi)
  rw[mendG_some]
  repeat first|refine Gp ?_|refine Gw λw hS=>?_|refine Gb λb w hS=>?_
  refine zr ?_
  repeat first|refine Gp ?_|refine Gw λw hS=>?_|refine Gb λb w hS=>?_
  refine yO (λhf=>?_) (λhf=>?_)
  ·simp only[if_pos hf]
   repeat first|refine Gp ?_|refine Gw λw hS=>?_|refine Gb λb w hS=>?_
   (apply zd (Zd dp d N hok hops x.file) hS;exact Xp;clear hS)
   (rintro v post ⟨rfl,rfl⟩ w hS;(try simp only[app]at hS);(repeat (first|refine Gp ?_|refine Gw λw hS=>?_|refine Gb λb w hS=>?_)))
   refine ze (λh=>?_) (λh=>?_)
   ·rw[if_pos h]
    repeat first|refine Gp ?_|refine Gw λw hS=>?_|refine Gb λb w hS=>?_
    have hS:=(TornO_none (v:=.pointer none)).2 ⟨rfl,hS⟩
    exact⟨_,⟨rfl,rfl⟩,LogO.iff.2 ⟨sv,.pointer none,xs,hx,SL.into hS Xi⟩⟩
   ·rw[if_neg h]
    have hS:=(TornO_some (v:=.pointer (some ⟨tb,0,none⟩)) (x:=x)).2 ⟨tb,rfl,SL.into hS (t:=.pt tb [.int .i64 x.file,.int .i64 x.had,.bool x.fresh] 288::.pt lp (lcells sv (.pointer (some ⟨tb,0,none⟩)) dp base size) 201::RowX sv xs::.ob (zh XSegO xs)::.ob (DskO dp (d.remove x.file).1)::F) Xi⟩
    exact⟨_,⟨rfl,rfl⟩,LogO.iff.2 ⟨sv,_,xs,hx,SL.into hS Xi⟩⟩
  ·have hf:¬x.fresh=true:=by rw[hf];decide
   simp only[if_neg hf]
   repeat first|refine Gp ?_|refine Gw λw hS=>?_|refine Gb λb w hS=>?_
   (apply zd (Yb dp d N hok hN hops x.file x.had) hS;exact Xp;clear hS)
   (rintro v post ⟨rfl,rfl⟩ w hS;(try simp only[app]at hS);(repeat (first|refine Gp ?_|refine Gw λw hS=>?_|refine Gb λb w hS=>?_)))
   refine ze (λh=>?_) (λh=>?_)
   ·rw[if_pos h]
    repeat first|refine Gp ?_|refine Gw λw hS=>?_|refine Gb λb w hS=>?_
    have hS:=(TornO_none (v:=.pointer none)).2 ⟨rfl,hS⟩
    exact⟨_,⟨rfl,rfl⟩,LogO.iff.2 ⟨sv,.pointer none,xs,hx,SL.into hS Xi⟩⟩
   ·rw[if_neg h]
    have hS:=(TornO_some (v:=.pointer (some ⟨tb,0,none⟩)) (x:=x)).2 ⟨tb,rfl,SL.into hS (t:=.pt tb [.int .i64 x.file,.int .i64 x.had,.bool x.fresh] 288::.pt lp (lcells sv (.pointer (some ⟨tb,0,none⟩)) dp base size) 201::RowX sv xs::.ob (zh XSegO xs)::.ob (DskO dp (d.cut x.file x.had).1)::F) Xi⟩
    exact⟨_,⟨rfl,rfl⟩,LogO.iff.2 ⟨sv,_,xs,hx,SL.into hS Xi⟩⟩
def PlanQ(lp dp:Nat)(g:PLog)(d:DS)(X:Chunk)(p:List UInt8)(y:Except Int PWr)(r:Value)(post:List Chunk):Prop:=match y with
 | .error e=>(∃z,r= .tuple #[.agg #[.int .i64 0,.bool false,.slice none 0 0],.int .i64 z]∧z=e∧z≠0)∧post=[.ob (LogO lp dp g),.ob (DskO dp d),X]
 | .ok x=>∃a c,r= .tuple #[.agg #[.int .i64 x.file,.bool x.fresh,.slice a x.b.length c],.int .i64 0]∧post=[.ob (OwnSl (.slice a x.b.length c) 5 1 x.b.length (x.b.map u8c)),.ob (LogO lp dp g),.ob (DskO dp d),X]
theorem PLog.Ok.xs{g:PLog}{N:Nat}(h:g.Ok N){xs:List XSeg}(hx:xs.map XSeg.pl=g.segs):(∀s∈xs.map XSeg.pl,SegOk s N)∧xs.length≤N∧0≤headG g.segs∧headG g.segs≤1099511627776+N:=by
 refine⟨by rw[hx];exact h.segs,?_,headG_ge h.segs⟩
 have:=h.ln
 rw[← hx,List.length_map]at this;exact this
theorem qS(X:Chunk)(lp dp:Nat)(g:PLog)(d:DS)(v:Value)(p:List UInt8)(hv:Rdb X v p)(hp:p.length≤140737488355328){M:Nat}(hg:g.Ok M)(hM:M≤1000000000000000):
  SP 228 [.pointer (some ⟨lp,0,none⟩),v] [.ob (LogO lp dp g),.ob (DskO dp d),X] (PlanQ lp dp g d X p (planG g d.off p)):=by
 intro W F w hS;apply vc228;unfold Vc228;(try simp only[app]at hS)
 obtain⟨sv,tv,xs,hx,hS⟩:=LogO.iff.1 hS
 obtain⟨hok,hl,hh0,hh1⟩:=hg.xs hx
 have hb0:=hg.b0
 have hb1:=hg.b1
 have hs1:=hg.s1
 have hs0:=hg.s0
 have hhead:headG (xs.map XSeg.pl)=headG g.segs:=by rw[hx]
 repeat first|refine Gp ?_|refine Gw λw hS=>?_|refine Gb λb w hS=>?_
 (apply zd (Y8 X v p hv hp) hS;exact Xp;clear hS)
 rintro r post hQ w hS
 unfold PutQ at hQ
 by_cases hbig:1048576<p.length
 ·rw[if_pos hbig]at hQ
  obtain⟨rfl,rfl⟩:=hQ
  have hpl:planG g d.off p= .error 1:=by unfold planG;rw[if_pos hbig]
  rw[hpl]
  (try simp only[app]at hS)
  repeat first|refine Gp ?_|refine Gw λw hS=>?_|refine Gb λb w hS=>?_
  refine ze (λ_=>?_) (λh=>absurd (by decide) h)
  repeat first|refine Gp ?_|refine Gw λw hS=>?_|refine Gb λb w hS=>?_
  exact⟨_,⟨⟨1,rfl,rfl,by decide⟩,rfl⟩,SL.into (LogO.iff.2 ⟨sv,tv,xs,hx,SL.into hS (t:=.pt lp (lcells sv tv dp g.base g.size) 201::RowX sv xs::.ob (zh XSegO xs)::.ob (TornO tv g.torn)::.ob (DskO dp d)::X::F) Xi⟩) Xi⟩
 ·rw[if_neg hbig]at hQ
  obtain⟨u,rfl,rfl⟩:=hQ
  (try simp only[app]at hS)
  have hu:=hS.ownOne .hd
  obtain⟨au,cu,eu,_⟩:=OwnSl.at hS .hd
  subst eu
  repeat first|refine Gp ?_|refine Gw λw hS=>?_|refine Gb λb w hS=>?_
  refine ze (λh=>absurd rfl h) (λ_=>?_)
  repeat first|refine Gp ?_|refine Gw λw hS=>?_|refine Gb λb w hS=>?_
  (apply zd (yL dp d) hS;exact Xp;clear hS)
  (rintro v post ⟨rfl,rfl⟩ w hS;(try simp only[app]at hS);(repeat (first|refine Gp ?_|refine Gw λw hS=>?_|refine Gb λb w hS=>?_)))
  have hfin:∀{w:World} {l:List Chunk},SL W (.pt lp (lcells sv tv dp g.base g.size) 201::RowX sv xs::.ob (zh XSegO xs)::.ob (TornO tv g.torn)::l) w→SL W (.ob (LogO lp dp g)::l) w:=λh=>LogO.iff.2 ⟨sv,tv,xs,hx,h⟩
  refine yO (λho=>?_) (λho=>?_)
  ·have hpl:planG g d.off p= .error 8:=by unfold planG;rw[if_neg hbig,if_pos ho]
   rw[hpl]
   repeat first|refine Gp ?_|refine Gw λw hS=>?_|refine Gb λb w hS=>?_
   exact⟨_,⟨⟨8,rfl,rfl,by decide⟩,rfl⟩,SL.into (hfin (SL.into hS (t:=.pt lp (lcells sv tv dp g.base g.size) 201::RowX sv xs::.ob (zh XSegO xs)::.ob (TornO tv g.torn)::.ob (DskO dp d)::X::F) Xi)) Xi⟩
  ·repeat first|refine Gp ?_|refine Gw λw hS=>?_|refine Gb λb w hS=>?_
   (apply zd (yj lp (lcells sv tv dp g.base g.size) 201 sv xs rfl hok hM (by omega)) hS;exact Xp;clear hS)
   (rintro v post ⟨rfl,rfl⟩ w hS;(try simp only[app]at hS);(repeat (first|refine Gp ?_|refine Gw λw hS=>?_|refine Gb λb w hS=>?_)))
   rw[hhead]
   refine ze (λh1=>?_) (λh1=>?_)
   ·have hpl:planG g d.off p= .error 7:=by unfold planG;rw[if_neg hbig,if_neg (by rw[ho];decide),if_pos h1]
    rw[hpl]
    repeat first|refine Gp ?_|refine Gw λw hS=>?_|refine Gb λb w hS=>?_
    exact⟨_,⟨⟨7,rfl,rfl,by decide⟩,rfl⟩,SL.into (hfin (SL.into hS (t:=.pt lp (lcells sv tv dp g.base g.size) 201::RowX sv xs::.ob (zh XSegO xs)::.ob (TornO tv g.torn)::.ob (DskO dp d)::X::F) Xi)) Xi⟩
   ·repeat first|refine Gp ?_|refine Gw λw hS=>?_|refine Gb λb w hS=>?_
    refine⟨λvs w=>∃f:Int,vs=[.int .i64 f]∧planG g d.off p=freshG g f p∧-1000000≤f∧f≤1000000∧SL W (.pt b [.int .i64 0,.bool false,.slice none 0 0] 284::.pt lp (lcells sv tv dp g.base g.size) 201::RowX sv xs::.ob (zh XSegO xs)::.ob (TornO tv g.torn)::.ob (DskO dp d)::.ob (OwnSl (.slice au (recB p).length cu) 5 1 (recB p).length ((recB p).map u8c))::X::F) w,?_,?_⟩
    ·repeat first|refine Gp ?_|refine Gw λw hS=>?_|refine Gb λb w hS=>?_
     refine zL hS Xh ?_
     repeat first|refine Gp ?_|refine Gw λw hS=>?_|refine Gb λb w hS=>?_
     refine ze (λh2=>?_) (λh2=>?_)
     ·repeat first|refine Gp ?_|refine Gw λw hS=>?_|refine Gb λb w hS=>?_
      have e:((xs.length:Nat):Int)-1=((xs.length-1:Nat):Int):=by omega
      rw[e]
      have hj:xs.length-1<xs.length:=by omega
      refine YA hS Xh hj ?_
      have hm:(xs[xs.length-1]'hj).pl∈xs.map XSeg.pl:=List.mem_map.2 ⟨_,List.getElem_mem hj,rfl⟩
      have hlast:g.segs.getLast?=some (xs[xs.length-1]'hj).pl:=by
       rw[← hx,List.getLast?_map,List.getLast?_eq_getElem?,List.getElem?_eq_getElem hj];rfl
      have hsk:=hok _ hm
      generalize xs[xs.length-1]'hj=x at *
      have hpl0:planG g d.off p=if x.pl.l.length=0∨(x.pl.size:Int)+(recB p).length≤g.size then .ok ⟨x.pl.file,false,recB p⟩ else freshG g (x.pl.file+1) p:=by
       unfold planG;rw[if_neg hbig,if_neg (by rw[ho];decide),if_neg (by omega),hlast]
      have hxl:x.pl.l.length=x.es.length:=by simp[XSeg.pl,byts_len]
      have hxz:x.pl.size=x.size:=rfl
      have hxf:x.pl.file=x.file:=rfl
      have k1:=hsk.f0
      have k2:=hsk.f1
      have k3:=hsk.sz
      rw[hxl,hxz,hxf]at hpl0
      rw[hxf]at k1 k2
      rw[hxz]at k3
      have hrl:=recB_len p
      unfold xcells XSeg.lv
      repeat first|refine Gp ?_|refine Gw λw hS=>?_|refine Gb λb w hS=>?_
      refine ze (λh3=>?_) (λh3=>?_)
      ·rw[if_pos (.inl (by omega))]at hpl0
       rw[hpl0]
       repeat first|refine Gp ?_|refine Gw λw hS=>?_|refine Gb λb w hS=>?_
       exact⟨_,⟨au,cu,rfl,rfl⟩,SL.into (hfin (SL.into hS (t:=.pt lp (lcells sv tv dp g.base g.size) 201::RowX sv xs::.ob (zh XSegO xs)::.ob (TornO tv g.torn)::.ob (OwnSl (.slice au (recB p).length cu) 5 1 (recB p).length ((recB p).map u8c))::.ob (DskO dp d)::X::F) Xi)) Xi⟩
      ·repeat first|refine Gp ?_|refine Gw λw hS=>?_|refine Gb λb w hS=>?_
       refine ze (λh4=>?_) (λh4=>?_)
       ·rw[if_pos (.inr (by omega))]at hpl0
        rw[hpl0]
        repeat first|refine Gp ?_|refine Gw λw hS=>?_|refine Gb λb w hS=>?_
        exact⟨_,⟨au,cu,rfl,rfl⟩,SL.into (hfin (SL.into hS (t:=.pt lp (lcells sv tv dp g.base g.size) 201::RowX sv xs::.ob (zh XSegO xs)::.ob (TornO tv g.torn)::.ob (OwnSl (.slice au (recB p).length cu) 5 1 (recB p).length ((recB p).map u8c))::.ob (DskO dp d)::X::F) Xi)) Xi⟩
       ·rw[if_neg (by omega)]at hpl0
        repeat first|refine Gp ?_|refine Gw λw hS=>?_|refine Gb λb w hS=>?_
        exact⟨x.file+1,rfl,hpl0,by omega,by omega,SL.into hS Xi⟩
     ·have hpl0:planG g d.off p=freshG g g.base p:=by
       have hnil:g.segs=[]:=by
        rw[← hx]
        have:xs=[]:=List.eq_nil_of_length_eq_zero (by omega)
        rw[this];rfl
       unfold planG;rw[if_neg hbig,if_neg (by rw[ho];decide),if_neg (by omega),hnil];rfl
      exact⟨g.base,rfl,hpl0,by omega,by omega,SL.into hS Xi⟩
    ·clear hS
     rintro v8 w ⟨f,hvs,hpl0,f0,f1,hS⟩
     cases hvs
     rw[hpl0]
     unfold freshG
     repeat first|refine Gp ?_|refine Gw λw hS=>?_|refine Gb λb w hS=>?_
     refine ze (λh2=>?_) (λh2=>?_)
     ·rw[if_pos h2]
      repeat first|refine Gp ?_|refine Gw λw hS=>?_|refine Gb λb w hS=>?_
      exact⟨_,⟨⟨7,rfl,rfl,by decide⟩,rfl⟩,SL.into (hfin (SL.into hS (t:=.pt lp (lcells sv tv dp g.base g.size) 201::RowX sv xs::.ob (zh XSegO xs)::.ob (TornO tv g.torn)::.ob (DskO dp d)::X::F) Xi)) Xi⟩
     ·rw[if_neg h2]
      repeat first|refine Gp ?_|refine Gw λw hS=>?_|refine Gb λb w hS=>?_
      (apply zd (yj lp (lcells sv tv dp g.base g.size) 201 sv xs rfl hok hM (by omega)) hS;exact Xp;clear hS)
      (rintro v post ⟨rfl,rfl⟩ w hS;(try simp only[app]at hS);(repeat (first|refine Gp ?_|refine Gw λw hS=>?_|refine Gb λb w hS=>?_)))
      rw[hhead]
      (apply zd (Yv (headG g.segs+1)) hS;exact Xp;clear hS)
      rintro r post hQ w hS
      unfold HeadQ at hQ
      rw[if_neg (by omega)]at hQ
      obtain⟨y,rfl,rfl⟩:=hQ
      (try simp only[app]at hS)
      have hy:=hS.ownOne .hd
      obtain⟨ay,cy,ey,_⟩:=OwnSl.at hS .hd
      subst ey
      repeat first|refine Gp ?_|refine Gw λw hS=>?_|refine Gb λb w hS=>?_
      refine zd (F:=_) (Zz _ 2 _ [_,_] [recB (hdB (headG g.segs+1).toNat),recB p] [.ob (OwnSl (.slice ay (recB (hdB (headG g.segs+1).toNat)).length cy) 5 1 (recB (hdB (headG g.segs+1).toNat)).length ((recB (hdB (headG g.segs+1).toNat)).map u8c)),.ob (OwnSl (.slice au (recB p).length cu) 5 1 (recB p).length ((recB p).map u8c))] rfl rfl ?_ ?_ (by omega)) hS Xp ?_
      ·intro i hi
       match i,hi with
       | 0,_=>exact⟨_,.hd,Rdb.own⟩
       | 1,_=>exact⟨_,.tl .hd,Rdb.own⟩
      ·have:=recB_len p
       have:=recB_len (hdB (headG g.segs+1).toNat)
       have:=hdB_len (headG g.segs+1).toNat
       simp;omega
      ·clear hS
       rintro c post rfl w hS;(try simp only[app]at hS)
       have e2:[recB (hdB (headG g.segs+1).toNat),recB p].flatten=recB (hdB (headG g.segs+1).toNat)++recB p:=by simp
       rw[e2]at hS
       have hc:=hS.ownOne .hd
       obtain⟨ac,cc,ec,_⟩:=OwnSl.at hS .hd
       subst ec
       repeat first|refine Gp ?_|refine Gw λw hS=>?_|refine Gb λb w hS=>?_
       have e3:(recB (hdB (headG g.segs+1).toNat)).length+(recB p).length=(recB (hdB (headG g.segs+1).toNat)++recB p).length:=by rw[List.length_append]
       rw[e3]
       exact⟨_,⟨ac,cc,rfl,rfl⟩,SL.into (hfin (SL.into hS (t:=.pt lp (lcells sv tv dp g.base g.size) 201::RowX sv xs::.ob (zh XSegO xs)::.ob (TornO tv g.torn)::.ob (OwnSl (.slice ac (recB (hdB (headG g.segs+1).toNat)++recB p).length cc) 5 1 (recB (hdB (headG g.segs+1).toNat)++recB p).length ((recB (hdB (headG g.segs+1).toNat)++recB p).map u8c))::.ob (DskO dp d)::X::F) Xi)) Xi⟩
def ReadyQ(lp dp:Nat)(g:PLog)(d:DS)(X:Chunk)(y:Except Int PWr)(r:Value)(post:List Chunk):Prop:=match y with
 | .error e=>e≠0∧r= .tuple #[.agg #[.int .i64 0,.bool false,.slice none 0 0],.int .i64 e]∧post=[.ob (LogO lp dp g),.ob (DskO dp d),X]
 | .ok x=>∃a c,r= .tuple #[.agg #[.int .i64 x.file,.bool x.fresh,.slice a x.b.length c],.int .i64 (mendG g d).2]∧post=[.ob (OwnSl (.slice a x.b.length c) 5 1 x.b.length (x.b.map u8c)),.ob (LogO lp dp (mendG g d).1.1),.ob (DskO dp (mendG g d).1.2),X]
theorem ZC(X:Chunk)(lp dp:Nat)(g:PLog)(d:DS)(v:Value)(p:List UInt8)(hv:Rdb X v p)(hp:p.length≤140737488355328){M N:Nat}(hg:g.Ok M)(hM:M≤1000000000000000)(hok:d.Ok N)(hN:N≤140737488355328)(hops:d.ops≤100000):
  SP 184 [.pointer (some ⟨lp,0,none⟩),v] [.ob (LogO lp dp g),.ob (DskO dp d),X] (ReadyQ lp dp g d X (planG g d.off p)):=by
 intro W F w hS;apply vc184;unfold Vc184;(try simp only[app]at hS)
 repeat first|refine Gp ?_|refine Gw λw hS=>?_|refine Gb λb w hS=>?_
 (apply zd (qS X lp dp g d v p hv hp hg hM) hS;exact Xp;clear hS)
 rintro r post hQ w hS
 cases hpl:planG g d.off p with
 | error e=>
  rw[hpl]at hQ
  obtain⟨⟨z,rfl,rfl,hz⟩,rfl⟩:=hQ
  (try simp only[app]at hS)
  repeat first|refine Gp ?_|refine Gw λw hS=>?_|refine Gb λb w hS=>?_
  refine ze (λh=>absurd h hz) (λ_=>?_)
  repeat first|refine Gp ?_|refine Gw λw hS=>?_|refine Gb λb w hS=>?_
  exact⟨_,⟨hz,rfl,rfl⟩,SL.into hS Xi⟩
 | ok x=>
  rw[hpl]at hQ
  obtain⟨a,c,rfl,rfl⟩:=hQ
  (try simp only[app]at hS)
  repeat first|refine Gp ?_|refine Gw λw hS=>?_|refine Gb λb w hS=>?_
  refine ze (λ_=>?_) (λh=>absurd rfl h)
  repeat first|refine Gp ?_|refine Gw λw hS=>?_|refine Gb λb w hS=>?_
  (apply zd (q7 lp dp g d N hok hN hops) hS;exact Xp;clear hS)
  (rintro v post ⟨rfl,rfl⟩ w hS;(try simp only[app]at hS);(repeat (first|refine Gp ?_|refine Gw λw hS=>?_|refine Gb λb w hS=>?_)))
  exact⟨_,⟨a,c,rfl,rfl⟩,SL.into hS Xi⟩
theorem RowX.at{W w:World}{l:List Chunk}{v:Value}{t:TypeId}{xs:List XSeg}{j:Nat}(h:SL W (.ob (OwnSo v t 4 xs.length (xs.map xcells).flatten)::l) w)(hj:j<xs.length):
  ∃b o cap A B,v= .slice (some ⟨b,o,none⟩) xs.length cap∧A.length=o+j*4∧SL W (.pt b (A++(xcells xs[j]++B)) t::l) w ∧
   ∀y w' l',SL W (.pt b (A++(xcells y++B)) t::l') w'→SL W (.ob (OwnSo v t 4 (xs.set j y).length ((xs.set j y).map xcells).flatten)::l') w':=by
 obtain⟨b,pre,cap,rest,rfl,hc,hl,hr,hS⟩:=OwnSo.block h (by omega)
 have e:(xs.map xcells).flatten=((xs.take j).map xcells).flatten++(xcells xs[j]++((xs.drop (j+1)).map xcells).flatten):=by
  have hsp:xs=xs.take j++xs[j]::xs.drop (j+1):=by rw[← List.drop_eq_getElem_cons hj,List.take_append_drop]
  have e:=congrArg (λl=>(List.map xcells l).flatten) hsp
  simp only[List.map_append,List.map_cons,List.flatten_append,List.flatten_cons]at e
  exact e
 have el:((xs.take j).map xcells).flatten.length=j*4:=by rw[flatX_len,List.length_take];omega
 refine⟨b,pre.length,cap,pre++((xs.take j).map xcells).flatten,((xs.drop (j+1)).map xcells).flatten++rest,rfl,by rw[List.length_append,el],?_,λy w' l' h'=>?_⟩
 ·rw[e]at hS
  simp only[List.append_assoc]at hS ⊢
  exact hS
 ·have e2:((xs.set j y).map xcells).flatten=((xs.take j).map xcells).flatten++(xcells y++((xs.drop (j+1)).map xcells).flatten):=by
   rw[List.set_eq_take_append_cons_drop,if_pos hj]
   simp only[List.map_append,List.map_cons,List.flatten_append,List.flatten_cons]
  have:=OwnSo.mk (b:=b) (t:=t) (sz:=4) (n:=xs.length) (cells:=((xs.set j y).map xcells).flatten) (pre:=pre) (rest:=rest) (cap:=cap) hc (by rw[flatX_len,List.length_set]) hr rfl (by rw[e2];simp only[List.append_assoc]at h' ⊢;exact h')
  show SL W (.ob (OwnSo _ t 4 (xs.set j y).length _)::l') w'
  rw[List.length_set]
  exact this
theorem pt_get{A B:List Value}{cs:List Value}{i:Nat}{u:Value}(h:cs[i]?=some u):(A++(cs++B))[A.length+i]?=some u:=by
 rw[List.getElem?_append_right (by omega),Nat.add_sub_cancel_left,List.getElem?_append_left (List.getElem?_eq_some_iff.1 h).1];exact h
theorem pt_set{A B:List Value}{cs:List Value}{i:Nat}{u:Value}(h:i<cs.length):(A++(cs++B)).set (A.length+i) u=A++(cs.set i u++B):=by
 rw[List.set_append_right _ _ (by omega),Nat.add_sub_cancel_left,List.set_append_left _ _ h]
theorem appendG_er{g:PLog}{d:DS}{p:List UInt8}{e:Int}(h:planG g d.off p= .error e):appendG g d p=((g,d),(0,e)):=by
 unfold appendG;rw[h]
theorem appendG_m{g:PLog}{d:DS}{p:List UInt8}{x:PWr}(h:planG g d.off p= .ok x)(hm:(mendG g d).2≠0):appendG g d p=((mendG g d).1,(0,(mendG g d).2)):=by
 unfold appendG;rw[h];simp only;rw[if_pos hm]
theorem appendG_a{g:PLog}{d:DS}{p:List UInt8}{x:PWr}(h:planG g d.off p= .ok x)(hm:(mendG g d).2=0)(ha:((mendG g d).1.2.append x.file x.b).2≠0):
  appendG g d p=(((mendG g d).1.1,((mendG g d).1.2.append x.file x.b).1),(0,((mendG g d).1.2.append x.file x.b).2)):=by
 unfold appendG;rw[h];simp only;rw[if_neg (by simp[hm]),if_pos ha]
theorem appendG_s{g:PLog}{d:DS}{p:List UInt8}{x:PWr}(h:planG g d.off p= .ok x)(hm:(mendG g d).2=0)(ha:((mendG g d).1.2.append x.file x.b).2=0)(hs:(((mendG g d).1.2.append x.file x.b).1.sync x.file).2≠0):
  appendG g d p=(((mendG g d).1.1,(((mendG g d).1.2.append x.file x.b).1.sync x.file).1),(0,(((mendG g d).1.2.append x.file x.b).1.sync x.file).2)):=by
 unfold appendG;rw[h];simp only;rw[if_neg (by simp[hm]),if_neg (by simp[ha]),if_pos hs]
theorem appendG_k{g:PLog}{d:DS}{p:List UInt8}{x:PWr}(h:planG g d.off p= .ok x)(hm:(mendG g d).2=0)(ha:((mendG g d).1.2.append x.file x.b).2=0)(hs:(((mendG g d).1.2.append x.file x.b).1.sync x.file).2=0):
  appendG g d p=(({(mendG g d).1.1 with segs:=putG g.segs x p},(((mendG g d).1.2.append x.file x.b).1.sync x.file).1),(headG (putG g.segs x p),0)):=by
 unfold appendG;rw[h];simp only;rw[if_neg (by simp[hm]),if_neg (by simp[ha]),if_neg (by simp[hs]),(mendG_same g d).1]
theorem ops_append(s:DS)(f:Int)(b:List UInt8):(s.append f b).1.ops≤s.ops+1:=by
 unfold DS.append;split<;>simp[DS.cnt]
theorem ops_cut(s:DS)(f n:Int):(s.cut f n).1.ops≤s.ops+1:=by
 unfold DS.cut;split
 ·simp
 ·split
  ·simp
  ·split<;>simp[DS.cnt]
theorem ops_remove(s:DS)(f:Int):(s.remove f).1.ops≤s.ops+1:=by
 unfold DS.remove;split
 ·simp
 ·split<;>simp[DS.cnt]
theorem ops_mend(g:PLog)(d:DS):(mendG g d).1.2.ops≤d.ops+1:=by
 unfold mendG;split
 ·simp
 ·simp only
  split
  ·exact ops_remove _ _
  ·exact ops_cut _ _ _
theorem Ym(X:Chunk)(lp dp:Nat)(g:PLog)(d:DS)(v:Value)(p:List UInt8)(hv:Rdb X v p)(hp:p.length≤140737488355328){M N:Nat}(hg:g.Ok M)(hM:M≤1000000000000)(hok:d.Ok N)(hN:N≤140737480000000)(hops:d.ops≤90000):
  SP 106 [.pointer (some ⟨lp,0,none⟩),v] [.ob (LogO lp dp g),.ob (DskO dp d),X] (Gives (.tuple #[.int .i64 (appendG g d p).2.1,.int .i64 (appendG g d p).2.2]) [.ob (LogO lp dp (appendG g d p).1.1),.ob (DskO dp (appendG g d p).1.2),X]):=by
 intro W F w hS;apply vc106;unfold Vc106;(try simp only[app]at hS)
 obtain⟨va,vc,rfl,hvc⟩:=hv.sl hS Xh
 repeat first|refine Gp ?_|refine Gw λw hS=>?_|refine Gb λb w hS=>?_
 (apply zd (ZC X lp dp g d _ p hv hp hg (by omega) hok (by omega) (by omega)) hS;exact Xp;clear hS)
 rintro r post hQ w hS
 cases hpl:planG g d.off p with
 | error e=>
  rw[hpl]at hQ
  obtain⟨hz,rfl,rfl⟩:=hQ
  rw[appendG_er hpl]
  (try simp only[app]at hS)
  repeat first|refine Gp ?_|refine Gw λw hS=>?_|refine Gb λb w hS=>?_
  refine⟨λvs w=>vs=[.int .i64 e]∧SL W (.ob (LogO lp dp g)::.ob (DskO dp d)::X::F) w,?_,?_⟩
  ·repeat first|refine Gp ?_|refine Gw λw hS=>?_|refine Gb λb w hS=>?_
   refine ze (λh=>absurd h hz) (λ_=>⟨rfl,SL.into hS Xi⟩)
  ·clear hS
   rintro v7 w ⟨hvs,hS⟩
   cases hvs
   refine⟨λvs w=>vs=[.int .i64 e]∧SL W (.ob (LogO lp dp g)::.ob (DskO dp d)::X::F) w,?_,?_⟩
   ·repeat first|refine Gp ?_|refine Gw λw hS=>?_|refine Gb λb w hS=>?_
    refine ze (λh=>absurd h hz) (λ_=>⟨rfl,hS⟩)
   ·clear hS
    rintro v7 w ⟨hvs,hS⟩
    cases hvs
    repeat first|refine Gp ?_|refine Gw λw hS=>?_|refine Gb λb w hS=>?_
    refine ze (λ_=>?_) (λh=>absurd hz h)
    (exact⟨_,⟨rfl,rfl⟩,SL.into hS Xi⟩)
 | ok x=>
  rw[hpl]at hQ
  obtain⟨a,c,rfl,rfl⟩:=hQ
  have hw:=planG_wr hg hpl
  have hmok:=mendG_ok (g:=g) hok
  have hmg:=mendG_gok (d:=d) hg
  have hms:=mendG_same g d
  have hmo:=ops_mend g d
  have hbl:=hw.bl
  have hpp:=hw.pl
  (try simp only[app]at hS)
  repeat first|refine Gp ?_|refine Gw λw hS=>?_|refine Gb λb w hS=>?_
  obtain⟨wb,rfl⟩:∃k,k=b:=⟨b,rfl⟩
  by_cases hm:(mendG g d).2=0
  ·
   have haok:=hmok.append x.file x.b
   have hao:=ops_append (mendG g d).1.2 x.file x.b
   have hsok:=haok.sync x.file
   have hkk:=appendG_k hpl hm
   have haa:=appendG_a hpl hm
   have hss:=appendG_s hpl hm
   generalize appendG g d p=G at *
   generalize mendG g d=m at *
   obtain⟨⟨g1,d1⟩,me⟩:=m
   simp only at *
   subst hm
   refine⟨λvs w=>vs=[.int .i64 (d1.append x.file x.b).2]∧SL W (.pt wb [.int .i64 x.file,.bool x.fresh,.slice a x.b.length c] 284::.ob (OwnSl (.slice a x.b.length c) 5 1 x.b.length (x.b.map u8c))::.ob (LogO lp dp g1)::.ob (DskO dp (d1.append x.file x.b).1)::X::F) w,?_,?_⟩
   ·repeat first|refine Gp ?_|refine Gw λw hS=>?_|refine Gb λb w hS=>?_
    refine ze (λ_=>?_) (λh=>absurd rfl h)
    obtain⟨sv,tv,xs,hx,hS⟩:=LogO.iff.1 (SL.into hS (t:=.ob (LogO lp dp g1)::.pt wb [.int .i64 x.file,.bool x.fresh,.slice a x.b.length c] 284::.ob (OwnSl (.slice a x.b.length c) 5 1 x.b.length (x.b.map u8c))::.ob (DskO dp d1)::X::F) Xi)
    repeat first|refine Gp ?_|refine Gw λw hS=>?_|refine Gb λb w hS=>?_
    (apply zd (appendD_gen (.ob (OwnSl (.slice a x.b.length c) 5 1 x.b.length (x.b.map u8c))) dp d1 N hmok (by omega) x.file _ x.b (λhS h=>src_own hS h) (by omega)) hS;exact Xp;clear hS)
    (rintro v post ⟨rfl,rfl⟩ w hS;(try simp only[app]at hS);(repeat (first|refine Gp ?_|refine Gw λw hS=>?_|refine Gb λb w hS=>?_)))
    have hS:=LogO.iff.2 ⟨sv,tv,xs,hx,SL.into hS (t:=.pt lp (lcells sv tv dp g1.base g1.size) 201::RowX sv xs::.ob (zh XSegO xs)::.ob (TornO tv g1.torn)::.pt wb [.int .i64 x.file,.bool x.fresh,.slice a x.b.length c] 284::.ob (OwnSl (.slice a x.b.length c) 5 1 x.b.length (x.b.map u8c))::.ob (DskO dp (d1.append x.file x.b).1)::X::F) Xi⟩
    exact SL.into hS Xi
   ·clear hS
    rintro v7 w ⟨hvs,hS⟩
    cases hvs
    by_cases ha:(d1.append x.file x.b).2=0
    ·rw[ha]
     refine⟨λvs w=>vs=[.int .i64 ((d1.append x.file x.b).1.sync x.file).2]∧SL W (.pt wb [.int .i64 x.file,.bool x.fresh,.slice a x.b.length c] 284::.ob (OwnSl (.slice a x.b.length c) 5 1 x.b.length (x.b.map u8c))::.ob (LogO lp dp g1)::.ob (DskO dp ((d1.append x.file x.b).1.sync x.file).1)::X::F) w,?_,?_⟩
     ·repeat first|refine Gp ?_|refine Gw λw hS=>?_|refine Gb λb w hS=>?_
      refine ze (λ_=>?_) (λh=>absurd rfl h)
      obtain⟨sv,tv,xs,hx,hS⟩:=LogO.iff.1 (SL.into hS (t:=.ob (LogO lp dp g1)::.pt wb [.int .i64 x.file,.bool x.fresh,.slice a x.b.length c] 284::.ob (OwnSl (.slice a x.b.length c) 5 1 x.b.length (x.b.map u8c))::.ob (DskO dp (d1.append x.file x.b).1)::X::F) Xi)
      repeat first|refine Gp ?_|refine Gw λw hS=>?_|refine Gb λb w hS=>?_
      (apply zd (qI dp (d1.append x.file x.b).1 _ haok (by omega) x.file) hS;exact Xp;clear hS)
      (rintro v post ⟨rfl,rfl⟩ w hS;(try simp only[app]at hS);(repeat (first|refine Gp ?_|refine Gw λw hS=>?_|refine Gb λb w hS=>?_)))
      have hS:=LogO.iff.2 ⟨sv,tv,xs,hx,SL.into hS (t:=.pt lp (lcells sv tv dp g1.base g1.size) 201::RowX sv xs::.ob (zh XSegO xs)::.ob (TornO tv g1.torn)::.pt wb [.int .i64 x.file,.bool x.fresh,.slice a x.b.length c] 284::.ob (OwnSl (.slice a x.b.length c) 5 1 x.b.length (x.b.map u8c))::.ob (DskO dp ((d1.append x.file x.b).1.sync x.file).1)::X::F) Xi⟩
      exact SL.into hS Xi
     ·clear hS
      rintro v7 w ⟨hvs,hS⟩
      cases hvs
      by_cases hs:((d1.append x.file x.b).1.sync x.file).2=0
      ·rw[hs]
       have hG:=hkk ha hs
       subst hG
       clear hkk haa hss hao
       generalize ((d1.append x.file x.b).1.sync x.file).1=d3 at *
       repeat first|refine Gp ?_|refine Gw λw hS=>?_|refine Gb λb w hS=>?_
       refine ze (λh=>absurd rfl h) (λ_=>?_)
       obtain⟨sv,tv,xs,hx,hS⟩:=LogO.iff.1 (SL.into hS (t:=.ob (LogO lp dp g1)::.pt wb [.int .i64 x.file,.bool x.fresh,.slice a x.b.length c] 284::.ob (DskO dp d3)::X::F) Xi)
       obtain⟨hxo,hxl,_,_⟩:=hmg.xs hx
       have hhead:headG (xs.map XSeg.pl)=headG g.segs:=by rw[hx,hms.1]
       have hgd:=hw.hd
       have hge:=headG_ge hg.segs
       have hmok2:=moreG_ok hg hw
       refine⟨λvs w=>vs=[]∧∃sv' xs',xs'.map XSeg.pl=moreG g.segs x∧xs'.length≤xs.length+1∧SL W (.pt lp (lcells sv' tv dp g1.base g1.size) 201::RowX sv' xs'::.ob (zh XSegO xs')::.ob (TornO tv g1.torn)::.pt wb [.int .i64 x.file,.bool x.fresh,.slice a x.b.length c] 284::.ob (DskO dp d3)::X::F) w,?_,?_⟩
       ·repeat first|refine Gp ?_|refine Gw λw hS=>?_|refine Gb λb w hS=>?_
        unfold moreG
        refine yO (λhf=>?_) (λhf=>?_)
        ·rw[if_pos hf]
         repeat first|refine Gp ?_|refine Gw λw hS=>?_|refine Gb λb w hS=>?_
         (apply zd (yj lp (lcells sv tv dp g1.base g1.size) 201 sv xs rfl hxo (by omega) (by omega)) hS;exact Xp;clear hS)
         (rintro v post ⟨rfl,rfl⟩ w hS;(try simp only[app]at hS);(repeat (first|refine Gp ?_|refine Gw λw hS=>?_|refine Gb λb w hS=>?_)))
         rw[hhead]at hS
         have hone:=OwnSo.one hS (v:=sv) (t:=290) (sz:=4) (n:=xs.length) (cells:=(xs.map xcells).flatten) Xh
         refine yM (m:=1) (cs:=[.int .i64 x.file,.int .i64 (headG g.segs+1),.int .i64 0,.slice none 0 0]) hS Xr (src_pt0 hS .hd rfl) rfl rfl (by simp[Value.oneCell']) (by omega) (by omega) ?_
         clear hS;intro sv' w hS
         have hone:=OwnSo.one hS (v:=sv') .hd
         repeat first|refine Gp ?_|refine Gw λw hS=>?_|refine Gb λb w hS=>?_
         have hS:=OwnSo.nil0 (a:=none) (t:=54) (sz:=1) hS
         have hS:=zh.nil (A:=BEntO) (SL.into hS (t:=.ob (OwnSo (.slice none 0 0) 54 1 0 [])::.ob (zh XSegO xs)::.pt lp (lcells sv' tv dp g1.base g1.size) 201::.ob (OwnSo sv' 290 4 (xs.length+1) ((xs.map xcells).flatten++[.int .i64 x.file,.int .i64 (headG g.segs+1),.int .i64 0,.slice none 0 0]))::.ob (TornO tv g1.torn)::.pt wb [.int .i64 x.file,.bool x.fresh,.slice a x.b.length c] 284::.ob (DskO dp d3)::X::F) Xi)
         have hS:=(XSegO.iff (x:=⟨x.file,headG g.segs+1,0,[],none,0⟩)).2 (SL.into hS (t:=.ob (OwnSo (.slice none 0 0) 54 1 0 [])::.ob (zh BEntO [])::.ob (zh XSegO xs)::.pt lp (lcells sv' tv dp g1.base g1.size) 201::.ob (OwnSo sv' 290 4 (xs.length+1) ((xs.map xcells).flatten++[.int .i64 x.file,.int .i64 (headG g.segs+1),.int .i64 0,.slice none 0 0]))::.ob (TornO tv g1.torn)::.pt wb [.int .i64 x.file,.bool x.fresh,.slice a x.b.length c] 284::.ob (DskO dp d3)::X::F) Xi)
         have hS:=zh.snoc (SL.into hS (t:=.ob (zh XSegO xs)::.ob (XSegO ⟨x.file,headG g.segs+1,0,[],none,0⟩)::.pt lp (lcells sv' tv dp g1.base g1.size) 201::.ob (OwnSo sv' 290 4 (xs.length+1) ((xs.map xcells).flatten++[.int .i64 x.file,.int .i64 (headG g.segs+1),.int .i64 0,.slice none 0 0]))::.ob (TornO tv g1.torn)::.pt wb [.int .i64 x.file,.bool x.fresh,.slice a x.b.length c] 284::.ob (DskO dp d3)::X::F) Xi)
         have e1:xs.length+1=(xs++[(⟨x.file,headG g.segs+1,0,[],none,0⟩:XSeg)]).length:=by simp
         have e2:(xs.map xcells).flatten++[.int .i64 x.file,.int .i64 (headG g.segs+1),.int .i64 0,.slice none 0 0]=((xs++[(⟨x.file,headG g.segs+1,0,[],none,0⟩:XSeg)]).map xcells).flatten:=by simp[xcells,XSeg.lv]
         rw[e1,e2]at hS
         refine⟨sv',xs++[⟨x.file,headG g.segs+1,0,[],none,0⟩],?_,by simp,SL.into hS Xi⟩
         rw[List.map_append,hx,hms.1];rfl
        ·rw[if_neg (by rw[hf];decide)]
         exact⟨rfl,sv,xs,by rw[hx,hms.1],by omega,SL.into hS Xi⟩
       ·clear hS hxo hhead
        rintro w ⟨-,sv',xs',hx',hl',hS⟩
        obtain⟨A,s,hA⟩:=moreG_last hw
        rw[putG_eq _ _ _ hA]
        have hle:0<xs'.length:=by
         have:=congrArg List.length hx'
         rw[hA]at this;simp at this;omega
        have hj:xs'.length-1<xs'.length:=by omega
        have hsp:xs'=xs'.take (xs'.length-1)++[xs'[xs'.length-1]]:=by
         conv=>lhs;rw[← List.take_append_drop (xs'.length-1) xs']
         rw[List.drop_eq_getElem_cons hj,List.drop_eq_nil_of_le (by omega)]
        have hAs:A=(xs'.take (xs'.length-1)).map XSeg.pl∧s=(xs'[xs'.length-1]).pl:=by
         rw[hsp,List.map_append]at hx'
         rw[hA]at hx'
         have:=List.append_inj' hx' rfl
         exact⟨this.1.symm,by simpa using this.2.symm⟩
        obtain⟨hA1,hs1⟩:=hAs
        subst hA1 hs1
        have hso:=hmok2 (xs'[xs'.length-1]).pl (by rw[hA];simp)
        have z1:=hso.sz
        have z2:=hso.ln
        have hS:=zh.take (t:=xs'.length-1) (SL.into hS (t:=.ob (zh XSegO xs')::RowX sv' xs'::.pt lp (lcells sv' tv dp g1.base g1.size) 201::.ob (TornO tv g1.torn)::.pt wb [.int .i64 x.file,.bool x.fresh,.slice a x.b.length c] 284::.ob (DskO dp d3)::X::F) Xi) (List.getElem?_eq_getElem hj)
        have hS:=XSegO.iff.1 hS
        obtain⟨rb,ro,rc,AA,BB,rfl,hAA,hS,hback⟩:=RowX.at (SL.into hS (t:=RowX sv' xs'::.ob (OwnSo (xs'[xs'.length-1]).lv 54 1 (xs'[xs'.length-1]).es.length (vals (xs'[xs'.length-1]).es))::.ob (zh BEntO (xs'[xs'.length-1]).es)::.ob (zh XSegO (xs'.eraseIdx (xs'.length-1)))::.pt lp (lcells sv' tv dp g1.base g1.size) 201::.ob (TornO tv g1.torn)::.pt wb [.int .i64 x.file,.bool x.fresh,.slice a x.b.length c] 284::.ob (DskO dp d3)::X::F) Xi) hj
        generalize hx0:xs'[xs'.length-1]=x0 at *
        have z1:x0.size≤M:=z1
        have z2:x0.es.length≤M:=by simpa [XSeg.pl,byts_len] using z2
        repeat first|refine Gp ?_|refine Gw λw hS=>?_|refine Gb λb w hS=>?_
        have e:((xs'.length:Nat):Int)-1=((xs'.length-1:Nat):Int):=by omega
        rw[e]
        refine zC hj ?_
        rw[← hAA]
        repeat first|refine Gp ?_|refine Gw λw hS=>?_|refine Gb λb w hS=>?_
        refine zS hS Xh (pt_get (i:=2) (u:=.int .i64 x0.size) rfl) ?_
        repeat first|refine Gp ?_|refine Gw λw hS=>?_|refine Gb λb w hS=>?_
        refine yW hS Xu (pt_get (i:=2) (u:=.int .i64 x0.size) rfl) rfl ?_
        clear hS;intro w hS
        rw[pt_set (by rw[xcells_len];decide)]at hS
        have e5:(xcells x0).set 2 (.int .i64 ((x0.size+x.b.length:Nat):Int))=[.int .i64 x0.file,.int .i64 x0.first,.int .i64 ((x0.size+x.b.length:Nat):Int),x0.lv]:=rfl
        rw[e5]at hS
        repeat first|refine Gp ?_|refine Gw λw hS=>?_|refine Gb λb w hS=>?_
        refine zS hS Xh (pt_get (i:=3) (u:=x0.lv) rfl) ?_
        refine Zj (cs:=p.map u8c) hS (λw' c hS'=>hv.src hS' (.tl Xh)) (by simp) (u8c_one _) (by omega) ?_
        clear hS;intro u w hS _
        have hu:=hS.ownOne .hd
        obtain⟨ua,uc,eu,_⟩:=OwnSl.at hS .hd
        subst eu
        refine zS hS Xh (pt_get (i:=3) (u:=x0.lv) rfl) ?_
        repeat first|refine Gp ?_|refine Gw λw hS=>?_|refine Gb λb w hS=>?_
        refine zS hS Xh (pt_get (i:=3) (u:=x0.lv) rfl) ?_
        repeat first|refine Gp ?_|refine Gw λw hS=>?_|refine Gb λb w hS=>?_
        refine yM (t:=54) (sz:=1) (n:=x0.es.length) (cells:=vals x0.es) (m:=1) (cs:=[.slice ua p.length uc]) hS Xr (src_pt0 hS .hd rfl) rfl rfl (by simp[Value.oneCell']) (by omega) (by omega) ?_
        clear hS;intro v' w hS
        have hone:=OwnSo.one hS (v:=v') .hd
        obtain⟨a',c',ev,_⟩:=OwnSo.at hS (v:=v') .hd
        subst ev
        repeat first|refine Gp ?_|refine Gw λw hS=>?_|refine Gb λb w hS=>?_
        refine yW hS Xu (pt_get (i:=3) (u:=x0.lv) rfl) hone ?_
        clear hS;intro w hS
        rw[pt_set (by show 3<4;decide)]at hS
        have e6:([.int .i64 x0.file,.int .i64 x0.first,.int .i64 ((x0.size+x.b.length:Nat):Int),x0.lv]:List Value).set 3 (.slice a' (x0.es.length+1) c')=xcells ⟨x0.file,x0.first,x0.size+x.b.length,x0.es++[(.slice ua p.length uc,p)],a',c'⟩:=by
         simp[xcells,XSeg.lv]
        rw[e6]at hS
        let y:XSeg:=⟨x0.file,x0.first,x0.size+x.b.length,x0.es++[(.slice ua p.length uc,p)],a',c'⟩
        have hx2:(xs'.set (xs'.length-1) y).map XSeg.pl=(xs'.take (xs'.length-1)).map XSeg.pl++[addE x0.pl x.b.length p]:=by
         rw[List.set_eq_take_append_cons_drop,if_pos hj,List.drop_eq_nil_of_le (by omega),List.map_append]
         congr 1
         simp[y,XSeg.pl,addE,byts]
        have hpk:=(putG_ok hg hw).1
        rw[putG_eq _ _ _ hA,← hx2]at hpk
        have hS:=hback y w _ (SL.into hS (t:=.pt rb (AA++(xcells y++BB)) 290::.ob (OwnSo (.slice a' (x0.es.length+1) c') 54 1 (x0.es.length+1) (vals x0.es++[.slice ua p.length uc]))::.ob (OwnSl (.slice ua p.length uc) 5 1 p.length (p.map u8c))::.ob (zh BEntO x0.es)::.ob (zh XSegO (xs'.eraseIdx (xs'.length-1)))::.pt lp (lcells (.slice (some ⟨rb,ro,none⟩) xs'.length rc) tv dp g1.base g1.size) 201::.ob (TornO tv g1.torn)::.ob (DskO dp d3)::X::F) Xi)
        have hS:=SL.into hS (t:=.ob (OwnSl (.slice ua p.length uc) 5 1 p.length (p.map u8c))::.ob (zh BEntO x0.es)::.ob (OwnSo (.slice a' (x0.es.length+1) c') 54 1 (x0.es.length+1) (vals x0.es++[.slice ua p.length uc]))::.ob (zh XSegO (xs'.eraseIdx (xs'.length-1)))::RowX (.slice (some ⟨rb,ro,none⟩) xs'.length rc) (xs'.set (xs'.length-1) y)::.pt lp (lcells (.slice (some ⟨rb,ro,none⟩) xs'.length rc) tv dp g1.base g1.size) 201::.ob (TornO tv g1.torn)::.ob (DskO dp d3)::X::F) Xi
        have hS:SL W (.ob (BEntO (.slice ua p.length uc,p))::.ob (zh BEntO x0.es)::.ob (OwnSo (.slice a' (x0.es.length+1) c') 54 1 (x0.es.length+1) (vals x0.es++[.slice ua p.length uc]))::.ob (zh XSegO (xs'.eraseIdx (xs'.length-1)))::RowX (.slice (some ⟨rb,ro,none⟩) xs'.length rc) (xs'.set (xs'.length-1) y)::.pt lp (lcells (.slice (some ⟨rb,ro,none⟩) xs'.length rc) tv dp g1.base g1.size) 201::.ob (TornO tv g1.torn)::.ob (DskO dp d3)::X::F) w:=hS
        have hS:=zh.snoc (hS.perm (.swap _ _ _))
        have e7:x0.es.length+1=y.es.length:=by simp[y]
        have e8:vals x0.es++[.slice ua p.length uc]=vals y.es:=by simp[y,vals]
        rw[e7,e8]at hS
        have hS:=(XSegO.iff (x:=y)).2 (SL.into hS (t:=.ob (OwnSo (.slice a' y.es.length c') 54 1 y.es.length (vals y.es))::.ob (zh BEntO (x0.es++[(.slice ua p.length uc,p)]))::.ob (zh XSegO (xs'.eraseIdx (xs'.length-1)))::RowX (.slice (some ⟨rb,ro,none⟩) xs'.length rc) (xs'.set (xs'.length-1) y)::.pt lp (lcells (.slice (some ⟨rb,ro,none⟩) xs'.length rc) tv dp g1.base g1.size) 201::.ob (TornO tv g1.torn)::.ob (DskO dp d3)::X::F) Xi)
        have hS:=zh.put hS hj
        repeat first|refine Gp ?_|refine Gw λw hS=>?_|refine Gb λb w hS=>?_
        (apply zd (yj lp (lcells (.slice (some ⟨rb,ro,none⟩) xs'.length rc) tv dp g1.base g1.size) 201 (.slice (some ⟨rb,ro,none⟩) xs'.length rc) (xs'.set (xs'.length-1) y) rfl hpk (by omega) (by rw[List.length_set];omega)) hS;exact Xp;clear hS)
        (rintro v post ⟨rfl,rfl⟩ w hS;(try simp only[app]at hS);(repeat (first|refine Gp ?_|refine Gw λw hS=>?_|refine Gb λb w hS=>?_)))
        rw[hx2]
        have hS:=(LogO.iff (g:={segs:=(xs'.take (xs'.length-1)).map XSeg.pl++[addE x0.pl x.b.length p],base:=g1.base,size:=g1.size,torn:=g1.torn})).2 ⟨_,tv,xs'.set (xs'.length-1) y,hx2,SL.into hS (t:=.pt lp (lcells (.slice (some ⟨rb,ro,none⟩) xs'.length rc) tv dp g1.base g1.size) 201::RowX (.slice (some ⟨rb,ro,none⟩) xs'.length rc) (xs'.set (xs'.length-1) y)::.ob (zh XSegO (xs'.set (xs'.length-1) y))::.ob (TornO tv g1.torn)::.ob (DskO dp d3)::X::F) Xi⟩
        exact⟨_,⟨rfl,rfl⟩,SL.into hS Xi⟩
      ·have hG:=hss ha hs
       subst hG
       repeat first|refine Gp ?_|refine Gw λw hS=>?_|refine Gb λb w hS=>?_
       refine ze (λ_=>?_) (λh=>absurd hs h)
       (exact⟨_,⟨rfl,rfl⟩,SL.into hS Xi⟩)
    ·have hG:=haa ha
     subst hG
     refine⟨λvs w=>vs=[.int .i64 (d1.append x.file x.b).2]∧SL W (.ob (LogO lp dp g1)::.ob (DskO dp (d1.append x.file x.b).1)::X::F) w,?_,?_⟩
     ·repeat first|refine Gp ?_|refine Gw λw hS=>?_|refine Gb λb w hS=>?_
      refine ze (λh=>absurd h ha) (λ_=>⟨rfl,SL.into hS Xi⟩)
     ·clear hS
      rintro v7 w ⟨hvs,hS⟩
      cases hvs
      repeat first|refine Gp ?_|refine Gw λw hS=>?_|refine Gb λb w hS=>?_
      refine ze (λ_=>?_) (λh=>absurd ha h)
      (exact⟨_,⟨rfl,rfl⟩,SL.into hS Xi⟩)
  ·rw[appendG_m hpl hm]
   refine⟨λvs w=>vs=[.int .i64 (mendG g d).2]∧SL W (.ob (LogO lp dp (mendG g d).1.1)::.ob (DskO dp (mendG g d).1.2)::X::F) w,?_,?_⟩
   ·repeat first|refine Gp ?_|refine Gw λw hS=>?_|refine Gb λb w hS=>?_
    refine ze (λh=>absurd h hm) (λ_=>⟨rfl,SL.into hS Xi⟩)
   ·clear hS
    rintro v7 w ⟨hvs,hS⟩
    cases hvs
    refine⟨λvs w=>vs=[.int .i64 (mendG g d).2]∧SL W (.ob (LogO lp dp (mendG g d).1.1)::.ob (DskO dp (mendG g d).1.2)::X::F) w,?_,?_⟩
    ·repeat first|refine Gp ?_|refine Gw λw hS=>?_|refine Gb λb w hS=>?_
     refine ze (λh=>absurd h hm) (λ_=>⟨rfl,hS⟩)
    ·clear hS
     rintro v7 w ⟨hvs,hS⟩
     cases hvs
     repeat first|refine Gp ?_|refine Gw λw hS=>?_|refine Gb λb w hS=>?_
     refine ze (λ_=>?_) (λh=>absurd hm h)
     (exact⟨_,⟨rfl,rfl⟩,SL.into hS Xi⟩)
theorem tearG_er{g:PLog}{d:DS}{p:List UInt8}{k e:Int}(hk:0≤k)(h:planG g d.off p= .error e):tearG g d p k=((g,d),e):=by
 unfold tearG;rw[if_neg (by omega),h]
theorem tearG_m{g:PLog}{d:DS}{p:List UInt8}{k:Int}{x:PWr}(hk:0≤k)(h:planG g d.off p= .ok x)(hm:(mendG g d).2≠0):tearG g d p k=((mendG g d).1,(mendG g d).2):=by
 unfold tearG;rw[if_neg (by omega),h];simp only;rw[if_pos hm]
theorem tearG_a{g:PLog}{d:DS}{p:List UInt8}{k:Int}{x:PWr}(hk:0≤k)(h:planG g d.off p= .ok x)(hm:(mendG g d).2=0)(ha:((mendG g d).1.2.append x.file (x.b.take (k.toNat % x.b.length))).2≠0):
  tearG g d p k=(((mendG g d).1.1,((mendG g d).1.2.append x.file (x.b.take (k.toNat % x.b.length))).1),((mendG g d).1.2.append x.file (x.b.take (k.toNat % x.b.length))).2):=by
 unfold tearG;rw[if_neg (by omega),h];simp only;rw[if_neg (by simp[hm]),if_pos ha]
theorem tearG_k{g:PLog}{d:DS}{p:List UInt8}{k:Int}{x:PWr}(hk:0≤k)(h:planG g d.off p= .ok x)(hm:(mendG g d).2=0)(ha:((mendG g d).1.2.append x.file (x.b.take (k.toNat % x.b.length))).2=0):
  tearG g d p k=(({(mendG g d).1.1 with torn:=some ⟨x.file,if x.fresh=true then 0 else lastSize g.segs,x.fresh⟩},((mendG g d).1.2.append x.file (x.b.take (k.toNat % x.b.length))).1),0):=by
 unfold tearG;rw[if_neg (by omega),h];simp only;rw[if_neg (by simp[hm]),if_neg (by simp[ha]),(mendG_same g d).1]
theorem qC(X:Chunk)(lp dp:Nat)(g:PLog)(d:DS)(v:Value)(p:List UInt8)(k:Int)(hv:Rdb X v p)(hp:p.length≤140737488355328){M N:Nat}(hg:g.Ok M)(hM:M≤1000000000000)(hok:d.Ok N)(hN:N≤140737480000000)(hops:d.ops≤90000):
  SP 105 [.pointer (some ⟨lp,0,none⟩),v,.int .i64 k] [.ob (LogO lp dp g),.ob (DskO dp d),X] (Gives (.int .i64 (tearG g d p k).2) [.ob (LogO lp dp (tearG g d p k).1.1),.ob (DskO dp (tearG g d p k).1.2),X]):=by
 intro W F w hS;apply vc105;unfold Vc105;(try simp only[app]at hS)
 obtain⟨va,vc,rfl,hvc⟩:=hv.sl hS Xh
 repeat first|refine Gp ?_|refine Gw λw hS=>?_|refine Gb λb w hS=>?_
 refine ze (λhk=>?_) (λhk=>?_)
 ·have:tearG g d p k=((g,d),1):=by unfold tearG;rw[if_pos hk]
  rw[this]
  (exact⟨_,⟨rfl,rfl⟩,SL.into hS Xi⟩)
 have hk:0≤k:=by omega
 repeat first|refine Gp ?_|refine Gw λw hS=>?_|refine Gb λb w hS=>?_
 (apply zd (ZC X lp dp g d _ p hv hp hg (by omega) hok (by omega) (by omega)) hS;exact Xp;clear hS)
 rintro r post hQ w hS
 cases hpl:planG g d.off p with
 | error e=>
  rw[hpl]at hQ
  obtain⟨hz,rfl,rfl⟩:=hQ
  rw[tearG_er hk hpl]
  (try simp only[app]at hS)
  repeat first|refine Gp ?_|refine Gw λw hS=>?_|refine Gb λb w hS=>?_
  refine⟨λvs w=>vs=[.int .i64 e]∧SL W (.ob (LogO lp dp g)::.ob (DskO dp d)::X::F) w,?_,?_⟩
  ·repeat first|refine Gp ?_|refine Gw λw hS=>?_|refine Gb λb w hS=>?_
   refine ze (λh=>absurd h hz) (λ_=>⟨rfl,SL.into hS Xi⟩)
  ·clear hS
   rintro v7 w ⟨hvs,hS⟩
   cases hvs
   repeat first|refine Gp ?_|refine Gw λw hS=>?_|refine Gb λb w hS=>?_
   refine ze (λ_=>?_) (λh=>absurd hz h)
   (exact⟨_,⟨rfl,rfl⟩,SL.into hS Xi⟩)
 | ok x=>
  rw[hpl]at hQ
  obtain⟨a,c,rfl,rfl⟩:=hQ
  have hw:=planG_wr hg hpl
  have hmok:=mendG_ok (g:=g) hok
  have hmg:=mendG_gok (d:=d) hg
  have hms:=mendG_same g d
  have hmo:=ops_mend g d
  have hbl:=hw.bl
  have hpp:=hw.pl
  have hpos:=hw.pos
  (try simp only[app]at hS)
  repeat first|refine Gp ?_|refine Gw λw hS=>?_|refine Gb λb w hS=>?_
  obtain⟨wb,rfl⟩:∃k,k=b:=⟨b,rfl⟩
  by_cases hm:(mendG g d).2=0
  ·have hkk:=tearG_k hk hpl hm
   have haa:=tearG_a hk hpl hm
   generalize tearG g d p k=G at *
   generalize mendG g d=m at *
   obtain⟨⟨g1,d1⟩,me⟩:=m
   simp only at *
   subst hm
   obtain⟨kn,rfl⟩:=Int.eq_ofNat_of_zero_le hk
   simp only[Int.toNat_natCast]at haa hkk
   generalize hq:kn % x.b.length=q at *
   have hql:q≤x.b.length:=by
    have:=Nat.mod_lt kn (show 0<x.b.length by omega);omega
   refine⟨λvs w=>vs=[.int .i64 (d1.append x.file (x.b.take q)).2]∧SL W (.pt wb [.int .i64 x.file,.bool x.fresh,.slice a x.b.length c] 284::.ob (OwnSl (.slice a x.b.length c) 5 1 x.b.length (x.b.map u8c))::.ob (LogO lp dp g1)::.ob (DskO dp (d1.append x.file (x.b.take q)).1)::X::F) w,?_,?_⟩
   ·repeat first|refine Gp ?_|refine Gw λw hS=>?_|refine Gb λb w hS=>?_
    refine ze (λ_=>?_) (λh=>absurd rfl h)
    obtain⟨sv,tv,xs,hx,hS⟩:=LogO.iff.1 (SL.into hS (t:=.ob (LogO lp dp g1)::.pt wb [.int .i64 x.file,.bool x.fresh,.slice a x.b.length c] 284::.ob (OwnSl (.slice a x.b.length c) 5 1 x.b.length (x.b.map u8c))::.ob (DskO dp d1)::X::F) Xi)
    repeat first|refine Gp ?_|refine Gw λw hS=>?_|refine Gb λb w hS=>?_
    rw[hq]
    have hrd:Rdb (.ob (OwnSl (.slice a x.b.length c) 5 1 x.b.length (x.b.map u8c))) (.slice a x.b.length c) x.b:=Rdb.own
    refine Zi hS Xh hrd hql ?_
    intro u hu
    (apply zd (appendD_gen (.ob (OwnSl (.slice a x.b.length c) 5 1 x.b.length (x.b.map u8c))) dp d1 N hmok (by omega) x.file u (x.b.take q) (λhS h=>hu.src hS h) (by rw[List.length_take];omega)) hS;exact Xp;clear hS)
    (rintro v post ⟨rfl,rfl⟩ w hS;(try simp only[app]at hS);(repeat (first|refine Gp ?_|refine Gw λw hS=>?_|refine Gb λb w hS=>?_)))
    have hS:=LogO.iff.2 ⟨sv,tv,xs,hx,SL.into hS (t:=.pt lp (lcells sv tv dp g1.base g1.size) 201::RowX sv xs::.ob (zh XSegO xs)::.ob (TornO tv g1.torn)::.pt wb [.int .i64 x.file,.bool x.fresh,.slice a x.b.length c] 284::.ob (OwnSl (.slice a x.b.length c) 5 1 x.b.length (x.b.map u8c))::.ob (DskO dp (d1.append x.file (x.b.take q)).1)::X::F) Xi⟩
    exact SL.into hS Xi
   ·clear hS
    rintro v7 w ⟨hvs,hS⟩
    cases hvs
    by_cases ha:(d1.append x.file (x.b.take q)).2=0
    ·rw[ha]
     have hG:=hkk ha
     subst hG
     repeat first|refine Gp ?_|refine Gw λw hS=>?_|refine Gb λb w hS=>?_
     refine ze (λh=>absurd rfl h) (λ_=>?_)
     obtain⟨sv,tv,xs,hx,hS⟩:=LogO.iff.1 (SL.into hS (t:=.ob (LogO lp dp g1)::.pt wb [.int .i64 x.file,.bool x.fresh,.slice a x.b.length c] 284::.ob (DskO dp (d1.append x.file (x.b.take q)).1)::X::F) Xi)
     repeat first|refine Gp ?_|refine Gw λw hS=>?_|refine Gb λb w hS=>?_
     refine⟨_,rfl,zJ hS ?_⟩
     clear hS;intro tb w hS
     have htv:=TornO_one (SL.into hS (t:=.ob (TornO tv g1.torn)::F) Xi)
     repeat first|refine Gp ?_|refine Gw λw hS=>?_|refine Gb λb w hS=>?_
     cases hf:x.fresh with
     | true=>
      rw[hf]at hS
      refine zr ?_
      simp only[if_true]
      have hS:=(TornO_some (v:=.pointer (some ⟨tb,0,none⟩)) (x:=⟨x.file,0,true⟩)).2 ⟨tb,rfl,SL.into hS (t:=.pt tb [.int .i64 x.file,.int .i64 0,.bool true] 288::.pt lp (lcells sv (.pointer (some ⟨tb,0,none⟩)) dp g1.base g1.size) 201::RowX sv xs::.ob (zh XSegO xs)::.ob (DskO dp (d1.append x.file (x.b.take q)).1)::X::F) Xi⟩
      have hS:=(LogO.iff (g:={segs:=g1.segs,base:=g1.base,size:=g1.size,torn:=some ⟨x.file,0,true⟩})).2 ⟨sv,_,xs,hx,SL.into hS (t:=.pt lp (lcells sv (.pointer (some ⟨tb,0,none⟩)) dp g1.base g1.size) 201::RowX sv xs::.ob (zh XSegO xs)::.ob (TornO (.pointer (some ⟨tb,0,none⟩)) (some ⟨x.file,0,true⟩))::.ob (DskO dp (d1.append x.file (x.b.take q)).1)::X::F) Xi⟩
      exact⟨_,⟨rfl,rfl⟩,SL.into hS Xi⟩
     | false=>
      rw[hf]at hS
      refine zy ?_
      simp only[Bool.false_eq_true,if_false]
      obtain⟨_,hxl,_,_⟩:=hmg.xs hx
      obtain⟨s,hls,hsf⟩:=hw.old hf
      rw[← hms.1,← hx]at hls
      have hle:0<xs.length:=by
       rcases Nat.eq_zero_or_pos xs.length with h0|h0
       ·rw[List.eq_nil_of_length_eq_zero h0]at hls;simp at hls
       ·exact h0
      have hj:xs.length-1<xs.length:=by omega
      have hsx:s=(xs[xs.length-1]'hj).pl:=by
       rw[List.getLast?_map,List.getLast?_eq_getElem?,List.getElem?_eq_getElem hj]at hls
       exact (Option.some.inj hls).symm
      have hlz:lastSize g.segs=((xs[xs.length-1]'hj).size:Nat):=by
       unfold lastSize
       rw[← hms.1,← hx,hls,hsx];rfl
      rw[hlz]
      repeat first|refine Gp ?_|refine Gw λw hS=>?_|refine Gb λb w hS=>?_
      refine zL hS (v:=sv) (t:=290) (sz:=4) (n:=xs.length) (cells:=(xs.map xcells).flatten) Xh ?_
      repeat first|refine Gp ?_|refine Gw λw hS=>?_|refine Gb λb w hS=>?_
      have e:((xs.length:Nat):Int)-1=((xs.length-1:Nat):Int):=by omega
      rw[e]
      refine qy (i:=2) hS Xh hj (u:=.int .i64 ((xs[xs.length-1]'hj).size:Nat)) rfl ?_
      generalize (xs[xs.length-1]'hj).size=z at *
      repeat first|refine Gp ?_|refine Gw λw hS=>?_|refine Gb λb w hS=>?_
      have hS:=(TornO_some (v:=.pointer (some ⟨tb,0,none⟩)) (x:=⟨x.file,(z:Int),false⟩)).2 ⟨tb,rfl,SL.into hS (t:=.pt tb [.int .i64 x.file,.int .i64 (z:Int),.bool false] 288::.pt lp (lcells sv (.pointer (some ⟨tb,0,none⟩)) dp g1.base g1.size) 201::RowX sv xs::.ob (zh XSegO xs)::.ob (DskO dp (d1.append x.file (x.b.take q)).1)::X::F) Xi⟩
      have hS:=(LogO.iff (g:={segs:=g1.segs,base:=g1.base,size:=g1.size,torn:=some ⟨x.file,(z:Int),false⟩})).2 ⟨sv,_,xs,hx,SL.into hS (t:=.pt lp (lcells sv (.pointer (some ⟨tb,0,none⟩)) dp g1.base g1.size) 201::RowX sv xs::.ob (zh XSegO xs)::.ob (TornO (.pointer (some ⟨tb,0,none⟩)) (some ⟨x.file,(z:Int),false⟩))::.ob (DskO dp (d1.append x.file (x.b.take q)).1)::X::F) Xi⟩
      exact⟨_,⟨rfl,rfl⟩,SL.into hS Xi⟩
    ·have hG:=haa ha
     subst hG
     repeat first|refine Gp ?_|refine Gw λw hS=>?_|refine Gb λb w hS=>?_
     refine ze (λ_=>?_) (λh=>absurd ha h)
     (exact⟨_,⟨rfl,rfl⟩,SL.into hS Xi⟩)
  ·rw[tearG_m hk hpl hm]
   refine⟨λvs w=>vs=[.int .i64 (mendG g d).2]∧SL W (.ob (LogO lp dp (mendG g d).1.1)::.ob (DskO dp (mendG g d).1.2)::X::F) w,?_,?_⟩
   ·repeat first|refine Gp ?_|refine Gw λw hS=>?_|refine Gb λb w hS=>?_
    refine ze (λh=>absurd h hm) (λ_=>⟨rfl,SL.into hS Xi⟩)
   ·clear hS
    rintro v7 w ⟨hvs,hS⟩
    cases hvs
    repeat first|refine Gp ?_|refine Gw λw hS=>?_|refine Gb λb w hS=>?_
    refine ze (λ_=>?_) (λh=>absurd hm h)
    (exact⟨_,⟨rfl,rfl⟩,SL.into hS Xi⟩)
theorem qe(lp dp:Nat)(g:PLog)(d:DS){M N:Nat}(hb0:0≤g.base)(hb1:g.base≤12288)(hok:d.Ok N)(hR:d.R.length≤100000):
  SP 168 [.pointer (some ⟨lp,0,none⟩)] [.ob (LogO lp dp g),.ob (DskO dp d)] (λv post=>post=[.ob (OwnSl v 3 1 (idsG g.base d.R).length ((idsG g.base d.R).map (Value.int .i64))),.ob (LogO lp dp g),.ob (DskO dp d)]):=by
 intro W F w hS;apply vc168;unfold Vc168;(try simp only[app]at hS)
 obtain⟨sv,tv,xs,hx,hS⟩:=LogO.iff.1 hS
 repeat first|refine Gp ?_|refine Gw λw hS=>?_|refine Gb λb w hS=>?_
 (apply zd (Y9 dp d N hok hR) hS;exact Xp;clear hS)
 rintro fl post rfl w hS
 (try simp only[app]at hS)
 refine zE hS (t:=3) (sz:=1) (n:=d.R.length) (cells:=d.R.map λx=>.int .i64 x.id) Xh ?_
 have hS:SL W (.ob (OwnSl (.slice none 0 0) 3 1 (idsG g.base (d.R.take 0)).length ((idsG g.base (d.R.take 0)).map (Value.int .i64)))::_) w:=OwnSl.nil hS
 refine⟨λvs w=>∃(u:Value) (i:Nat),i≤d.R.length∧vs=[u,.int .i64 i]∧SL W (.ob (OwnSl u 3 1 (idsG g.base (d.R.take i)).length ((idsG g.base (d.R.take i)).map (Value.int .i64)))::.pt lp (lcells sv tv dp g.base g.size) 201::RowX sv xs::.ob (zh XSegO xs)::.ob (TornO tv g.torn)::.ob (DskO dp d)::.ob (OwnSl fl 3 1 d.R.length (d.R.map λx=>.int .i64 x.id))::F) w,
  λvs _=>match vs with|[_,.int _ i]=>(d.R.length-i).toNat|_=>0,⟨.slice none 0 0,0,by omega,rfl,SL.into hS Xi⟩,?_⟩
 clear hS
 rintro v3 v12 w ⟨u,i,hi,hvs,hS⟩
 cases hvs
 repeat first|refine Gp ?_|refine Gw λw hS=>?_|refine Gb λb w hS=>?_
 refine ze (λh=>?_) (λh=>?_)
 ·have hil:i<d.R.length:=by omega
  have hu:(d.R.map λx=>Value.int .i64 x.id)[i]?=some (.int .i64 d.R[i].id):=by simp[hil]
  have hidl:(idsG g.base (d.R.take i)).length≤100000:=by
   unfold idsG
   have:=List.length_filter_le (λf=>decide (g.base≤f∧f<g.base+4096)) ((d.R.take i).map PF.id)
   rw[List.length_map,List.length_take]at this
   omega
  have hstep:idsG g.base (d.R.take (i+1))=idsG g.base (d.R.take i)++if g.base≤d.R[i].id∧d.R[i].id<g.base+4096 then [d.R[i].id] else []:=by
   unfold idsG
   rw[List.take_add_one,List.getElem?_eq_getElem hil,List.map_append,List.filter_append]
   congr 1
   simp only[Option.toList_some,List.map_cons,List.map_nil,List.filter_cons,List.filter_nil,decide_eq_true_eq]
  have hlast:∀{w:World} {u:Value},(idsG g.base (d.R.take (i+1))=idsG g.base (d.R.take i))→SL W (.ob (OwnSl u 3 1 (idsG g.base (d.R.take i)).length ((idsG g.base (d.R.take i)).map (Value.int .i64)))::.pt lp (lcells sv tv dp g.base g.size) 201::RowX sv xs::.ob (zh XSegO xs)::.ob (TornO tv g.torn)::.ob (DskO dp d)::.ob (OwnSl fl 3 1 d.R.length (d.R.map λx=>.int .i64 x.id))::F) w →
    (∃(u':Value) (i':Nat),i'≤d.R.length∧[u,Value.int .i64 ((i+1:Nat):Int)]=[u',.int .i64 i']∧SL W (.ob (OwnSl u' 3 1 (idsG g.base (d.R.take i')).length ((idsG g.base (d.R.take i')).map (Value.int .i64)))::.pt lp (lcells sv tv dp g.base g.size) 201::RowX sv xs::.ob (zh XSegO xs)::.ob (TornO tv g.torn)::.ob (DskO dp d)::.ob (OwnSl fl 3 1 d.R.length (d.R.map λx=>.int .i64 x.id))::F) w):=λe h=>⟨_,i+1,by omega,rfl,by rw[e];exact h⟩
  refine yI hS (t:=3) Xh hil hu ?_
  repeat first|refine Gp ?_|refine Gw λw hS=>?_|refine Gb λb w hS=>?_
  refine ze (λh1=>?_) (λh1=>?_)
  ·repeat first|refine Gp ?_|refine Gw λw hS=>?_|refine Gb λb w hS=>?_
   refine ze (λh2=>?_) (λh2=>?_)
   ·rw[if_pos ⟨h1,h2⟩]at hstep
    repeat first|refine Gp ?_|refine Gw λw hS=>?_|refine Gb λb w hS=>?_
    refine zw (m:=1) (cs:=[.int .i64 d.R[i].id]) hS Xr (src_pt0 hS .hd rfl) rfl rfl (by simp[Value.oneCell']) (by omega) (by omega) ?_
    clear hS;intro v' w hS
    have e1:(idsG g.base (d.R.take i)).length+1=(idsG g.base (d.R.take (i+1))).length:=by rw[hstep,List.length_append];rfl
    have e2:(idsG g.base (d.R.take i)).map (Value.int .i64)++[Value.int .i64 d.R[i].id]=(idsG g.base (d.R.take (i+1))).map (Value.int .i64):=by rw[hstep,List.map_append];rfl
    rw[e1,e2]at hS
    repeat first|refine Gp ?_|refine Gw λw hS=>?_|refine Gb λb w hS=>?_
    exact⟨⟨v',i+1,by omega,rfl,SL.into hS Xi⟩,by dsimp only;omega⟩
   ·rw[if_neg (by omega),List.append_nil]at hstep
    repeat first|refine Gp ?_|refine Gw λw hS=>?_|refine Gb λb w hS=>?_
    exact⟨hlast hstep hS,by dsimp only;omega⟩
  ·rw[if_neg (by omega),List.append_nil]at hstep
   repeat first|refine Gp ?_|refine Gw λw hS=>?_|refine Gb λb w hS=>?_
   exact⟨hlast hstep hS,by dsimp only;omega⟩
 ·have hie:i=d.R.length:=by omega
  subst hie
  rw[List.take_length]at hS
  have hS:=(LogO.iff (g:=g)).2 ⟨sv,tv,xs,hx,SL.into hS (t:=.pt lp (lcells sv tv dp g.base g.size) 201::RowX sv xs::.ob (zh XSegO xs)::.ob (TornO tv g.torn)::.ob (OwnSl v3 3 1 (idsG g.base d.R).length ((idsG g.base d.R).map (Value.int .i64)))::.ob (DskO dp d)::F) Xi⟩
  exact⟨_,rfl,SL.into hS Xi⟩
theorem scanA_ok2(f:Nat):∀b:List UInt8,b.length<f→(∀p∈(scanA b).1,p.length≤1048576)∧(scanA b).1.length≤(scanA b).2:=by
 induction f with
 | zero=>intro b h;omega
 | succ f ih=>
  intro b hb
  cases h:takeR b with
  | error e=>rw[scanA_er h];exact⟨by simp,by simp⟩
  | ok x=>
   obtain⟨p,n⟩:=x
   have h2:=takeR_len h
   obtain⟨i1,i2⟩:=ih (b.drop n) (by rw[List.length_drop];omega)
   rw[scanA_ok h]
   refine⟨λq hq=>?_,?_⟩
   ·rcases List.mem_cons.1 hq with rfl|hq
    ·exact h2.2.2.1
    ·exact i1 q hq
   ·show (p::(scanA (b.drop n)).1).length≤n+(scanA (b.drop n)).2
    rw[List.length_cons];omega
theorem readS_ok{q:List UInt8}{f:Int}{l:List (List UInt8)}{n:Nat}(h:readS q=some (f,l,n)):1≤f∧f≤1099511627776∧n≤q.length∧l.length≤q.length∧∀p∈l,p.length≤1048576:=by
 obtain⟨h1,h2⟩:=scanA_ok2 (q.length+1) q (by omega)
 have h3:=scanA_le (q.length+1) q (by omega)
 unfold readS at h
 split at h
 ·cases h
 ·rename_i hd l' hs
  rw[hs]at h1 h2
  cases hh:hdOf hd with
  | none=>rw[hh]at h;cases h
  | some k=>
   rw[hh]at h
   cases h
   have hk:1≤f∧f≤1099511627776:=by
    unfold hdOf at hh
    split at hh
    ·unfold hdF at hh
     split at hh
     ·split at hh
      ·rename_i hc
       cases hh;exact⟨hc.2.1,hc.2.2⟩
      ·cases hh
     ·cases hh
    ·cases hh
   refine⟨hk.1,hk.2,h3,?_,λp hp=>h1 p (.tail _ hp)⟩
   rw[List.length_cons]at h2;omega
theorem loadG_ok{L:List PSeg}{R:List PF}{f:Int}{last:Bool}{M N:Nat}(hR:∀x∈R,x.b.length≤N)(hN:N≤M)(f0:0≤f)(f1:f≤100000)(hL:∀s∈L,SegOk s M):(∀s∈(loadG L R f last).2,SegOk s M)∧(loadG L R f last).2.length≤L.length+1:=by
 have hq:(((getK PF.id R f).map PF.b).getD []).length≤N:=by
  cases hg:getK PF.id R f with
  | none=>simp
  | some x=>exact hR x (getK_mem hg).1
 unfold loadG
 generalize ((getK PF.id R f).map PF.b).getD []=q at *
 simp only
 cases hr:readS q with
 | none=>exact⟨hL,by simp⟩
 | some y=>
  obtain⟨k,l,n⟩:=y
  have:=readS_ok hr
  simp only
  split
  ·exact⟨hL,by simp⟩
  ·refine⟨λs hs=>?_,by simp⟩
   rcases List.mem_append.1 hs with hs|hs
   ·exact hL s hs
   ·rw[List.mem_singleton.1 hs]
    exact⟨f0,f1,this.1,this.2.1,by show n≤M;omega,by show l.length≤M;omega,this.2.2.2.2⟩
theorem qJ(lp dp:Nat)(g:PLog)(d:DS)(f:Int)(last:Bool){M N:Nat}(hg:g.Ok M)(hM:M≤1000000000000)(hok:d.Ok N)(hN:N≤10000000000):
  SP 169 [.pointer (some ⟨lp,0,none⟩),.int .i64 f,.bool last] [.ob (LogO lp dp g),.ob (DskO dp d)] (Gives (.tuple #[.bool (loadG g.segs d.R f last).1.1,.bool (loadG g.segs d.R f last).1.2]) [.ob (LogO lp dp {g with segs:=(loadG g.segs d.R f last).2}),.ob (DskO dp d)]):=by
 intro W F w hS;apply vc169;unfold Vc169;(try simp only[app]at hS)
 obtain⟨sv,tv,xs,hx,hS⟩:=LogO.iff.1 hS
 obtain⟨hxo,hxl,hh0,hh1⟩:=hg.xs hx
 have hhead:headG (xs.map XSeg.pl)=headG g.segs:=by rw[hx]
 have hgl:g.segs.length=xs.length:=by rw[← hx,List.length_map]
 repeat first|refine Gp ?_|refine Gw λw hS=>?_|refine Gb λb w hS=>?_
 (apply zd (qV dp d N hok (by omega) f) hS;exact Xp;clear hS)
 rintro r post hQ w hS
 have hq:(((getK PF.id d.R f).map PF.b).getD []).length≤N:=by
  cases hg:getK PF.id d.R f with
  | none=>simp
  | some x=>exact hok.len x (getK_mem hg).1
 have hload:loadG g.segs d.R f last=match readS (((getK PF.id d.R f).map PF.b).getD []) with
  | none=>((false,last),g.segs)
  | some (first,l,n)=>if (last=false∧(n≠(((getK PF.id d.R f).map PF.b).getD []).length∨l.length=0))∨(0<g.segs.length∧first≠headG g.segs+1)∨1099511627776<first+l.length-1 then ((true,false),g.segs)
   else ((true,true),g.segs++[⟨f,first,n,l⟩]):=rfl
 have hrd:∃(X:Chunk) (a:Option Addr) (c:Nat) (bb:Bool),r= .tuple #[.slice a (((getK PF.id d.R f).map PF.b).getD []).length c,.bool bb]∧Rdb X (.slice a (((getK PF.id d.R f).map PF.b).getD []).length c) (((getK PF.id d.R f).map PF.b).getD [])∧SL W (X::.ob (DskO dp d)::.pt lp (lcells sv tv dp g.base g.size) 201::RowX sv xs::.ob (zh XSegO xs)::.ob (TornO tv g.torn)::F) w:=by
  unfold ReadQ at hQ
  cases hg:getK PF.id d.R f with
  | none=>
   rw[hg]at hQ
   obtain⟨rfl,rfl⟩:=hQ
   (try simp only[app]at hS)
   exact⟨.mem Heap.emp,none,0,false,rfl,Rdb.nil,SL.into hS.memNil Xi⟩
  | some x=>
   rw[hg]at hQ
   obtain⟨u,rfl,rfl⟩:=hQ
   (try simp only[app]at hS)
   obtain⟨a,c,rfl,_⟩:=OwnSl.at hS (v:=u) (t:=5) (sz:=1) (n:=x.b.length) (cells:=x.b.map u8c) Xh
   exact⟨.ob (OwnSl (.slice a x.b.length c) 5 1 x.b.length (x.b.map u8c)),a,c,true,rfl,Rdb.own,SL.into hS Xi⟩
 clear hS hQ
 obtain⟨X,a,c,bb,rfl,hX,hS⟩:=hrd
 rw[hload]
 clear hload
 generalize ((getK PF.id d.R f).map PF.b).getD []=q at *
 repeat first|refine Gp ?_|refine Gw λw hS=>?_|refine Gb λb w hS=>?_
 (apply zd (Yx X _ q hX (by omega)) hS;exact Xp;clear hS)
 rintro r post hQ w hS
 unfold ReadQ2 at hQ
 cases hr:readS q with
 | none=>
  rw[hr]at hQ
  obtain⟨rfl,rfl⟩:=hQ
  (try simp only[app]at hS)
  repeat first|refine Gp ?_|refine Gw λw hS=>?_|refine Gb λb w hS=>?_
  refine ze (λ_=>?_) (λh=>absurd (by decide) h)
  have hS:=(LogO.iff (g:=g)).2 ⟨sv,tv,xs,hx,SL.into hS (t:=.pt lp (lcells sv tv dp g.base g.size) 201::RowX sv xs::.ob (zh XSegO xs)::.ob (TornO tv g.torn)::.ob (DskO dp d)::F) Xi⟩
  exact⟨_,⟨rfl,rfl⟩,SL.into hS Xi⟩
 | some y=>
  obtain⟨first,l,n⟩:=y
  have hrk:=readS_ok hr
  rw[hr]at hQ
  obtain⟨u,es,he,rfl,rfl⟩:=hQ
  (try simp only[app]at hS)
  have hel:l.length=es.length:=by rw[← he,byts_len]
  obtain⟨ua,uc,rfl,_⟩:=OwnSo.at hS (v:=u) .hd
  obtain⟨r1,r2,r3,r4,r5⟩:=hrk
  simp only[hel,hgl]
  have hsOne:SegOk (XSeg.pl ⟨f,first,n,es,ua,uc⟩) M∨True:=.inr trivial
  repeat first|refine Gp ?_|refine Gw λw hS=>?_|refine Gb λb w hS=>?_
  refine ze (λh=>absurd rfl h) (λ_=>?_)
  repeat first|refine Gp ?_|refine Gw λw hS=>?_|refine Gb λb w hS=>?_
  obtain⟨sb,rfl⟩:∃k,k=b:=⟨b,rfl⟩
  obtain⟨I,hI⟩:∃I:List Value→World→Prop,I=λvs w=>∃bad:Bool,vs=[.bool bad]∧(bad=true↔((last=false∧(n≠q.length∨es.length=0))∨(0<xs.length∧first≠headG g.segs+1)∨1099511627776<first+es.length-1)) ∧
   SL W (.pt sb [.int .i64 f,.int .i64 first,.int .i64 n,.slice ua es.length uc] 290::.ob (OwnSo (.slice ua es.length uc) 54 1 es.length (vals es))::.ob (zh BEntO es)::.ob (DskO dp d)::.pt lp (lcells sv tv dp g.base g.size) 201::RowX sv xs::.ob (zh XSegO xs)::.ob (TornO tv g.torn)::F) w:=⟨_,rfl⟩
  refine⟨I,?_,?_⟩
  ·have hend:∀(w:World) (K:Value→World→Prop),¬(last=false∧(n≠q.length∨es.length=0))→SL W (.pt sb [.int .i64 f,.int .i64 first,.int .i64 n,.slice ua es.length uc] 290::.ob (OwnSo (.slice ua es.length uc) 54 1 es.length (vals es))::.ob (zh BEntO es)::.ob (DskO dp d)::.pt lp (lcells sv tv dp g.base g.size) 201::RowX sv xs::.ob (zh XSegO xs)::.ob (TornO tv g.torn)::F) w →
     (∀(bad:Bool) w,(bad=true↔((last=false∧(n≠q.length∨es.length=0))∨(0<xs.length∧first≠headG g.segs+1)∨1099511627776<first+es.length-1))→SL W (.pt sb [.int .i64 f,.int .i64 first,.int .i64 n,.slice ua es.length uc] 290::.ob (OwnSo (.slice ua es.length uc) 54 1 es.length (vals es))::.ob (zh BEntO es)::.ob (DskO dp d)::.pt lp (lcells sv tv dp g.base g.size) 201::RowX sv xs::.ob (zh XSegO xs)::.ob (TornO tv g.torn)::F) w→K (.bool bad) w) →
     (zf (.pointer (some ⟨lp,0,none⟩)) λv54=>za 0 v54 λv55=>za 0 v55 λv56=>HLd v56 w λv57=>zg v57 λv58=>zc .gtr v58 (.int .i64 0) λv59=>
      HIf v59
      (zf (.pointer (some ⟨lp,0,none⟩)) λv63=>za 0 v63 λv64=>HCl 110 [v64] w λv65 w_5=>zc .add v65 (.int .i64 1) λv66=>zc .neq (.int .i64 first) v66 λv67=>
       HIf v67 (K (.bool true) w_5)
       (zi 4 (.pointer (some ⟨sb,0,none⟩)) w_5 λv71=>HCl 189 [v71] w_5 λv72 w_6=>zc .sub v72 (.int .i64 1) λv73=>zc .gtr v73 (.int .i64 1099511627776) λv74=>K v74 w_6))
      (zi 4 (.pointer (some ⟨sb,0,none⟩)) w λv71_1=>HCl 189 [v71_1] w λv72_1 w_7=>zc .sub v72_1 (.int .i64 1) λv73_1=>zc .gtr v73_1 (.int .i64 1099511627776) λv74_1=>K v74_1 w_7)):=by
    intro w K hn hS hK
    clear bb
    repeat first|refine Gp ?_|refine Gw λw hS=>?_|refine Gb λb w hS=>?_
    refine zL hS (v:=sv) (t:=290) (sz:=4) (n:=xs.length) (cells:=(xs.map xcells).flatten) Xh ?_
    repeat first|refine Gp ?_|refine Gw λw hS=>?_|refine Gb λb w hS=>?_
    refine ze (λh1=>?_) (λh1=>?_)
    ·repeat first|refine Gp ?_|refine Gw λw hS=>?_|refine Gb λb w hS=>?_
     (apply zd (yj lp (lcells sv tv dp g.base g.size) 201 sv xs rfl hxo (by omega) (by omega)) hS;exact Xp;clear hS)
     (rintro v post ⟨rfl,rfl⟩ w hS;(try simp only[app]at hS);(repeat (first|refine Gp ?_|refine Gw λw hS=>?_|refine Gb λb w hS=>?_)))
     rw[hhead]
     refine ze (λh2=>?_) (λh2=>?_)
     ·refine hK true _ ⟨λ_=>.inr (.inl ⟨by omega,by omega⟩),λ_=>rfl⟩ (SL.into hS Xi)
     ·repeat first|refine Gp ?_|refine Gw λw hS=>?_|refine Gb λb w hS=>?_
      (apply zd (yR f first n ua es.length uc (by omega) (by omega)) hS;exact Xp;clear hS)
      (rintro v post ⟨rfl,rfl⟩ w hS;(try simp only[app]at hS);(repeat (first|refine Gp ?_|refine Gw λw hS=>?_|refine Gb λb w hS=>?_)))
      refine hK _ _ ⟨λh=>.inr (.inr (by simpa using h)),λh=>?_⟩ (SL.into hS Xi)
      rcases h with h|h|h
      ·exact absurd h hn
      ·omega
      ·simpa using h
    ·repeat first|refine Gp ?_|refine Gw λw hS=>?_|refine Gb λb w hS=>?_
     (apply zd (yR f first n ua es.length uc (by omega) (by omega)) hS;exact Xp;clear hS)
     (rintro v post ⟨rfl,rfl⟩ w hS;(try simp only[app]at hS);(repeat (first|refine Gp ?_|refine Gw λw hS=>?_|refine Gb λb w hS=>?_)))
     refine hK _ _ ⟨λh=>.inr (.inr (by simpa using h)),λh=>?_⟩ (SL.into hS Xi)
     rcases h with h|h|h
     ·exact absurd h hn
     ·omega
     ·simpa using h
   cases last with
   | false=>
    refine yA ?_
    refine zy ?_
    repeat first|refine Gp ?_|refine Gw λw hS=>?_|refine Gb λb w hS=>?_
    refine ze (λh1=>?_) (λh1=>?_)
    ·rw[hI];exact⟨true,rfl,⟨λ_=>.inl ⟨rfl,.inl (by omega)⟩,λ_=>rfl⟩,SL.into hS Xi⟩
    ·repeat first|refine Gp ?_|refine Gw λw hS=>?_|refine Gb λb w hS=>?_
     refine ze (λh2=>?_) (λh2=>?_)
     ·rw[hI];exact⟨true,rfl,⟨λ_=>.inl ⟨rfl,.inr (by omega)⟩,λ_=>rfl⟩,SL.into hS Xi⟩
     ·exact hend w (λv w=>I [v] w) (by omega) (SL.into hS Xi) (λbad w hb h=>by rw[hI];exact⟨bad,rfl,hb,h⟩)
   | true=>
    refine yA ?_
    refine zr ?_
    exact hend w (λv w=>I [v] w) (by simp) (SL.into hS Xi) (λbad w hb h=>by rw[hI];exact⟨bad,rfl,hb,h⟩)
  ·clear hS
   rw[hI]
   rintro v75 w ⟨bad,hvs,hbad,hS⟩
   cases hvs
   cases bad with
   | true=>
    refine zy ?_
    rw[if_pos (hbad.1 rfl)]
    have hS:=(LogO.iff (g:=g)).2 ⟨sv,tv,xs,hx,SL.into hS (t:=.pt lp (lcells sv tv dp g.base g.size) 201::RowX sv xs::.ob (zh XSegO xs)::.ob (TornO tv g.torn)::.ob (DskO dp d)::F) Xi⟩
    exact⟨_,⟨rfl,rfl⟩,SL.into hS Xi⟩
   | false=>
    refine zr ?_
    rw[if_neg (λh=>by have:=hbad.2 h;cases this)]
    repeat first|refine Gp ?_|refine Gw λw hS=>?_|refine Gb λb w hS=>?_
    refine yM (t:=290) (sz:=4) (n:=xs.length) (cells:=(xs.map xcells).flatten) (m:=1) (cs:=[.int .i64 f,.int .i64 first,.int .i64 n,.slice ua es.length uc]) hS Xr (src_pt0 hS .hd rfl) rfl rfl (by simp[Value.oneCell']) (by omega) (by omega) ?_
    clear hS;intro sv' w hS
    have hone:=OwnSo.one hS (v:=sv') .hd
    repeat first|refine Gp ?_|refine Gw λw hS=>?_|refine Gb λb w hS=>?_
    have hS:=(XSegO.iff (x:=⟨f,first,n,es,ua,uc⟩)).2 (SL.into hS (t:=.ob (OwnSo (.slice ua es.length uc) 54 1 es.length (vals es))::.ob (zh BEntO es)::.ob (zh XSegO xs)::.ob (DskO dp d)::.pt lp (lcells sv' tv dp g.base g.size) 201::.ob (OwnSo sv' 290 4 (xs.length+1) ((xs.map xcells).flatten++[.int .i64 f,.int .i64 first,.int .i64 n,.slice ua es.length uc]))::.ob (TornO tv g.torn)::F) Xi)
    have hS:=zh.snoc (hS.into (t:=.ob (zh XSegO xs)::.ob (XSegO ⟨f,first,n,es,ua,uc⟩)::.ob (DskO dp d)::.pt lp (lcells sv' tv dp g.base g.size) 201::.ob (OwnSo sv' 290 4 (xs.length+1) ((xs.map xcells).flatten++[.int .i64 f,.int .i64 first,.int .i64 n,.slice ua es.length uc]))::.ob (TornO tv g.torn)::F) Xi)
    have e1:xs.length+1=(xs++[(⟨f,first,n,es,ua,uc⟩:XSeg)]).length:=by simp
    have e2:(xs.map xcells).flatten++[.int .i64 f,.int .i64 first,.int .i64 n,.slice ua es.length uc]=((xs++[(⟨f,first,n,es,ua,uc⟩:XSeg)]).map xcells).flatten:=by simp[xcells,XSeg.lv]
    rw[e1,e2]at hS
    have hx2:(xs++[(⟨f,first,n,es,ua,uc⟩:XSeg)]).map XSeg.pl=g.segs++[⟨f,first,n,l⟩]:=by
     rw[List.map_append,hx];simp[XSeg.pl,he]
    have hS:=(LogO.iff (g:={g with segs:=g.segs++[⟨f,first,n,l⟩]})).2 ⟨sv',tv,xs++[⟨f,first,n,es,ua,uc⟩],hx2,SL.into hS (t:=.pt lp (lcells sv' tv dp g.base g.size) 201::RowX sv' (xs++[⟨f,first,n,es,ua,uc⟩])::.ob (zh XSegO (xs++[⟨f,first,n,es,ua,uc⟩]))::.ob (TornO tv g.torn)::.ob (DskO dp d)::F) Xi⟩
    exact⟨_,⟨rfl,rfl⟩,SL.into hS Xi⟩
end Go.Proofs.YtnmhmnnadkclbaaGreat
