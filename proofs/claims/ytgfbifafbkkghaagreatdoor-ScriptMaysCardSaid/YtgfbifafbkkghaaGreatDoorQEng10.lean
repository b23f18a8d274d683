/- Part. -/
import Derived.Test.YtgfbifafbkkghaaGreatDoorQEngG
namespace Go.Proofs.YtgfbifafbkkghaaGreatDoor
set_option linter.all false
open Go.RowKit
def wwx:=@Nat.sub_zero
def zl(w:Ζ)(K:Ζ->Prop):Prop:=K w.drew
def jH(P:Program)(T:List Bool)(n:Nat)(JL JC:Marks):Code->(Ex->Env->Ζ->Prop)->Env->Ζ->Prop
 | .skip,Q,E,w=>Q .normal E w
 | .region id ops draw,Q,E,w=>match draw with
  | false=>wa P T n ops.toList (λE' w'=>Q .normal E' w') ops.toList E w
  | true=>zl w λw1=>B4 P T n ops.toList (λE' w'=>Q .normal E' w') E w1
 | .seq a b,Q,E,w=>match JC.find (oK b) with
  | none=>jH P T n JL JC a (λe E' w'=>match e with
    | .normal=>jH P T n JL JC b Q E' w'
    | .exit i=>Q (.exit i) E' w'
    | .ret=>Q .ret E' w') E w
  | some (S,L)=>match uQ (wr a) L with
   | true=>∃I:Ξ->Ζ->Prop,jH P T n JL JC a (λe E' w'=>match e with
     | .normal=>EE (jQ E' S) λvs=>I vs w'
     | .exit i=>Q (.exit i) E' w'
     | .ret=>Q .ret E' w') E w/\wW (vS S) λvs=>∀w',I vs w'->jH P T n JL JC b Q (w7 (tA E [] L) S vs) w'
   | false=>False
 | .cond c x y,Q,E,w=>match E.fa c with
  | some .t=>jH P T n JL JC x Q E w
  | some .f=>jH P T n JL JC y Q E w
  | some (.v v)=>bL v (jH P T n JL JC x Q (jD E c .t) w) (jH P T n JL JC y Q (jD E c .f) w)
  | some .u=>False
  | none=>False
 | .block id c,Q,E,w=>jH P T n JL JC c (λe E' w'=>match e with
   | .normal=>Q .normal E' w'
   | .exit i=>match Nat.beq i id with
    | true=>Q .normal E' w'
    | false=>Q (.exit i) E' w'
   | .ret=>Q .ret E' w') E w
 | .loop c,Q,E,w=>match JL.find (oK c) with
  | some (S,L)=>match uQ (wr c) L with
   | true=>EE (jQ E S) λEy=>∃(I:Ξ->Ζ->Prop) (μ:Ξ->Ζ->Nat),I Ey w/\wW (vS S) λvs=>∀w',I vs w' ->
     jH P T n JL JC c (λe E' ub=>match e with
      | .normal=>EE (jQ E' S) λt_=>I t_ ub/\μ t_ ub<μ vs w'
      | .exit i=>Q (.exit i) E' ub
      | .ret=>Q .ret E' ub) (w7 (tA E [] L) S vs) w'
   | false=>False
  | none=>False
 | .exit id,Q,E,w=>Q (.exit id) E w
 | .ret,Q,E,w=>Q .ret E w
 | _,_,_,_=>False
def codeOk(P:Program)(n:Nat):Code->Bool
 | .region _ ops draw=>AQ P n ops.toList draw
 | .seq a b=>codeOk P n a && codeOk P n b
 | .cond _ a b=>codeOk P n a && codeOk P n b
 | .block _ c=>codeOk P n c
 | .loop c=>codeOk P n c
 | .scope c=>codeOk P n c
 | _=>true
section
variable {P:Program} {T:List Bool} {n:Nat} {JL JC:Marks}
def mT(hT:Calls.lx P T)(hm:P.follows .mixedOrders=true):∀(c:Code) (Q:Ex->Env->Ζ->Prop) (E:Env) (w:Ζ) (a:Act) (Q':Exit->Act->Ζ->Prop),codeOk P n c=true->dd [] n E a ->
  jH P T n JL JC c Q E w->(∀e E' a' w',dd [] n E' a'->fU (wr c) a a'->Q e E' w'->Q' e.to a' w')->c.wp P Q' a w
 | .skip,Q,E,w,a,Q',_,hA,h,hq=>wp_skip (hq .normal E a w hA (fU.refl _ a) h)
 | .region id ops draw,Q,E,w,a,Q',br,hA,h,hq=>by
  unfold jH at h;cases draw with
  | false=>exact wp_region_list (DW hT (W:=mU ops.toList) (λE' a' w' h1 h2 h3=>hq .normal E' a' w' h1 h2 h3) ops.toList E a w (λt ht=>ht) (.refl _ a) hA h)
  | true=>exact Sb hT hm br hA h (λE' a' w' h1 h2 h3=>hq .normal E' a' w' h1 h2 h3)
 | .seq x y,Q,E,w,a,Q',br,hA,h,hq=>by
  simp only[codeOk,zzk]at br;unfold jH at h;split at h
  ·refine wp_seq (mT hT hm x _ E w a _ br.1 hA h ?_);intro e E' a' w' f' hk hQ;cases e with
   | normal=>
    refine mT hT hm y _ E' w' a' _ br.2 f' hQ ?_;intro e E2 a2 w2 kU fm mZ;exact hq e E2 a2 w2 kU ((hk.mono λt ht=>List.mem_append_left _ ht).trans (fm.mono λt ht=>yyz _ ht)) mZ
   | exit i=>exact hq (.exit i) E' a' w' f' (hk.mono λt ht=>List.mem_append_left _ ht) hQ
   | ret=>exact hq .ret E' a' w' f' (hk.mono λt ht=>List.mem_append_left _ ht) hQ
  rename_i S L hf;split at h
  ·rename_i hd;obtain⟨I,h1,h2⟩:=h;refine wp_seq (mT hT hm x _ E w a _ br.1 hA h1 ?_);intro e E' a' w' f' hk hQ;cases e with
   | normal=>
    cases hv:jQ E' S with
    | none=>simp only[hv]at hQ;exact hQ.elim
    | some vs=>
     simp only[hv]at hQ;have h3:=Zf _ _ h2 vs (by rw[Dy];exact Ew hv) w' hQ;have hN:dd [] n [] a':=⟨f'.size,f'.defers,λt e _ he=>by cases he⟩;refine mT hT hm y _ _ w' a' _ br.2 (BM f' (Ap hA hN hk (y0 hd)) hv) h3 ?_;intro e E2 a2 w2 kU fm mZ;exact hq e E2 a2 w2 kU ((hk.mono λt ht=>List.mem_append_left _ ht).trans (fm.mono λt ht=>yyz _ ht)) mZ
   | exit i=>exact hq (.exit i) E' a' w' f' (hk.mono λt ht=>List.mem_append_left _ ht) hQ
   | ret=>exact hq .ret E' a' w' f' (hk.mono λt ht=>List.mem_append_left _ ht) hQ
  cases h
 | .cond c x y,Q,E,w,a,Q',br,hA,h,hq=>by
  simp only[codeOk,zzk]at br;unfold jH at h;split at h
  ·rename_i he;exact wp_cond_true (hA.fa (.nil c) he) (mT hT hm x _ E w a _ br.1 hA h λe E' a' w' h1 h2 h3=>hq e E' a' w' h1 (h2.mono λt ht=>List.mem_append_left _ ht) h3)
  ·rename_i he;exact wp_cond_false (hA.fa (.nil c) he) (mT hT hm y _ E w a _ br.2 hA h λe E' a' w' h1 h2 h3=>hq e E' a' w' h1 (h2.mono λt ht=>yyz _ ht) h3)
  ·rename_i v he;obtain⟨r,rfl,h1,h2⟩:=h;cases r with
   | true=>exact wp_cond_true (hA.fa (.nil c) he) (mT hT hm x _ _ w a _ br.1 (hA.jD he rfl) (h1 rfl) λe E' a' w' h1 h2 h3=>hq e E' a' w' h1 (h2.mono λt ht=>List.mem_append_left _ ht) h3)
   | false=>exact wp_cond_false (hA.fa (.nil c) he) (mT hT hm y _ _ w a _ br.2 (hA.jD he rfl) (h2 rfl) λe E' a' w' h1 h2 h3=>hq e E' a' w' h1 (h2.mono λt ht=>yyz _ ht) h3)
  ·cases h
  cases h
 | .block id c,Q,E,w,a,Q',br,hA,h,hq=>by
  unfold jH at h;refine wp_block (mT hT hm c _ E w a _ br hA h ?_);intro e E' a' w' f' hk hQ;cases e with
  | normal=>exact hq .normal E' a' w' f' hk hQ
  | exit i=>
   simp only at hQ;show Exit.inBlock id Q' (.exit i) a' w';split at hQ
   ·rename_i hb;obtain rfl:=beq_iff.1 hb;simpa [Exit.inBlock,Ex.to] using hq .normal E' a' w' f' hk hQ
   rename_i hb;have d_:i≠id:=λe=>by rw[beq_iff.2 e]at hb;cases hb
   simpa [Exit.inBlock,Ex.to,d_] using hq (.exit i) E' a' w' f' hk hQ
  | ret=>exact hq .ret E' a' w' f' hk hQ
 | .loop c,Q,E,w,a,Q',br,hA,h,hq=>by
  unfold jH at h;split at h
  ·rename_i S L hf;split at h
   ·rename_i hd;cases hv:jQ E S with
    | none=>rw[hv]at h;exact h.elim
    | some Ey=>
     rw[hv]at h
     obtain⟨I,μ,h1,h2⟩:=h;refine wp_loop (λa' w'=>dd [] n [] a'/\fU (wr c) a a'/\∃E' vs,dd [] n E' a'/\jQ E' S=some vs/\I vs w')
      (λa' w'=>μ (S.map λs=>a'.tmps.getD s undef) w') ⟨⟨hA.size,hA.defers,λt e _ he=>by cases he⟩,.refl _ a,E,Ey,hA,hv,h1⟩ ?_
     rintro a1 w1 ⟨hN,jm,E1,vs,xI,l_,hI⟩;have h3:=Zf _ _ h2 vs (by rw[Dy];exact Ew l_) w1 hI;have kx:∀(E2:Env) (a2:Act),dd [] n E2 a2->∀(S:Α) (vs:Ξ),jQ E2 S=some vs->(S.map λs=>a2.tmps.getD s undef)=vs:=by
      intro E2 a2 kU S;induction S with
      | nil=>intro vs h;simp[jQ]at h;subst h;rfl
      | cons s r ih=>
       intro vs h;simp only[jQ]at h;split at h
       ·rename_i e he;split at h
        ·rename_i t_ lM;cases h;have:=kU.get s e (by simp) he;simp only[zzj,ih t_ lM,List.cons.injEq,and_true];simp[Array.getD_eq_getD_getElem?,this]
        cases h
       cases h
     refine mT hT hm c _ _ w1 a1 _ br (BM xI (Ap hA hN jm (y0 hd)) l_) h3 ?_;intro e E2 a2 w2 kU fm mZ;cases e with
     | normal=>
      cases nY:jQ E2 S with
      | none=>simp only[nY]at mZ;exact mZ.elim
      | some O1=>
       simp only[nY]at mZ;refine⟨⟨⟨kU.size,kU.defers,λt e _ he=>by cases he⟩,jm.trans fm,E2,O1,kU,nY,mZ.1⟩,?_⟩;rw[kx E2 a2 kU S O1 nY,kx E1 a1 xI S vs l_];exact mZ.2
     | exit i=>exact hq (.exit i) E2 a2 w2 kU (jm.trans fm) mZ
     | ret=>exact hq .ret E2 a2 w2 kU (jm.trans fm) mZ
   cases h
  cases h
 | .exit id,Q,E,w,a,Q',_,hA,h,hq=>wp_exit (hq (.exit id) E a w hA (fU.refl _ a) h)
 | .ret,Q,E,w,a,Q',_,hA,h,hq=>wp_ret (hq .ret E a w hA (fU.refl _ a) h)
end
def o6(P:Program):List ResultVar->Env->Ζ->(Ξ->Prop)->Prop
 | [],E,w,K=>K []
 | .tmp t::r,E,w,K=>match E.get t with
  | some e=>o6 P r E w λvs=>K (e.val::vs)
  | none=>False
 | .cell t ty::r,E,w,K=>match E.get t with
  | some e=>match tk P ty with
   | .one=>bx e.val w λv=>o6 P r E w λvs=>K (v::vs)
   | .agg k=>zf k e.val w λv=>o6 P r E w λvs=>K (v::vs)
   | .bad=>False
  | none=>False
def wq:Ξ->Ε
 | [v]=>v
 | vs=>.tuple vs.toArray
def w4:Nat->Ξ->Env
 | _,[]=>[]
 | k,v::r=>(k,.v v)::w4 (k+1) r
def xC(P:Program)(T:List Bool)(JL JC:Marks)(fn:Func)(args:Ξ)(w:Ζ)(R:Ε->Ζ->Prop):Prop:=match fn.body with
 | some c=>jH P T fn.ntmps JL JC c (λe E w'=>match e with
  | .normal=>o6 P fn.results.toList E w' λvs=>R (wq vs) w'
  | .ret=>o6 P fn.results.toList E w' λvs=>R (wq vs) w'
  | .exit _=>False) (w4 0 args) w
 | none=>False
def xB(P:Program)(fn:Func):Bool:=match fn.body with
 | some c=>codeOk P fn.ntmps c
 | none=>false
def tS(tmps:Array Ε):ResultVar->Sem Ε
 | .tmp t=>pure (tmps.getD t undef)
 | .cell x t=>do loadVar t (<- asAddr (tmps.getD x undef))
def AR{P:Program}{n:Nat}{E:Env}{a:Act}(hA:dd [] n E a){w:Ζ}:∀(l:List ResultVar) (K:Ξ->Prop),o6 P l E w K ->
  ∃vs,(l.mapM (tS a.tmps)).run P w= .ok vs w/\K vs
 | [],K,h=>⟨[],by simp,h⟩
 | .tmp t::r,K,h=>by
  unfold o6 at h;split at h
  ·rename_i e he;obtain⟨vs,h1,h2⟩:=AR hA r _ h;have:=hA.get t e (by simp) he;have iS:a.tmps.getD t undef=e.val:=by simp[Array.getD_eq_getD_getElem?,this]
   refine⟨e.val::vs,?_,h2⟩;have h0:(tS a.tmps (.tmp t)).run P w= .ok e.val w:=by show (pure (a.tmps.getD t undef):Sem Ε).run P w=_;rw[iS];rfl
   simp only[List.mapM_cons,Sem.run_bind,h0,Result.andThen_ok,h1,Sem.run_pure]
  cases h
 | .cell x ty::r,K,h=>by
  unfold o6 at h;split at h
  ·rename_i e he;have hx:=hA.get x e (by simp) he;have iS:a.tmps.getD x undef=e.val:=by simp[Array.getD_eq_getD_getElem?,hx]
   split at h
   ·rename_i ht;obtain⟨p,v,hp,hc,h⟩:=h;obtain⟨vs,h1,h2⟩:=AR hA r _ h;refine⟨v::vs,?_,h2⟩;have h0:(tS a.tmps (.cell x ty)).run P w= .ok v w:=by
     show (do loadVar ty (<- asAddr (a.tmps.getD x undef)):Sem Ε).run P w=_;rw[iS,hp];simp[asAddr,loadVar,(OO ht).1,hc]
    simp only[List.mapM_cons,Sem.run_bind,h0,Result.andThen_ok,h1,Sem.run_pure]
   ·rename_i k ht;obtain⟨p,us,hp,hl,hc,h⟩:=h;obtain⟨vs,h1,h2⟩:=AR hA r _ h;subst hl;refine⟨.agg us.toArray::vs,?_,h2⟩;have h0:(tS a.tmps (.cell x ty)).run P w= .ok (.agg us.toArray) w:=by
     show (do loadVar ty (<- asAddr (a.tmps.getD x undef)):Sem Ε).run P w=_;rw[iS,hp];simp[asAddr,loadVar,(wo ht).1,run_sizeOf (wo ht).2,wwp w p us hc]
    simp only[List.mapM_cons,Sem.run_bind,h0,Result.andThen_ok,h1,Sem.run_pure]
   cases h
  cases h
def Jc:∀(args:Ξ) (k t:Nat) (e:fu),(w4 k args).get t=some e->∃v,e= .v v/\k<=t/\args[t-k]?=some v
 | [],k,t,e,h=>by cases h
 | v::r,k,t,e,h=>by
  simp only[w4,Env.get]at h;split at h
  ·rename_i hb;obtain rfl:=beq_iff.1 hb;cases h;exact⟨v,rfl,zzz _,by simp⟩
  obtain⟨u,h1,h2,h3⟩:=Jc r (k+1) t e h;refine⟨u,h1,by omega,?_⟩;rw[show t-k=(t-(k+1))+1 by omega];simpa using h3
def Ta{P:Program}{T:List Bool}{JL JC:Marks}(hT:Calls.lx P T)(hm:P.follows .mixedOrders=true){f:FuncId}{fn:Func}{args:Ξ}{w:Ζ}{R:Ε->Ζ->Prop}(hf:P.funcs[f]?=some fn)
  (br:xB P fn=true) (hlen:Nat.ble (r7 args) fn.ntmps=true) (h:xC P T JL JC fn args w R):zL P f args w R:=by
 unfold xC at h;unfold xB at br;split at h
 ·rename_i c hc;rw[hc]at br
  have hl:args.length<=fn.ntmps:=by
   have:∀l:Ξ,r7 l=l.length:=λl=>by
    induction l with
    | nil=>rfl
    | cons v r ih=>simp[r7,ih]
   rw[this]at hlen
   exact Nat.le_of_ble_eq_true hlen
  refine calls_of_wp hf hc (mT hT hm c _ _ w _ _ br ⟨by simp;omega,rfl,λt e _ he=>?_⟩ h ?_)
  ·obtain⟨v,rfl,_,hv⟩:=Jc _ _ _ _ he;simp only[wwx]at hv;have cA:=(zzf.1 hv).1;rw[Array.getElem?_append_left (by simpa using cA)];show _=some v;simpa using hv
  have fin:∀(E':Env) (a':Act) (w':Ζ),dd [] fn.ntmps E' a'->o6 P fn.results.toList E' w' (λvs=>R (wq vs) w') ->
    a'.defers=[]/\∃v,(results fn a'.tmps).run P w'= .ok v w'/\∃u,Ending.returned v= .returned u/\R u w':=by
   intro E' a' w' hA hr;obtain⟨vs,h1,h2⟩:=AR hA _ _ hr;refine⟨hA.defers,wq vs,?_,_,rfl,h2⟩;have h3:(fn.results.mapM (tS a'.tmps)).run P w'= .ok vs.toArray w':=by
    rw[Array.mapM_eq_mapM_toList,Sem.run_map,h1];rfl
   have h4:results fn a'.tmps=(do
     let vs <- fn.results.mapM (tS a'.tmps)
     pure (if h:vs.size=1 then vs[0] else .tuple vs)):=rfl
   rw[h4,Sem.run_bind,h3];simp only[Result.andThen_ok,Sem.run_pure,Result.ok.injEq,and_true]
   match vs with
   | []=>rfl
   | [v]=>rfl
   | v::u::r=>simp[wq]
  intro e E' a' w' hA _ hQ;cases e with
  | normal=>exact fin E' a' w' hA hQ
  | ret=>exact fin E' a' w' hA hQ
  | exit i=>cases hQ
 cases h
def so:List Bool->List Func->Bool
 | [],_=>true
 | true :: T, fn :: r => !(fn.name == "runtime.NumGoroutine") && !fn.body.isNone && so T r
 | false::T,_::r=>so T r
 | _::_,[]=>false
def y5 : ∀ (T : List Bool) (l : List Func), so T l = true -> ∀ f, T.getD f false = true -> ∃ fn, l[f]? = some fn /\ (fn.name == "runtime.NumGoroutine") = false /\ fn.body.isNone = false
 | [],l,_,f,h=>by simp at h
 | true::T,[],hk,f,h=>by simp[so]at hk
 | false::T,[],hk,f,h=>by simp[so]at hk
 | true::T,fn::r,hk,f,h=>by
  simp only[so,zzk,Bool.not_eq_true']at hk;cases f with
  | zero=>exact⟨fn,rfl,hk.1.1,hk.1.2⟩
  | succ f=>obtain⟨g,h1,h2⟩:=y5 T r hk.2 f (by simpa using h);exact⟨g,by simpa using h1,h2⟩
 | false::T,fn::r,hk,f,h=>by
  cases f with
  | zero=>simp at h
  | succ f=>obtain⟨g,h1,h2⟩:=y5 T r hk f (by simpa using h);exact⟨g,by simpa using h1,h2⟩
def Re(P:Program)(T:List Bool)(h:so T P.funcs.toList=true):Calls.lx P T:=λf hf=>by
 obtain⟨fn,h1,h2⟩:=y5 T _ h f hf;exact⟨fn,by simpa using h1,h2⟩
