/- Part of the proof. -/
import Derived.Test.YtmkllimamejcgaaGreatQEngG
namespace Go.Proofs.YtmkllimamejcgaaGreat
set_option linter.all false
open Go.RowKit
def zi(w:World)(K:World->Prop):Prop:=K w.drew
def mN(P:Program)(T:List Bool)(n:Nat)(JL JC:Marks):Code->(Ex->Env->World->Prop)->Env->World->Prop
 | .skip,Q,E,w=>Q .normal E w
 | .region id ops draw,Q,E,w=>match draw with
  | false=>Dv P T n ops.toList (λE' w'=>Q .normal E' w') ops.toList E w
  | true=>zi w λw1=>HE P T n ops.toList (λE' w'=>Q .normal E' w') E w1
 | .seq a b,Q,E,w=>match JC.find (ue b) with
  | none=>mN P T n JL JC a (λe E' w'=>match e with
    | .normal=>mN P T n JL JC b Q E' w'
    | .exit i=>Q (.exit i) E' w'
    | .ret=>Q .ret E' w') E w
  | some (S,L)=>match Ca (wr a) L with
   | true=>∃I:List Value->World->Prop,mN P T n JL JC a (λe E' w'=>match e with
     | .normal=>KR (nc E' S) λvs=>I vs w'
     | .exit i=>Q (.exit i) E' w'
     | .ret=>Q .ret E' w') E w/\Eb (Dh S) λvs=>∀w',I vs w'->mN P T n JL JC b Q (Eg (Ba E [] L) S vs) w'
   | false=>False
 | .cond c x y,Q,E,w=>match E.gU c with
  | some .t=>mN P T n JL JC x Q E w
  | some .f=>mN P T n JL JC y Q E w
  | some (.v v)=>dm v (mN P T n JL JC x Q (mF E c .t) w) (mN P T n JL JC y Q (mF E c .f) w)
  | some .u=>False
  | none=>False
 | .block id c,Q,E,w=>mN P T n JL JC c (λe E' w'=>match e with
   | .normal=>Q .normal E' w'
   | .exit i=>match Nat.beq i id with
    | true=>Q .normal E' w'
    | false=>Q (.exit i) E' w'
   | .ret=>Q .ret E' w') E w
 | .loop c,Q,E,w=>match JL.find (ue c) with
  | some (S,L)=>match Ca (wr c) L with
   | true=>KR (nc E S) λKK=>∃(I:List Value->World->Prop) (μ:List Value->World->Nat),I KK w/\Eb (Dh S) λvs=>∀w',I vs w' ->
     mN P T n JL JC c (λe E' BC=>match e with
      | .normal=>KR (nc E' S) λBA=>I BA BC/\μ BA BC<μ vs w'
      | .exit i=>Q (.exit i) E' BC
      | .ret=>Q .ret E' BC) (Eg (Ba E [] L) S vs) w'
   | false=>False
  | none=>False
 | .exit id,Q,E,w=>Q (.exit id) E w
 | .ret,Q,E,w=>Q .ret E w
 | _,_,_,_=>False
def codeOk(P:Program)(n:Nat):Code->Bool
 | .region _ ops draw=>F7 P n ops.toList draw
 | .seq a b=>codeOk P n a && codeOk P n b
 | .cond _ a b=>codeOk P n a && codeOk P n b
 | .block _ c=>codeOk P n c
 | .loop c=>codeOk P n c
 | .scope c=>codeOk P n c
 | _=>true
section
variable {P:Program} {T:List Bool} {n:Nat} {JL JC:Marks}
theorem rX(hT:Calls.pk P T)(hm:P.follows .mixedOrders=true):∀(c:Code) (Q:Ex->Env->World->Prop) (E:Env) (w:World) (a:Act) (Q':Exit->Act->World->Prop),codeOk P n c=true->fy [] n E a ->
  mN P T n JL JC c Q E w->(∀e E' a' w',fy [] n E' a'->jk (wr c) a a'->Q e E' w'->Q' e.to a' w')->c.wp P Q' a w
 | .skip,Q,E,w,a,Q',_,hA,h,hq=>wp_skip (hq .normal E a w hA (jk.refl _ a) h)
 | .region id ops draw,Q,E,w,a,Q',cG,hA,h,hq=>by
  unfold mN at h
  cases draw with
  | false=>exact wp_region_list (JZ hT (W:=rY ops.toList) (λE' a' w' h1 h2 h3=>hq .normal E' a' w' h1 h2 h3) ops.toList E a w (λt ht=>ht) (.refl _ a) hA h)
  | true=>exact a_b hT hm cG hA h (λE' a' w' h1 h2 h3=>hq .normal E' a' w' h1 h2 h3)
 | .seq x y,Q,E,w,a,Q',cG,hA,h,hq=>by
  simp only[codeOk,Bool.and_eq_true]at cG
  unfold mN at h
  split at h
  ·refine wp_seq (rX hT hm x _ E w a _ cG.1 hA h ?_)
   intro e E' a' w' iW hk hQ
   cases e with
   | normal=>
    refine rX hT hm y _ E' w' a' _ cG.2 iW hQ ?_
    intro e E2 a2 w2 oT fO sf
    exact hq e E2 a2 w2 oT ((hk.mono λt ht=>List.mem_append_left _ ht).trans (fO.mono λt ht=>List.mem_append_right _ ht)) sf
   | exit i=>exact hq (.exit i) E' a' w' iW (hk.mono λt ht=>List.mem_append_left _ ht) hQ
   | ret=>exact hq .ret E' a' w' iW (hk.mono λt ht=>List.mem_append_left _ ht) hQ
  ·rename_i S L hf
   split at h
   ·rename_i hd
    obtain⟨I,h1,h2⟩:=h
    refine wp_seq (rX hT hm x _ E w a _ cG.1 hA h1 ?_)
    intro e E' a' w' iW hk hQ
    cases e with
    | normal=>
     cases hv:nc E' S with
     | none=>simp only[hv]at hQ;exact hQ.elim
     | some vs=>
      simp only[hv]at hQ
      have h3:=Zs _ _ h2 vs (by rw[Ju];exact KH hv) w' hQ
      have hN:fy [] n [] a':=⟨iW.size,iW.defers,λt e _ he=>by cases he⟩
      refine rX hT hm y _ _ w' a' _ cG.2 (Hm iW (FK hA hN hk (y4 hd)) hv) h3 ?_
      intro e E2 a2 w2 oT fO sf
      exact hq e E2 a2 w2 oT ((hk.mono λt ht=>List.mem_append_left _ ht).trans (fO.mono λt ht=>List.mem_append_right _ ht)) sf
    | exit i=>exact hq (.exit i) E' a' w' iW (hk.mono λt ht=>List.mem_append_left _ ht) hQ
    | ret=>exact hq .ret E' a' w' iW (hk.mono λt ht=>List.mem_append_left _ ht) hQ
   ·cases h
 | .cond c x y,Q,E,w,a,Q',cG,hA,h,hq=>by
  simp only[codeOk,Bool.and_eq_true]at cG
  unfold mN at h
  split at h
  ·rename_i he
   exact wp_cond_true (hA.gU (.nil c) he) (rX hT hm x _ E w a _ cG.1 hA h λe E' a' w' h1 h2 h3=>hq e E' a' w' h1 (h2.mono λt ht=>List.mem_append_left _ ht) h3)
  ·rename_i he
   exact wp_cond_false (hA.gU (.nil c) he) (rX hT hm y _ E w a _ cG.2 hA h λe E' a' w' h1 h2 h3=>hq e E' a' w' h1 (h2.mono λt ht=>List.mem_append_right _ ht) h3)
  ·rename_i v he
   obtain⟨r,rfl,h1,h2⟩:=h
   cases r with
   | true=>exact wp_cond_true (hA.gU (.nil c) he) (rX hT hm x _ _ w a _ cG.1 (hA.mF he rfl) (h1 rfl) λe E' a' w' h1 h2 h3=>hq e E' a' w' h1 (h2.mono λt ht=>List.mem_append_left _ ht) h3)
   | false=>exact wp_cond_false (hA.gU (.nil c) he) (rX hT hm y _ _ w a _ cG.2 (hA.mF he rfl) (h2 rfl) λe E' a' w' h1 h2 h3=>hq e E' a' w' h1 (h2.mono λt ht=>List.mem_append_right _ ht) h3)
  ·cases h
  ·cases h
 | .block id c,Q,E,w,a,Q',cG,hA,h,hq=>by
  unfold mN at h
  refine wp_block (rX hT hm c _ E w a _ cG hA h ?_)
  intro e E' a' w' iW hk hQ
  cases e with
  | normal=>exact hq .normal E' a' w' iW hk hQ
  | exit i=>
   simp only at hQ
   show Exit.inBlock id Q' (.exit i) a' w'
   split at hQ
   ·rename_i hb
    obtain rfl:=beq_iff.1 hb
    simpa [Exit.inBlock,Ex.to] using hq .normal E' a' w' iW hk hQ
   ·rename_i hb
    have dO:i≠id:=λe=>by rw[beq_iff.2 e]at hb;cases hb
    simpa [Exit.inBlock,Ex.to,dO] using hq (.exit i) E' a' w' iW hk hQ
  | ret=>exact hq .ret E' a' w' iW hk hQ
 | .loop c,Q,E,w,a,Q',cG,hA,h,hq=>by
  unfold mN at h
  split at h
  ·rename_i S L hf
   split at h
   ·rename_i hd
    cases hv:nc E S with
    | none=>rw[hv]at h;exact h.elim
    | some KK=>
     rw[hv]at h
     obtain⟨I,μ,h1,h2⟩:=h
     refine wp_loop (λa' w'=>fy [] n [] a'/\jk (wr c) a a'/\∃E' vs,fy [] n E' a'/\nc E' S=some vs/\I vs w')
      (λa' w'=>μ (S.map λs=>a'.tmps.getD s undef) w') ⟨⟨hA.size,hA.defers,λt e _ he=>by cases he⟩,.refl _ a,E,KK,hA,hv,h1⟩ ?_
     rintro a1 w1 ⟨hN,o7,E1,vs,wU,rr,hI⟩
     have h3:=Zs _ _ h2 vs (by rw[Ju];exact KH rr) w1 hI
     have oq:∀(E2:Env) (a2:Act),fy [] n E2 a2->∀(S:List Nat) (vs:List Value),nc E2 S=some vs->(S.map λs=>a2.tmps.getD s undef)=vs:=by
      intro E2 a2 oT S
      induction S with
      | nil=>intro vs h;simp[nc]at h;subst h;rfl
      | cons s r ih=>
       intro vs h
       simp only[nc]at h
       split at h
       ·rename_i e he
        split at h
        ·rename_i BA pT
         cases h
         have:=oT.get s e (by simp) he
         simp only[List.map_cons,ih BA pT,List.cons.injEq,and_true]
         simp[Array.getD_eq_getD_getElem?,this]
        ·cases h
       ·cases h
     refine rX hT hm c _ _ w1 a1 _ cG (Hm wU (FK hA hN o7 (y4 hd)) rr) h3 ?_
     intro e E2 a2 w2 oT fO sf
     cases e with
     | normal=>
      cases tD:nc E2 S with
      | none=>simp only[tD]at sf;exact sf.elim
      | some XS=>
       simp only[tD]at sf
       refine⟨⟨⟨oT.size,oT.defers,λt e _ he=>by cases he⟩,o7.trans fO,E2,XS,oT,tD,sf.1⟩,?_⟩
       rw[oq E2 a2 oT S XS tD,oq E1 a1 wU S vs rr]
       exact sf.2
     | exit i=>exact hq (.exit i) E2 a2 w2 oT (o7.trans fO) sf
     | ret=>exact hq .ret E2 a2 w2 oT (o7.trans fO) sf
   ·cases h
  ·cases h
 | .exit id,Q,E,w,a,Q',_,hA,h,hq=>wp_exit (hq (.exit id) E a w hA (jk.refl _ a) h)
 | .ret,Q,E,w,a,Q',_,hA,h,hq=>wp_ret (hq .ret E a w hA (jk.refl _ a) h)
end
def uN(P:Program):List ResultVar->Env->World->(List Value->Prop)->Prop
 | [],E,w,K=>K []
 | .tmp t::r,E,w,K=>match E.get t with
  | some e=>uN P r E w λvs=>K (e.val::vs)
  | none=>False
 | .cell t ty::r,E,w,K=>match E.get t with
  | some e=>match tk P ty with
   | .one=>cn e.val w λv=>uN P r E w λvs=>K (v::vs)
   | .agg k=>zg k e.val w λv=>uN P r E w λvs=>K (v::vs)
   | .bad=>False
  | none=>False
def DO:List Value->Value
 | [v]=>v
 | vs=>.tuple vs.toArray
def Ef:Nat->List Value->Env
 | _,[]=>[]
 | k,v::r=>(k,.v v)::Ef (k+1) r
def EI(P:Program)(T:List Bool)(JL JC:Marks)(fn:Func)(args:List Value)(w:World)(R:Value->World->Prop):Prop:=match fn.body with
 | some c=>mN P T fn.ntmps JL JC c (λe E w'=>match e with
  | .normal=>uN P fn.results.toList E w' λvs=>R (DO vs) w'
  | .ret=>uN P fn.results.toList E w' λvs=>R (DO vs) w'
  | .exit _=>False) (Ef 0 args) w
 | none=>False
def EH(P:Program)(fn:Func):Bool:=match fn.body with
 | some c=>codeOk P fn.ntmps c
 | none=>false
def Bp(tmps:Array Value):ResultVar->Sem Value
 | .tmp t=>pure (tmps.getD t undef)
 | .cell x t=>do loadVar t (<- asAddr (tmps.getD x undef))
theorem F8{P:Program}{n:Nat}{E:Env}{a:Act}(hA:fy [] n E a){w:World}:∀(l:List ResultVar) (K:List Value->Prop),uN P l E w K ->
  ∃vs,(l.mapM (Bp a.tmps)).run P w= .ok vs w/\K vs
 | [],K,h=>⟨[],by simp,h⟩
 | .tmp t::r,K,h=>by
  unfold uN at h
  split at h
  ·rename_i e he
   obtain⟨vs,h1,h2⟩:=F8 hA r _ h
   have:=hA.get t e (by simp) he
   have mW:a.tmps.getD t undef=e.val:=by simp[Array.getD_eq_getD_getElem?,this]
   refine⟨e.val::vs,?_,h2⟩
   have h0:(Bp a.tmps (.tmp t)).run P w= .ok e.val w:=by show (pure (a.tmps.getD t undef):Sem Value).run P w=_;rw[mW];rfl
   simp only[List.mapM_cons,Sem.run_bind,h0,Result.andThen_ok,h1,Sem.run_pure]
  ·cases h
 | .cell x ty::r,K,h=>by
  unfold uN at h
  split at h
  ·rename_i e he
   have hx:=hA.get x e (by simp) he
   have mW:a.tmps.getD x undef=e.val:=by simp[Array.getD_eq_getD_getElem?,hx]
   split at h
   ·rename_i ht
    obtain⟨p,v,hp,hc,h⟩:=h
    obtain⟨vs,h1,h2⟩:=F8 hA r _ h
    refine⟨v::vs,?_,h2⟩
    have h0:(Bp a.tmps (.cell x ty)).run P w= .ok v w:=by
     show (do loadVar ty (<- asAddr (a.tmps.getD x undef)):Sem Value).run P w=_;rw[mW,hp];simp[asAddr,loadVar,(Xo ht).1,hc]
    simp only[List.mapM_cons,Sem.run_bind,h0,Result.andThen_ok,h1,Sem.run_pure]
   ·rename_i k ht
    obtain⟨p,us,hp,hl,hc,h⟩:=h
    obtain⟨vs,h1,h2⟩:=F8 hA r _ h
    subst hl
    refine⟨.agg us.toArray::vs,?_,h2⟩
    have h0:(Bp a.tmps (.cell x ty)).run P w= .ok (.agg us.toArray) w:=by
     show (do loadVar ty (<- asAddr (a.tmps.getD x undef)):Sem Value).run P w=_;rw[mW,hp];simp[asAddr,loadVar,(DN ht).1,run_sizeOf (DN ht).2,run_loadCells_list w p us hc]
    simp only[List.mapM_cons,Sem.run_bind,h0,Result.andThen_ok,h1,Sem.run_pure]
   ·cases h
  ·cases h
theorem P3:∀(args:List Value) (k t:Nat) (e:iz),(Ef k args).get t=some e->∃v,e= .v v/\k<=t/\args[t-k]?=some v
 | [],k,t,e,h=>by cases h
 | v::r,k,t,e,h=>by
  simp only[Ef,Env.get]at h
  split at h
  ·rename_i hb
   obtain rfl:=beq_iff.1 hb
   cases h
   exact⟨v,rfl,Nat.le_refl _,by simp⟩
  ·obtain⟨u,h1,h2,h3⟩:=P3 r (k+1) t e h
   refine⟨u,h1,by omega,?_⟩
   rw[show t-k=(t-(k+1))+1 by omega]
   simpa using h3
theorem bFo{P:Program}{T:List Bool}{JL JC:Marks}(hT:Calls.pk P T)(hm:P.follows .mixedOrders=true){f:FuncId}{fn:Func}{args:List Value}{w:World}{R:Value->World->Prop}(hf:P.funcs[f]?=some fn)
  (cG:EH P fn=true) (hlen:Nat.ble (xI args) fn.ntmps=true) (h:EI P T JL JC fn args w R):zQ P f args w R:=by
 unfold EI at h
 unfold EH at cG
 split at h
 ·rename_i c hc
  rw[hc]at cG
  have hl:args.length<=fn.ntmps:=by
   have:∀l:List Value,xI l=l.length:=λl=>by
    induction l with
    | nil=>rfl
    | cons v r ih=>simp[xI,ih]
   rw[this]at hlen
   exact Nat.le_of_ble_eq_true hlen
  refine calls_of_wp hf hc (rX hT hm c _ _ w _ _ cG ⟨by simp;omega,rfl,λt e _ he=>?_⟩ h ?_)
  ·obtain⟨v,rfl,_,hv⟩:=P3 _ _ _ _ he
   simp only[Nat.sub_zero]at hv
   have dd:=(List.getElem?_eq_some_iff.1 hv).1
   rw[Array.getElem?_append_left (by simpa using dd)]
   show _=some v
   simpa using hv
  ·have fin:∀(E':Env) (a':Act) (w':World),fy [] fn.ntmps E' a'->uN P fn.results.toList E' w' (λvs=>R (DO vs) w') ->
     a'.defers=[]/\∃v,(results fn a'.tmps).run P w'= .ok v w'/\∃u,Ending.returned v= .returned u/\R u w':=by
    intro E' a' w' hA hr
    obtain⟨vs,h1,h2⟩:=F8 hA _ _ hr
    refine⟨hA.defers,DO vs,?_,_,rfl,h2⟩
    have h3:(fn.results.mapM (Bp a'.tmps)).run P w'= .ok vs.toArray w':=by
     rw[Array.mapM_eq_mapM_toList,Sem.run_map,h1];rfl
    have h4:results fn a'.tmps=(do
      let vs <- fn.results.mapM (Bp a'.tmps)
      pure (if h:vs.size=1 then vs[0] else .tuple vs)):=rfl
    rw[h4,Sem.run_bind,h3]
    simp only[Result.andThen_ok,Sem.run_pure,Result.ok.injEq,and_true]
    match vs with
    | []=>rfl
    | [v]=>rfl
    | v::u::r=>simp[DO]
   intro e E' a' w' hA _ hQ
   cases e with
   | normal=>exact fin E' a' w' hA hQ
   | ret=>exact fin E' a' w' hA hQ
   | exit i=>cases hQ
 ·cases h
def xW:List Bool->List Func->Bool
 | [],_=>true
 | true :: T, fn :: r => !(fn.name == "runtime.NumGoroutine") && !fn.body.isNone && xW T r
 | false::T,_::r=>xW T r
 | _::_,[]=>false
theorem Ze : ∀ (T : List Bool) (l : List Func), xW T l = true -> ∀ f, T.getD f false = true -> ∃ fn, l[f]? = some fn /\ (fn.name == "runtime.NumGoroutine") = false /\ fn.body.isNone = false
 | [],l,_,f,h=>by simp at h
 | true::T,[],hk,f,h=>by simp[xW]at hk
 | false::T,[],hk,f,h=>by simp[xW]at hk
 | true::T,fn::r,hk,f,h=>by
  simp only[xW,Bool.and_eq_true,Bool.not_eq_true']at hk
  cases f with
  | zero=>exact⟨fn,rfl,hk.1.1,hk.1.2⟩
  | succ f=>obtain⟨g,h1,h2⟩:=Ze T r hk.2 f (by simpa using h);exact⟨g,by simpa using h1,h2⟩
 | false::T,fn::r,hk,f,h=>by
  cases f with
  | zero=>simp at h
  | succ f=>obtain⟨g,h1,h2⟩:=Ze T r hk f (by simpa using h);exact⟨g,by simpa using h1,h2⟩
theorem aIr(P:Program)(T:List Bool)(h:xW T P.funcs.toList=true):Calls.pk P T:=λf hf=>by
 obtain⟨fn,h1,h2⟩:=Ze T _ h f hf
 exact⟨fn,by simpa using h1,h2⟩
