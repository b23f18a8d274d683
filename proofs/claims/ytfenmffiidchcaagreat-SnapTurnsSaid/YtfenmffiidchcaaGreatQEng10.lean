/- Part of the proof (my own). -/
import Derived.Test.YtfenmffiidchcaaGreatQEngG
namespace Go.Proofs.YtfenmffiidchcaaGreat
set_option linter.unusedVariables false
open Go.RowKit
def zi(w:World)(K:World->Prop):Prop:=K w.drew
def lA(P:Program)(T:List Bool)(n:Nat)(JL JC:Marks):Code->(Ex->Env->World->Prop)->Env->World->Prop
 | .skip,Q,E,w=>Q .normal E w
 | .region id ops draw,Q,E,w=>match draw with
  | false=>AG P T n ops.toList (λE' w'=>Q .normal E' w') ops.toList E w
  | true=>zi w λw1=>D6 P T n ops.toList (λE' w'=>Q .normal E' w') E w1
 | .seq a b,Q,E,w=>match JC.find (rL b) with
  | none=>lA P T n JL JC a (λe E' w'=>match e with
    | .normal=>lA P T n JL JC b Q E' w'
    | .exit i=>Q (.exit i) E' w'
    | .ret=>Q .ret E' w') E w
  | some (S,L)=>match xe (wr a) L with
   | true=>∃I:List Value->World->Prop,lA P T n JL JC a (λe E' w'=>match e with
     | .normal=>Ho (lP E' S) λvs=>I vs w'
     | .exit i=>Q (.exit i) E' w'
     | .ret=>Q .ret E' w') E w/\Bb (Aw S) λvs=>∀w',I vs w'->lA P T n JL JC b Q (Bh (wg E [] L) S vs) w'
   | false=>False
 | .cond c x y,Q,E,w=>match E.gP c with
  | some .t=>lA P T n JL JC x Q E w
  | some .f=>lA P T n JL JC y Q E w
  | some (.v v)=>dO v (lA P T n JL JC x Q (lq E c .t) w) (lA P T n JL JC y Q (lq E c .f) w)
  | some .u=>False
  | none=>False
 | .block id c,Q,E,w=>lA P T n JL JC c (λe E' w'=>match e with
   | .normal=>Q .normal E' w'
   | .exit i=>match Nat.beq i id with
    | true=>Q .normal E' w'
    | false=>Q (.exit i) E' w'
   | .ret=>Q .ret E' w') E w
 | .loop c,Q,E,w=>match JL.find (rL c) with
  | some (S,L)=>match xe (wr c) L with
   | true=>Ho (lP E S) λC4=>∃(I:List Value->World->Prop) (μ:List Value->World->Nat),I C4 w/\Bb (Aw S) λvs=>∀w',I vs w' ->
     lA P T n JL JC c (λe E' wM=>match e with
      | .normal=>Ho (lP E' S) λwL=>I wL wM/\μ wL wM<μ vs w'
      | .exit i=>Q (.exit i) E' wM
      | .ret=>Q .ret E' wM) (Bh (wg E [] L) S vs) w'
   | false=>False
  | none=>False
 | .exit id,Q,E,w=>Q (.exit id) E w
 | .ret,Q,E,w=>Q .ret E w
 | _,_,_,_=>False
def codeOk(P:Program)(n:Nat):Code->Bool
 | .region _ ops draw=>CH P n ops.toList draw
 | .seq a b=>codeOk P n a && codeOk P n b
 | .cond _ a b=>codeOk P n a && codeOk P n b
 | .block _ c=>codeOk P n c
 | .loop c=>codeOk P n c
 | .scope c=>codeOk P n c
 | _=>true
section
variable {P:Program} {T:List Bool} {n:Nat} {JL JC:Marks}
theorem oT(hT:Calls.nr P T)(hm:P.follows .mixedOrders=true):∀(c:Code) (Q:Ex->Env->World->Prop) (E:Env) (w:World) (a:Act) (Q':Exit->Act->World->Prop),codeOk P n c=true->fz [] n E a ->
  lA P T n JL JC c Q E w->(∀e E' a' w',fz [] n E' a'->iR (wr c) a a'->Q e E' w'->Q' e.to a' w')->c.wp P Q' a w
 | .skip,Q,E,w,a,Q',_,hA,h,hq=>wp_skip (hq .normal E a w hA (iR.refl _ a) h)
 | .region id ops draw,Q,E,w,a,Q',b5,hA,h,hq=>by
  unfold lA at h
  cases draw with
  | false=>exact wp_region_list (Gt hT (W:=oV ops.toList) (λE' a' w' h1 h2 h3=>hq .normal E' a' w' h1 h2 h3) ops.toList E a w (λt ht=>ht) (.refl _ a) hA h)
  | true=>exact U4 hT hm b5 hA h (λE' a' w' h1 h2 h3=>hq .normal E' a' w' h1 h2 h3)
 | .seq x y,Q,E,w,a,Q',b5,hA,h,hq=>by
  simp only[codeOk,Bool.and_eq_true]at b5
  unfold lA at h
  split at h
  ·refine wp_seq (oT hT hm x _ E w a _ b5.1 hA h ?_)
   intro e E' a' w' iV hk hQ
   cases e with
   | normal=>
    refine oT hT hm y _ E' w' a' _ b5.2 iV hQ ?_
    intro e E2 a2 w2 lF kZ o_
    exact hq e E2 a2 w2 lF ((hk.mono λt ht=>List.mem_append_left _ ht).trans (kZ.mono λt ht=>List.mem_append_right _ ht)) o_
   | exit i=>exact hq (.exit i) E' a' w' iV (hk.mono λt ht=>List.mem_append_left _ ht) hQ
   | ret=>exact hq .ret E' a' w' iV (hk.mono λt ht=>List.mem_append_left _ ht) hQ
  ·rename_i S L hf
   split at h
   ·rename_i hd
    obtain⟨I,h1,h2⟩:=h
    refine wp_seq (oT hT hm x _ E w a _ b5.1 hA h1 ?_)
    intro e E' a' w' iV hk hQ
    cases e with
    | normal=>
     cases hv:lP E' S with
     | none=>simp only[hv]at hQ;exact hQ.elim
     | some vs=>
      simp only[hv]at hQ
      have h3:=Zt _ _ h2 vs (by rw[F0];exact Hi hv) w' hQ
      have hN:fz [] n [] a':=⟨iV.size,iV.defers,λt e _ he=>by cases he⟩
      refine oT hT hm y _ _ w' a' _ b5.2 (DL iV (Co hA hN hk (Zb hd)) hv) h3 ?_
      intro e E2 a2 w2 lF kZ o_
      exact hq e E2 a2 w2 lF ((hk.mono λt ht=>List.mem_append_left _ ht).trans (kZ.mono λt ht=>List.mem_append_right _ ht)) o_
    | exit i=>exact hq (.exit i) E' a' w' iV (hk.mono λt ht=>List.mem_append_left _ ht) hQ
    | ret=>exact hq .ret E' a' w' iV (hk.mono λt ht=>List.mem_append_left _ ht) hQ
   ·cases h
 | .cond c x y,Q,E,w,a,Q',b5,hA,h,hq=>by
  simp only[codeOk,Bool.and_eq_true]at b5
  unfold lA at h
  split at h
  ·rename_i he
   exact wp_cond_true (hA.gP (.nil c) he) (oT hT hm x _ E w a _ b5.1 hA h λe E' a' w' h1 h2 h3=>hq e E' a' w' h1 (h2.mono λt ht=>List.mem_append_left _ ht) h3)
  ·rename_i he
   exact wp_cond_false (hA.gP (.nil c) he) (oT hT hm y _ E w a _ b5.2 hA h λe E' a' w' h1 h2 h3=>hq e E' a' w' h1 (h2.mono λt ht=>List.mem_append_right _ ht) h3)
  ·rename_i v he
   obtain⟨r,rfl,h1,h2⟩:=h
   cases r with
   | true=>exact wp_cond_true (hA.gP (.nil c) he) (oT hT hm x _ _ w a _ b5.1 (hA.lq he rfl) (h1 rfl) λe E' a' w' h1 h2 h3=>hq e E' a' w' h1 (h2.mono λt ht=>List.mem_append_left _ ht) h3)
   | false=>exact wp_cond_false (hA.gP (.nil c) he) (oT hT hm y _ _ w a _ b5.2 (hA.lq he rfl) (h2 rfl) λe E' a' w' h1 h2 h3=>hq e E' a' w' h1 (h2.mono λt ht=>List.mem_append_right _ ht) h3)
  ·cases h
  ·cases h
 | .block id c,Q,E,w,a,Q',b5,hA,h,hq=>by
  unfold lA at h
  refine wp_block (oT hT hm c _ E w a _ b5 hA h ?_)
  intro e E' a' w' iV hk hQ
  cases e with
  | normal=>exact hq .normal E' a' w' iV hk hQ
  | exit i=>
   simp only at hQ
   show Exit.inBlock id Q' (.exit i) a' w'
   split at hQ
   ·rename_i hb
    obtain rfl:=beq_iff.1 hb
    simpa [Exit.inBlock,Ex.to] using hq .normal E' a' w' iV hk hQ
   ·rename_i hb
    have dV:i≠id:=λe=>by rw[beq_iff.2 e]at hb;cases hb
    simpa [Exit.inBlock,Ex.to,dV] using hq (.exit i) E' a' w' iV hk hQ
  | ret=>exact hq .ret E' a' w' iV hk hQ
 | .loop c,Q,E,w,a,Q',b5,hA,h,hq=>by
  unfold lA at h
  split at h
  ·rename_i S L hf
   split at h
   ·rename_i hd
    cases hv:lP E S with
    | none=>rw[hv]at h;exact h.elim
    | some C4=>
     rw[hv]at h
     obtain⟨I,μ,h1,h2⟩:=h
     refine wp_loop (λa' w'=>fz [] n [] a'/\iR (wr c) a a'/\∃E' vs,fz [] n E' a'/\lP E' S=some vs/\I vs w')
      (λa' w'=>μ (S.map λs=>a'.tmps.getD s undef) w') ⟨⟨hA.size,hA.defers,λt e _ he=>by cases he⟩,.refl _ a,E,C4,hA,hv,h1⟩ ?_
     rintro a1 w1 ⟨hN,mV,E1,vs,ui,kj,hI⟩
     have h3:=Zt _ _ h2 vs (by rw[F0];exact Hi kj) w1 hI
     have lM:∀(E2:Env) (a2:Act),fz [] n E2 a2->∀(S:List Nat) (vs:List Value),lP E2 S=some vs->(S.map λs=>a2.tmps.getD s undef)=vs:=by
      intro E2 a2 lF S
      induction S with
      | nil=>intro vs h;simp[lP]at h;subst h;rfl
      | cons s r ih=>
       intro vs h
       simp only[lP]at h
       split at h
       ·rename_i e he
        split at h
        ·rename_i wL mC
         cases h
         have:=lF.get s e (by simp) he
         simp only[List.map_cons,ih wL mC,List.cons.injEq,and_true]
         simp[Array.getD_eq_getD_getElem?,this]
        ·cases h
       ·cases h
     refine oT hT hm c _ _ w1 a1 _ b5 (DL ui (Co hA hN mV (Zb hd)) kj) h3 ?_
     intro e E2 a2 w2 lF kZ o_
     cases e with
     | normal=>
      cases jL:lP E2 S with
      | none=>simp only[jL]at o_;exact o_.elim
      | some S7=>
       simp only[jL]at o_
       refine⟨⟨⟨lF.size,lF.defers,λt e _ he=>by cases he⟩,mV.trans kZ,E2,S7,lF,jL,o_.1⟩,?_⟩
       rw[lM E2 a2 lF S S7 jL,lM E1 a1 ui S vs kj]
       exact o_.2
     | exit i=>exact hq (.exit i) E2 a2 w2 lF (mV.trans kZ) o_
     | ret=>exact hq .ret E2 a2 w2 lF (mV.trans kZ) o_
   ·cases h
  ·cases h
 | .exit id,Q,E,w,a,Q',_,hA,h,hq=>wp_exit (hq (.exit id) E a w hA (iR.refl _ a) h)
 | .ret,Q,E,w,a,Q',_,hA,h,hq=>wp_ret (hq .ret E a w hA (iR.refl _ a) h)
end
def sk(P:Program):List ResultVar->Env->World->(List Value->Prop)->Prop
 | [],E,w,K=>K []
 | .tmp t::r,E,w,K=>match E.get t with
  | some e=>sk P r E w λvs=>K (e.val::vs)
  | none=>False
 | .cell t ty::r,E,w,K=>match E.get t with
  | some e=>match tk P ty with
   | .one=>cR e.val w λv=>sk P r E w λvs=>K (v::vs)
   | .agg k=>zj k e.val w λv=>sk P r E w λvs=>K (v::vs)
   | .bad=>False
  | none=>False
def AW:List Value->Value
 | [v]=>v
 | vs=>.tuple vs.toArray
def Bf:Nat->List Value->Env
 | _,[]=>[]
 | k,v::r=>(k,.v v)::Bf (k+1) r
def BA(P:Program)(T:List Bool)(JL JC:Marks)(fn:Func)(args:List Value)(w:World)(R:Value->World->Prop):Prop:=match fn.body with
 | some c=>lA P T fn.ntmps JL JC c (λe E w'=>match e with
  | .normal=>sk P fn.results.toList E w' λvs=>R (AW vs) w'
  | .ret=>sk P fn.results.toList E w' λvs=>R (AW vs) w'
  | .exit _=>False) (Bf 0 args) w
 | none=>False
def Bz(P:Program)(fn:Func):Bool:=match fn.body with
 | some c=>codeOk P fn.ntmps c
 | none=>false
def wC(tmps:Array Value):ResultVar->Sem Value
 | .tmp t=>pure (tmps.getD t undef)
 | .cell x t=>do loadVar t (<- asAddr (tmps.getD x undef))
theorem CI{P:Program}{n:Nat}{E:Env}{a:Act}(hA:fz [] n E a){w:World}:∀(l:List ResultVar) (K:List Value->Prop),sk P l E w K ->
  ∃vs,(l.mapM (wC a.tmps)).run P w= .ok vs w/\K vs
 | [],K,h=>⟨[],by simp,h⟩
 | .tmp t::r,K,h=>by
  unfold sk at h
  split at h
  ·rename_i e he
   obtain⟨vs,h1,h2⟩:=CI hA r _ h
   have:=hA.get t e (by simp) he
   have ju:a.tmps.getD t undef=e.val:=by simp[Array.getD_eq_getD_getElem?,this]
   refine⟨e.val::vs,?_,h2⟩
   have h0:(wC a.tmps (.tmp t)).run P w= .ok e.val w:=by show (pure (a.tmps.getD t undef):Sem Value).run P w=_;rw[ju];rfl
   simp only[List.mapM_cons,Sem.run_bind,h0,Result.andThen_ok,h1,Sem.run_pure]
  ·cases h
 | .cell x ty::r,K,h=>by
  unfold sk at h
  split at h
  ·rename_i e he
   have hx:=hA.get x e (by simp) he
   have ju:a.tmps.getD x undef=e.val:=by simp[Array.getD_eq_getD_getElem?,hx]
   split at h
   ·rename_i ht
    obtain⟨p,v,hp,hc,h⟩:=h
    obtain⟨vs,h1,h2⟩:=CI hA r _ h
    refine⟨v::vs,?_,h2⟩
    have h0:(wC a.tmps (.cell x ty)).run P w= .ok v w:=by
     show (do loadVar ty (<- asAddr (a.tmps.getD x undef)):Sem Value).run P w=_;rw[ju,hp];simp[asAddr,loadVar,(SW ht).1,hc]
    simp only[List.mapM_cons,Sem.run_bind,h0,Result.andThen_ok,h1,Sem.run_pure]
   ·rename_i k ht
    obtain⟨p,us,hp,hl,hc,h⟩:=h
    obtain⟨vs,h1,h2⟩:=CI hA r _ h
    subst hl
    refine⟨.agg us.toArray::vs,?_,h2⟩
    have h0:(wC a.tmps (.cell x ty)).run P w= .ok (.agg us.toArray) w:=by
     show (do loadVar ty (<- asAddr (a.tmps.getD x undef)):Sem Value).run P w=_;rw[ju,hp];simp[asAddr,loadVar,(AV ht).1,run_sizeOf (AV ht).2,run_loadCells_list w p us hc]
    simp only[List.mapM_cons,Sem.run_bind,h0,Result.andThen_ok,h1,Sem.run_pure]
   ·cases h
  ·cases h
theorem L3:∀(args:List Value) (k t:Nat) (e:hJ),(Bf k args).get t=some e->∃v,e= .v v/\k<=t/\args[t-k]?=some v
 | [],k,t,e,h=>by cases h
 | v::r,k,t,e,h=>by
  simp only[Bf,Env.get]at h
  split at h
  ·rename_i hb
   obtain rfl:=beq_iff.1 hb
   cases h
   exact⟨v,rfl,Nat.le_refl _,by simp⟩
  ·obtain⟨u,h1,h2,h3⟩:=L3 r (k+1) t e h
   refine⟨u,h1,by omega,?_⟩
   rw[show t-k=(t-(k+1))+1 by omega]
   simpa using h3
theorem VE{P:Program}{T:List Bool}{JL JC:Marks}(hT:Calls.nr P T)(hm:P.follows .mixedOrders=true){f:FuncId}{fn:Func}{args:List Value}{w:World}{R:Value->World->Prop}(hf:P.funcs[f]?=some fn)
  (b5:Bz P fn=true) (hlen:Nat.ble (uR args) fn.ntmps=true) (h:BA P T JL JC fn args w R):zU P f args w R:=by
 unfold BA at h
 unfold Bz at b5
 split at h
 ·rename_i c hc
  rw[hc]at b5
  have hl:args.length<=fn.ntmps:=by
   have:∀l:List Value,uR l=l.length:=λl=>by
    induction l with
    | nil=>rfl
    | cons v r ih=>simp[uR,ih]
   rw[this]at hlen
   exact Nat.le_of_ble_eq_true hlen
  refine calls_of_wp hf hc (oT hT hm c _ _ w _ _ b5 ⟨by simp;omega,rfl,λt e _ he=>?_⟩ h ?_)
  ·obtain⟨v,rfl,_,hv⟩:=L3 _ _ _ _ he
   simp only[Nat.sub_zero]at hv
   have dZ:=(List.getElem?_eq_some_iff.1 hv).1
   rw[Array.getElem?_append_left (by simpa using dZ)]
   show _=some v
   simpa using hv
  ·have fin:∀(E':Env) (a':Act) (w':World),fz [] fn.ntmps E' a'->sk P fn.results.toList E' w' (λvs=>R (AW vs) w') ->
     a'.defers=[]/\∃v,(results fn a'.tmps).run P w'= .ok v w'/\∃u,Ending.returned v= .returned u/\R u w':=by
    intro E' a' w' hA hr
    obtain⟨vs,h1,h2⟩:=CI hA _ _ hr
    refine⟨hA.defers,AW vs,?_,_,rfl,h2⟩
    have h3:(fn.results.mapM (wC a'.tmps)).run P w'= .ok vs.toArray w':=by
     rw[Array.mapM_eq_mapM_toList,Sem.run_map,h1];rfl
    have h4:results fn a'.tmps=(do
      let vs <- fn.results.mapM (wC a'.tmps)
      pure (if h:vs.size=1 then vs[0] else .tuple vs)):=rfl
    rw[h4,Sem.run_bind,h3]
    simp only[Result.andThen_ok,Sem.run_pure,Result.ok.injEq,and_true]
    match vs with
    | []=>rfl
    | [v]=>rfl
    | v::u::r=>simp[AW]
   intro e E' a' w' hA _ hQ
   cases e with
   | normal=>exact fin E' a' w' hA hQ
   | ret=>exact fin E' a' w' hA hQ
   | exit i=>cases hQ
 ·cases h
def uZ:List Bool->List Func->Bool
 | [],_=>true
 | true :: T, fn :: r => !(fn.name == "runtime.NumGoroutine") && !fn.body.isNone && uZ T r
 | false::T,_::r=>uZ T r
 | _::_,[]=>false
theorem Zh : ∀ (T : List Bool) (l : List Func), uZ T l = true -> ∀ f, T.getD f false = true -> ∃ fn, l[f]? = some fn /\ (fn.name == "runtime.NumGoroutine") = false /\ fn.body.isNone = false
 | [],l,_,f,h=>by simp at h
 | true::T,[],hk,f,h=>by simp[uZ]at hk
 | false::T,[],hk,f,h=>by simp[uZ]at hk
 | true::T,fn::r,hk,f,h=>by
  simp only[uZ,Bool.and_eq_true,Bool.not_eq_true']at hk
  cases f with
  | zero=>exact⟨fn,rfl,hk.1.1,hk.1.2⟩
  | succ f=>obtain⟨g,h1,h2⟩:=Zh T r hk.2 f (by simpa using h);exact⟨g,by simpa using h1,h2⟩
 | false::T,fn::r,hk,f,h=>by
  cases f with
  | zero=>simp at h
  | succ f=>obtain⟨g,h1,h2⟩:=Zh T r hk f (by simpa using h);exact⟨g,by simpa using h1,h2⟩
theorem Um(P:Program)(T:List Bool)(h:uZ T P.funcs.toList=true):Calls.nr P T:=λf hf=>by
 obtain⟨fn,h1,h2⟩:=Zh T _ h f hf
 exact⟨fn,by simpa using h1,h2⟩
end Go.Proofs.YtfenmffiidchcaaGreat
