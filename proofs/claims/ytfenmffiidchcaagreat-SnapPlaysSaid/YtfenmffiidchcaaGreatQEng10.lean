/- Part of the proof (my own). -/
import Derived.Test.YtfenmffiidchcaaGreatQEngG
namespace Go.Proofs.YtfenmffiidchcaaGreat
set_option linter.unusedVariables false
open Go.RowKit
def zj(w:World)(K:World->Prop):Prop:=K w.drew
def pj(P:Program)(T:List Bool)(n:Nat)(JL JC:Marks):Code->(Ex->Env->World->Prop)->Env->World->Prop
 | .skip,Q,E,w=>Q .normal E w
 | .region id ops draw,Q,E,w=>match draw with
  | false=>Dc P T n ops.toList (λE' w'=>Q .normal E' w') ops.toList E w
  | true=>zj w λw1=>GC P T n ops.toList (λE' w'=>Q .normal E' w') E w1
 | .seq a b,Q,E,w=>match JC.find (vp b) with
  | none=>pj P T n JL JC a (λe E' w'=>match e with
    | .normal=>pj P T n JL JC b Q E' w'
    | .exit i=>Q (.exit i) E' w'
    | .ret=>Q .ret E' w') E w
  | some (S,L)=>match BS (wr a) L with
   | true=>∃I:List Value->World->Prop,pj P T n JL JC a (λe E' w'=>match e with
     | .normal=>JE (pF E' S) λvs=>I vs w'
     | .exit i=>Q (.exit i) E' w'
     | .ret=>Q .ret E' w') E w/\DH (C6 S) λvs=>∀w',I vs w'->pj P T n JL JC b Q (DO (A_ E [] L) S vs) w'
   | false=>False
 | .cond c x y,Q,E,w=>match E.lk c with
  | some .t=>pj P T n JL JC x Q E w
  | some .f=>pj P T n JL JC y Q E w
  | some (.v v)=>g9 v (pj P T n JL JC x Q (o8 E c .t) w) (pj P T n JL JC y Q (o8 E c .f) w)
  | some .u=>False
  | none=>False
 | .block id c,Q,E,w=>pj P T n JL JC c (λe E' w'=>match e with
   | .normal=>Q .normal E' w'
   | .exit i=>match Nat.beq i id with
    | true=>Q .normal E' w'
    | false=>Q (.exit i) E' w'
   | .ret=>Q .ret E' w') E w
 | .loop c,Q,E,w=>match JL.find (vp c) with
  | some (S,L)=>match BS (wr c) L with
   | true=>JE (pF E S) λFK=>∃(I:List Value->World->Prop) (μ:List Value->World->Nat),I FK w/\DH (C6 S) λvs=>∀w',I vs w' ->
     pj P T n JL JC c (λe E' Bu=>match e with
      | .normal=>JE (pF E' S) λBs=>I Bs Bu/\μ Bs Bu<μ vs w'
      | .exit i=>Q (.exit i) E' Bu
      | .ret=>Q .ret E' Bu) (DO (A_ E [] L) S vs) w'
   | false=>False
  | none=>False
 | .exit id,Q,E,w=>Q (.exit id) E w
 | .ret,Q,E,w=>Q .ret E w
 | _,_,_,_=>False
def codeOk(P:Program)(n:Nat):Code->Bool
 | .region _ ops draw=>Fv P n ops.toList draw
 | .seq a b=>codeOk P n a && codeOk P n b
 | .cond _ a b=>codeOk P n a && codeOk P n b
 | .block _ c=>codeOk P n c
 | .loop c=>codeOk P n c
 | .scope c=>codeOk P n c
 | _=>true
section
variable {P:Program} {T:List Bool} {n:Nat} {JL JC:Marks}
theorem tH(hT:Calls.sm P T)(hm:P.follows .mixedOrders=true):∀(c:Code) (Q:Ex->Env->World->Prop) (E:Env) (w:World) (a:Act) (Q':Exit->Act->World->Prop),codeOk P n c=true->j_ [] n E a ->
  pj P T n JL JC c Q E w->(∀e E' a' w',j_ [] n E' a'->mr (wr c) a a'->Q e E' w'->Q' e.to a' w')->c.wp P Q' a w
 | .skip,Q,E,w,a,Q',_,hA,h,hq=>wp_skip (hq .normal E a w hA (mr.refl _ a) h)
 | .region id ops draw,Q,E,w,a,Q',cR,hA,h,hq=>by
  unfold pj at h
  cases draw with
  | false=>exact wp_region_list (IJ hT (W:=tI ops.toList) (λE' a' w' h1 h2 h3=>hq .normal E' a' w' h1 h2 h3) ops.toList E a w (λt ht=>ht) (.refl _ a) hA h)
  | true=>exact XL hT hm cR hA h (λE' a' w' h1 h2 h3=>hq .normal E' a' w' h1 h2 h3)
 | .seq x y,Q,E,w,a,Q',cR,hA,h,hq=>by
  simp only[codeOk,Bool.and_eq_true]at cR
  unfold pj at h
  split at h
  ·refine wp_seq (tH hT hm x _ E w a _ cR.1 hA h ?_)
   intro e E' a' w' my hk hQ
   cases e with
   | normal=>
    refine tH hT hm y _ E' w' a' _ cR.2 my hQ ?_
    intro e E2 a2 w2 pw ng tQ
    exact hq e E2 a2 w2 pw ((hk.mono λt ht=>List.mem_append_left _ ht).trans (ng.mono λt ht=>List.mem_append_right _ ht)) tQ
   | exit i=>exact hq (.exit i) E' a' w' my (hk.mono λt ht=>List.mem_append_left _ ht) hQ
   | ret=>exact hq .ret E' a' w' my (hk.mono λt ht=>List.mem_append_left _ ht) hQ
  ·rename_i S L hf
   split at h
   ·rename_i hd
    obtain⟨I,h1,h2⟩:=h
    refine wp_seq (tH hT hm x _ E w a _ cR.1 hA h1 ?_)
    intro e E' a' w' my hk hQ
    cases e with
    | normal=>
     cases hv:pF E' S with
     | none=>simp only[hv]at hQ;exact hQ.elim
     | some vs=>
      simp only[hv]at hQ
      have h3:=Zy _ _ h2 vs (by rw[Ip];exact Jv hv) w' hQ
      have hN:j_ [] n [] a':=⟨my.size,my.defers,λt e _ he=>by cases he⟩
      refine tH hT hm y _ _ w' a' _ cR.2 (Ge my (E8 hA hN hk (Zj hd)) hv) h3 ?_
      intro e E2 a2 w2 pw ng tQ
      exact hq e E2 a2 w2 pw ((hk.mono λt ht=>List.mem_append_left _ ht).trans (ng.mono λt ht=>List.mem_append_right _ ht)) tQ
    | exit i=>exact hq (.exit i) E' a' w' my (hk.mono λt ht=>List.mem_append_left _ ht) hQ
    | ret=>exact hq .ret E' a' w' my (hk.mono λt ht=>List.mem_append_left _ ht) hQ
   ·cases h
 | .cond c x y,Q,E,w,a,Q',cR,hA,h,hq=>by
  simp only[codeOk,Bool.and_eq_true]at cR
  unfold pj at h
  split at h
  ·rename_i he
   exact wp_cond_true (hA.lk (.nil c) he) (tH hT hm x _ E w a _ cR.1 hA h λe E' a' w' h1 h2 h3=>hq e E' a' w' h1 (h2.mono λt ht=>List.mem_append_left _ ht) h3)
  ·rename_i he
   exact wp_cond_false (hA.lk (.nil c) he) (tH hT hm y _ E w a _ cR.2 hA h λe E' a' w' h1 h2 h3=>hq e E' a' w' h1 (h2.mono λt ht=>List.mem_append_right _ ht) h3)
  ·rename_i v he
   obtain⟨r,rfl,h1,h2⟩:=h
   cases r with
   | true=>exact wp_cond_true (hA.lk (.nil c) he) (tH hT hm x _ _ w a _ cR.1 (hA.o8 he rfl) (h1 rfl) λe E' a' w' h1 h2 h3=>hq e E' a' w' h1 (h2.mono λt ht=>List.mem_append_left _ ht) h3)
   | false=>exact wp_cond_false (hA.lk (.nil c) he) (tH hT hm y _ _ w a _ cR.2 (hA.o8 he rfl) (h2 rfl) λe E' a' w' h1 h2 h3=>hq e E' a' w' h1 (h2.mono λt ht=>List.mem_append_right _ ht) h3)
  ·cases h
  ·cases h
 | .block id c,Q,E,w,a,Q',cR,hA,h,hq=>by
  unfold pj at h
  refine wp_block (tH hT hm c _ E w a _ cR hA h ?_)
  intro e E' a' w' my hk hQ
  cases e with
  | normal=>exact hq .normal E' a' w' my hk hQ
  | exit i=>
   simp only at hQ
   show Exit.inBlock id Q' (.exit i) a' w'
   split at hQ
   ·rename_i hb
    obtain rfl:=beq_iff.1 hb
    simpa [Exit.inBlock,Ex.to] using hq .normal E' a' w' my hk hQ
   ·rename_i hb
    have jJ:i≠id:=λe=>by rw[beq_iff.2 e]at hb;cases hb
    simpa [Exit.inBlock,Ex.to,jJ] using hq (.exit i) E' a' w' my hk hQ
  | ret=>exact hq .ret E' a' w' my hk hQ
 | .loop c,Q,E,w,a,Q',cR,hA,h,hq=>by
  unfold pj at h
  split at h
  ·rename_i S L hf
   split at h
   ·rename_i hd
    cases hv:pF E S with
    | none=>rw[hv]at h;exact h.elim
    | some FK=>
     rw[hv]at h
     obtain⟨I,μ,h1,h2⟩:=h
     refine wp_loop (λa' w'=>j_ [] n [] a'/\mr (wr c) a a'/\∃E' vs,j_ [] n E' a'/\pF E' S=some vs/\I vs w')
      (λa' w'=>μ (S.map λs=>a'.tmps.getD s undef) w') ⟨⟨hA.size,hA.defers,λt e _ he=>by cases he⟩,.refl _ a,E,FK,hA,hv,h1⟩ ?_
     rintro a1 w1 ⟨hN,rT,E1,vs,xC,n3,hI⟩
     have h3:=Zy _ _ h2 vs (by rw[Ip];exact Jv n3) w1 hI
     have pA:∀(E2:Env) (a2:Act),j_ [] n E2 a2->∀(S:List Nat) (vs:List Value),pF E2 S=some vs->(S.map λs=>a2.tmps.getD s undef)=vs:=by
      intro E2 a2 pw S
      induction S with
      | nil=>intro vs h;simp[pF]at h;subst h;rfl
      | cons s r ih=>
       intro vs h
       simp only[pF]at h
       split at h
       ·rename_i e he
        split at h
        ·rename_i Bs oW
         cases h
         have:=pw.get s e (by simp) he
         simp only[List.map_cons,ih Bs oW,List.cons.injEq,and_true]
         simp[Array.getD_eq_getD_getElem?,this]
        ·cases h
       ·cases h
     refine tH hT hm c _ _ w1 a1 _ cR (Ge xC (E8 hA hN rT (Zj hd)) n3) h3 ?_
     intro e E2 a2 w2 pw ng tQ
     cases e with
     | normal=>
      cases ni:pF E2 S with
      | none=>simp only[ni]at tQ;exact tQ.elim
      | some Vr=>
       simp only[ni]at tQ
       refine⟨⟨⟨pw.size,pw.defers,λt e _ he=>by cases he⟩,rT.trans ng,E2,Vr,pw,ni,tQ.1⟩,?_⟩
       rw[pA E2 a2 pw S Vr ni,pA E1 a1 xC S vs n3]
       exact tQ.2
     | exit i=>exact hq (.exit i) E2 a2 w2 pw (rT.trans ng) tQ
     | ret=>exact hq .ret E2 a2 w2 pw (rT.trans ng) tQ
   ·cases h
  ·cases h
 | .exit id,Q,E,w,a,Q',_,hA,h,hq=>wp_exit (hq (.exit id) E a w hA (mr.refl _ a) h)
 | .ret,Q,E,w,a,Q',_,hA,h,hq=>wp_ret (hq .ret E a w hA (mr.refl _ a) h)
end
def vV(P:Program):List ResultVar->Env->World->(List Value->Prop)->Prop
 | [],E,w,K=>K []
 | .tmp t::r,E,w,K=>match E.get t with
  | some e=>vV P r E w λvs=>K (e.val::vs)
  | none=>False
 | .cell t ty::r,E,w,K=>match E.get t with
  | some e=>match tk P ty with
   | .one=>cI e.val w λv=>vV P r E w λvs=>K (v::vs)
   | .agg k=>zh k e.val w λv=>vV P r E w λvs=>K (v::vs)
   | .bad=>False
  | none=>False
def Dr:List Value->Value
 | [v]=>v
 | vs=>.tuple vs.toArray
def DM:Nat->List Value->Env
 | _,[]=>[]
 | k,v::r=>(k,.v v)::DM (k+1) r
def Ea(P:Program)(T:List Bool)(JL JC:Marks)(fn:Func)(args:List Value)(w:World)(R:Value->World->Prop):Prop:=match fn.body with
 | some c=>pj P T fn.ntmps JL JC c (λe E w'=>match e with
  | .normal=>vV P fn.results.toList E w' λvs=>R (Dr vs) w'
  | .ret=>vV P fn.results.toList E w' λvs=>R (Dr vs) w'
  | .exit _=>False) (DM 0 args) w
 | none=>False
def D_(P:Program)(fn:Func):Bool:=match fn.body with
 | some c=>codeOk P fn.ntmps c
 | none=>false
def Bl(tmps:Array Value):ResultVar->Sem Value
 | .tmp t=>pure (tmps.getD t undef)
 | .cell x t=>do loadVar t (<- asAddr (tmps.getD x undef))
theorem Fw{P:Program}{n:Nat}{E:Env}{a:Act}(hA:j_ [] n E a){w:World}:∀(l:List ResultVar) (K:List Value->Prop),vV P l E w K ->
  ∃vs,(l.mapM (Bl a.tmps)).run P w= .ok vs w/\K vs
 | [],K,h=>⟨[],by simp,h⟩
 | .tmp t::r,K,h=>by
  unfold vV at h
  split at h
  ·rename_i e he
   obtain⟨vs,h1,h2⟩:=Fw hA r _ h
   have:=hA.get t e (by simp) he
   have mY:a.tmps.getD t undef=e.val:=by simp[Array.getD_eq_getD_getElem?,this]
   refine⟨e.val::vs,?_,h2⟩
   have h0:(Bl a.tmps (.tmp t)).run P w= .ok e.val w:=by show (pure (a.tmps.getD t undef):Sem Value).run P w=_;rw[mY];rfl
   simp only[List.mapM_cons,Sem.run_bind,h0,Result.andThen_ok,h1,Sem.run_pure]
  ·cases h
 | .cell x ty::r,K,h=>by
  unfold vV at h
  split at h
  ·rename_i e he
   have hx:=hA.get x e (by simp) he
   have mY:a.tmps.getD x undef=e.val:=by simp[Array.getD_eq_getD_getElem?,hx]
   split at h
   ·rename_i ht
    obtain⟨p,v,hp,hc,h⟩:=h
    obtain⟨vs,h1,h2⟩:=Fw hA r _ h
    refine⟨v::vs,?_,h2⟩
    have h0:(Bl a.tmps (.cell x ty)).run P w= .ok v w:=by
     show (do loadVar ty (<- asAddr (a.tmps.getD x undef)):Sem Value).run P w=_;rw[mY,hp];simp[asAddr,loadVar,(Vi ht).1,hc]
    simp only[List.mapM_cons,Sem.run_bind,h0,Result.andThen_ok,h1,Sem.run_pure]
   ·rename_i k ht
    obtain⟨p,us,hp,hl,hc,h⟩:=h
    obtain⟨vs,h1,h2⟩:=Fw hA r _ h
    subst hl
    refine⟨.agg us.toArray::vs,?_,h2⟩
    have h0:(Bl a.tmps (.cell x ty)).run P w= .ok (.agg us.toArray) w:=by
     show (do loadVar ty (<- asAddr (a.tmps.getD x undef)):Sem Value).run P w=_;rw[mY,hp];simp[asAddr,loadVar,(Dq ht).1,run_sizeOf (Dq ht).2,run_loadCells_list w p us hc]
    simp only[List.mapM_cons,Sem.run_bind,h0,Result.andThen_ok,h1,Sem.run_pure]
   ·cases h
  ·cases h
theorem O2:∀(args:List Value) (k t:Nat) (e:lH),(DM k args).get t=some e->∃v,e= .v v/\k<=t/\args[t-k]?=some v
 | [],k,t,e,h=>by cases h
 | v::r,k,t,e,h=>by
  simp only[DM,Env.get]at h
  split at h
  ·rename_i hb
   obtain rfl:=beq_iff.1 hb
   cases h
   exact⟨v,rfl,Nat.le_refl _,by simp⟩
  ·obtain⟨u,h1,h2,h3⟩:=O2 r (k+1) t e h
   refine⟨u,h1,by omega,?_⟩
   rw[show t-k=(t-(k+1))+1 by omega]
   simpa using h3
theorem ai1{P:Program}{T:List Bool}{JL JC:Marks}(hT:Calls.sm P T)(hm:P.follows .mixedOrders=true){f:FuncId}{fn:Func}{args:List Value}{w:World}{R:Value->World->Prop}(hf:P.funcs[f]?=some fn)
  (cR:D_ P fn=true) (hlen:Nat.ble (x8 args) fn.ntmps=true) (h:Ea P T JL JC fn args w R):zV P f args w R:=by
 unfold Ea at h
 unfold D_ at cR
 split at h
 ·rename_i c hc
  rw[hc]at cR
  have hl:args.length<=fn.ntmps:=by
   have:∀l:List Value,x8 l=l.length:=λl=>by
    induction l with
    | nil=>rfl
    | cons v r ih=>simp[x8,ih]
   rw[this]at hlen
   exact Nat.le_of_ble_eq_true hlen
  refine calls_of_wp hf hc (tH hT hm c _ _ w _ _ cR ⟨by simp;omega,rfl,λt e _ he=>?_⟩ h ?_)
  ·obtain⟨v,rfl,_,hv⟩:=O2 _ _ _ _ he
   simp only[Nat.sub_zero]at hv
   have iZ:=(List.getElem?_eq_some_iff.1 hv).1
   rw[Array.getElem?_append_left (by simpa using iZ)]
   show _=some v
   simpa using hv
  ·have fin:∀(E':Env) (a':Act) (w':World),j_ [] fn.ntmps E' a'->vV P fn.results.toList E' w' (λvs=>R (Dr vs) w') ->
     a'.defers=[]/\∃v,(results fn a'.tmps).run P w'= .ok v w'/\∃u,Ending.returned v= .returned u/\R u w':=by
    intro E' a' w' hA hr
    obtain⟨vs,h1,h2⟩:=Fw hA _ _ hr
    refine⟨hA.defers,Dr vs,?_,_,rfl,h2⟩
    have h3:(fn.results.mapM (Bl a'.tmps)).run P w'= .ok vs.toArray w':=by
     rw[Array.mapM_eq_mapM_toList,Sem.run_map,h1];rfl
    have h4:results fn a'.tmps=(do
      let vs <- fn.results.mapM (Bl a'.tmps)
      pure (if h:vs.size=1 then vs[0] else .tuple vs)):=rfl
    rw[h4,Sem.run_bind,h3]
    simp only[Result.andThen_ok,Sem.run_pure,Result.ok.injEq,and_true]
    match vs with
    | []=>rfl
    | [v]=>rfl
    | v::u::r=>simp[Dr]
   intro e E' a' w' hA _ hQ
   cases e with
   | normal=>exact fin E' a' w' hA hQ
   | ret=>exact fin E' a' w' hA hQ
   | exit i=>cases hQ
 ·cases h
def z_:List Bool->List Func->Bool
 | [],_=>true
 | true :: T, fn :: r => !(fn.name == "runtime.NumGoroutine") && !fn.body.isNone && z_ T r
 | false::T,_::r=>z_ T r
 | _::_,[]=>false
theorem Zo : ∀ (T : List Bool) (l : List Func), z_ T l = true -> ∀ f, T.getD f false = true -> ∃ fn, l[f]? = some fn /\ (fn.name == "runtime.NumGoroutine") = false /\ fn.body.isNone = false
 | [],l,_,f,h=>by simp at h
 | true::T,[],hk,f,h=>by simp[z_]at hk
 | false::T,[],hk,f,h=>by simp[z_]at hk
 | true::T,fn::r,hk,f,h=>by
  simp only[z_,Bool.and_eq_true,Bool.not_eq_true']at hk
  cases f with
  | zero=>exact⟨fn,rfl,hk.1.1,hk.1.2⟩
  | succ f=>obtain⟨g,h1,h2⟩:=Zo T r hk.2 f (by simpa using h);exact⟨g,by simpa using h1,h2⟩
 | false::T,fn::r,hk,f,h=>by
  cases f with
  | zero=>simp at h
  | succ f=>obtain⟨g,h1,h2⟩:=Zo T r hk f (by simpa using h);exact⟨g,by simpa using h1,h2⟩
theorem WR(P:Program)(T:List Bool)(h:z_ T P.funcs.toList=true):Calls.sm P T:=λf hf=>by
 obtain⟨fn,h1,h2⟩:=Zo T _ h f hf
 exact⟨fn,by simpa using h1,h2⟩
end Go.Proofs.YtfenmffiidchcaaGreat
