/- Part. -/
import Derived.Test.YtmkllimamejcgaaGreatQEngG
namespace Go.Proofs.YtmkllimamejcgaaGreat
set_option linter.all false
open Go.RowKit
def wwv:=@Nat.sub_zero
def zi(w:Ζ)(K:Ζ->Prop):Prop:=K w.drew
def mW(P:Program)(T:List Bool)(n:Nat)(JL JC:Marks):Code->(Ex->Env->Ζ->Prop)->Env->Ζ->Prop
 | .skip,Q,E,w=>Q .normal E w
 | .region id ops draw,Q,E,w=>match draw with
  | false=>DL P T n ops.toList (λE' w'=>Q .normal E' w') ops.toList E w
  | true=>zi w λw1=>HV P T n ops.toList (λE' w'=>Q .normal E' w') E w1
 | .seq a b,Q,E,w=>match JC.find (uk b) with
  | none=>mW P T n JL JC a (λe E' w'=>match e with
    | .normal=>mW P T n JL JC b Q E' w'
    | .exit i=>Q (.exit i) E' w'
    | .ret=>Q .ret E' w') E w
  | some (S,L)=>match Ct (wr a) L with
   | true=>∃I:Ξ->Ζ->Prop,mW P T n JL JC a (λe E' w'=>match e with
     | .normal=>K_ (nu E' S) λvs=>I vs w'
     | .exit i=>Q (.exit i) E' w'
     | .ret=>Q .ret E' w') E w/\En (Dz S) λvs=>∀w',I vs w'->mW P T n JL JC b Q (Ev (Bq E [] L) S vs) w'
   | false=>False
 | .cond c x y,Q,E,w=>match E.hY c with
  | some .t=>mW P T n JL JC x Q E w
  | some .f=>mW P T n JL JC y Q E w
  | some (.v v)=>dm v (mW P T n JL JC x Q (mO E c .t) w) (mW P T n JL JC y Q (mO E c .f) w)
  | some .u=>False
  | none=>False
 | .block id c,Q,E,w=>mW P T n JL JC c (λe E' w'=>match e with
   | .normal=>Q .normal E' w'
   | .exit i=>match Nat.beq i id with
    | true=>Q .normal E' w'
    | false=>Q (.exit i) E' w'
   | .ret=>Q .ret E' w') E w
 | .loop c,Q,E,w=>match JL.find (uk c) with
  | some (S,L)=>match Ct (wr c) L with
   | true=>K_ (nu E S) λK3=>∃(I:Ξ->Ζ->Prop) (μ:Ξ->Ζ->Nat),I K3 w/\En (Dz S) λvs=>∀w',I vs w' ->
     mW P T n JL JC c (λe E' BU=>match e with
      | .normal=>K_ (nu E' S) λBT=>I BT BU/\μ BT BU<μ vs w'
      | .exit i=>Q (.exit i) E' BU
      | .ret=>Q .ret E' BU) (Ev (Bq E [] L) S vs) w'
   | false=>False
  | none=>False
 | .exit id,Q,E,w=>Q (.exit id) E w
 | .ret,Q,E,w=>Q .ret E w
 | _,_,_,_=>False
def codeOk(P:Program)(n:Nat):Code->Bool
 | .region _ ops draw=>Gq P n ops.toList draw
 | .seq a b=>codeOk P n a && codeOk P n b
 | .cond _ a b=>codeOk P n a && codeOk P n b
 | .block _ c=>codeOk P n c
 | .loop c=>codeOk P n c
 | .scope c=>codeOk P n c
 | _=>true
section
variable {P:Program} {T:List Bool} {n:Nat} {JL JC:Marks}
def sh(hT:Calls.pB P T)(hm:P.follows .mixedOrders=true):∀(c:Code) (Q:Ex->Env->Ζ->Prop) (E:Env) (w:Ζ) (a:Act) (Q':Exit->Act->Ζ->Prop),codeOk P n c=true->fD [] n E a ->
  mW P T n JL JC c Q E w->(∀e E' a' w',fD [] n E' a'->jt (wr c) a a'->Q e E' w'->Q' e.to a' w')->c.wp P Q' a w
 | .skip,Q,E,w,a,Q',_,hA,h,hq=>wp_skip (hq .normal E a w hA (jt.refl _ a) h)
 | .region id ops draw,Q,E,w,a,Q',cH,hA,h,hq=>by
  unfold mW at h;cases draw with
  | false=>exact wp_region_list (Kc hT (W:=sj ops.toList) (λE' a' w' h1 h2 h3=>hq .normal E' a' w' h1 h2 h3) ops.toList E a w (λt ht=>ht) (.refl _ a) hA h)
  | true=>exact bwq hT hm cH hA h (λE' a' w' h1 h2 h3=>hq .normal E' a' w' h1 h2 h3)
 | .seq x y,Q,E,w,a,Q',cH,hA,h,hq=>by
  simp only[codeOk,zzu]at cH;unfold mW at h;split at h
  ·refine wp_seq (sh hT hm x _ E w a _ cH.1 hA h ?_);intro e E' a' w' iZ hk hQ;cases e with
   | normal=>
    refine sh hT hm y _ E' w' a' _ cH.2 iZ hQ ?_;intro e E2 a2 w2 oZ fW sw;exact hq e E2 a2 w2 oZ ((hk.mono λt ht=>yyo _ ht).trans (fW.mono λt ht=>xxl _ ht)) sw
   | exit i=>exact hq (.exit i) E' a' w' iZ (hk.mono λt ht=>yyo _ ht) hQ
   | ret=>exact hq .ret E' a' w' iZ (hk.mono λt ht=>yyo _ ht) hQ
  rename_i S L hf;split at h
  ·rename_i hd;obtain⟨I,h1,h2⟩:=h;refine wp_seq (sh hT hm x _ E w a _ cH.1 hA h1 ?_);intro e E' a' w' iZ hk hQ;cases e with
   | normal=>
    cases hv:nu E' S with
    | none=>simp only[hv]at hQ;exact hQ.elim
    | some vs=>
     simp only[hv]at hQ;have h3:=Zr _ _ h2 vs (by rw[JK];exact K1 hv) w' hQ;have hN:fD [] n [] a':=⟨iZ.size,iZ.defers,λt e _ he=>by cases he⟩;refine sh hT hm y _ _ w' a' _ cH.2 (HD iZ (F3 hA hN hk (y3 hd)) hv) h3 ?_;intro e E2 a2 w2 oZ fW sw;exact hq e E2 a2 w2 oZ ((hk.mono λt ht=>yyo _ ht).trans (fW.mono λt ht=>xxl _ ht)) sw
   | exit i=>exact hq (.exit i) E' a' w' iZ (hk.mono λt ht=>yyo _ ht) hQ
   | ret=>exact hq .ret E' a' w' iZ (hk.mono λt ht=>yyo _ ht) hQ
  cases h
 | .cond c x y,Q,E,w,a,Q',cH,hA,h,hq=>by
  simp only[codeOk,zzu]at cH;unfold mW at h;split at h
  ·rename_i he;exact wp_cond_true (hA.hY (.nil c) he) (sh hT hm x _ E w a _ cH.1 hA h λe E' a' w' h1 h2 h3=>hq e E' a' w' h1 (h2.mono λt ht=>yyo _ ht) h3)
  ·rename_i he;exact wp_cond_false (hA.hY (.nil c) he) (sh hT hm y _ E w a _ cH.2 hA h λe E' a' w' h1 h2 h3=>hq e E' a' w' h1 (h2.mono λt ht=>xxl _ ht) h3)
  ·rename_i v he;obtain⟨r,rfl,h1,h2⟩:=h;cases r with
   | true=>exact wp_cond_true (hA.hY (.nil c) he) (sh hT hm x _ _ w a _ cH.1 (hA.mO he rfl) (h1 rfl) λe E' a' w' h1 h2 h3=>hq e E' a' w' h1 (h2.mono λt ht=>yyo _ ht) h3)
   | false=>exact wp_cond_false (hA.hY (.nil c) he) (sh hT hm y _ _ w a _ cH.2 (hA.mO he rfl) (h2 rfl) λe E' a' w' h1 h2 h3=>hq e E' a' w' h1 (h2.mono λt ht=>xxl _ ht) h3)
  ·cases h
  cases h
 | .block id c,Q,E,w,a,Q',cH,hA,h,hq=>by
  unfold mW at h;refine wp_block (sh hT hm c _ E w a _ cH hA h ?_);intro e E' a' w' iZ hk hQ;cases e with
  | normal=>exact hq .normal E' a' w' iZ hk hQ
  | exit i=>
   simp only at hQ;show Exit.inBlock id Q' (.exit i) a' w';split at hQ
   ·rename_i hb;obtain rfl:=beq_iff.1 hb;simpa [Exit.inBlock,Ex.to] using hq .normal E' a' w' iZ hk hQ
   rename_i hb;have dQ:i≠id:=λe=>by rw[beq_iff.2 e]at hb;cases hb
   simpa [Exit.inBlock,Ex.to,dQ] using hq (.exit i) E' a' w' iZ hk hQ
  | ret=>exact hq .ret E' a' w' iZ hk hQ
 | .loop c,Q,E,w,a,Q',cH,hA,h,hq=>by
  unfold mW at h;split at h
  ·rename_i S L hf;split at h
   ·rename_i hd;cases hv:nu E S with
    | none=>rw[hv]at h;exact h.elim
    | some K3=>
     rw[hv]at h
     obtain⟨I,μ,h1,h2⟩:=h;refine wp_loop (λa' w'=>fD [] n [] a'/\jt (wr c) a a'/\∃E' vs,fD [] n E' a'/\nu E' S=some vs/\I vs w')
      (λa' w'=>μ (S.map λs=>a'.tmps.getD s undef) w') ⟨⟨hA.size,hA.defers,λt e _ he=>by cases he⟩,.refl _ a,E,K3,hA,hv,h1⟩ ?_
     rintro a1 w1 ⟨hN,nN,E1,vs,xg,rF,hI⟩;have h3:=Zr _ _ h2 vs (by rw[JK];exact K1 rF) w1 hI;have oC:∀(E2:Env) (a2:Act),fD [] n E2 a2->∀(S:Α) (vs:Ξ),nu E2 S=some vs->(S.map λs=>a2.tmps.getD s undef)=vs:=by
      intro E2 a2 oZ S;induction S with
      | nil=>intro vs h;simp[nu]at h;subst h;rfl
      | cons s r ih=>
       intro vs h;simp only[nu]at h;split at h
       ·rename_i e he;split at h
        ·rename_i BT pZ;cases h;have:=oZ.get s e (by simp) he;simp only[zzo,ih BT pZ,List.cons.injEq,and_true];simp[Array.getD_eq_getD_getElem?,this]
        cases h
       cases h
     refine sh hT hm c _ _ w1 a1 _ cH (HD xg (F3 hA hN nN (y3 hd)) rF) h3 ?_;intro e E2 a2 w2 oZ fW sw;cases e with
     | normal=>
      cases tK:nu E2 S with
      | none=>simp only[tK]at sw;exact sw.elim
      | some X2=>
       simp only[tK]at sw;refine⟨⟨⟨oZ.size,oZ.defers,λt e _ he=>by cases he⟩,nN.trans fW,E2,X2,oZ,tK,sw.1⟩,?_⟩;rw[oC E2 a2 oZ S X2 tK,oC E1 a1 xg S vs rF];exact sw.2
     | exit i=>exact hq (.exit i) E2 a2 w2 oZ (nN.trans fW) sw
     | ret=>exact hq .ret E2 a2 w2 oZ (nN.trans fW) sw
   cases h
  cases h
 | .exit id,Q,E,w,a,Q',_,hA,h,hq=>wp_exit (hq (.exit id) E a w hA (jt.refl _ a) h)
 | .ret,Q,E,w,a,Q',_,hA,h,hq=>wp_ret (hq .ret E a w hA (jt.refl _ a) h)
end
def uV(P:Program):List ResultVar->Env->Ζ->(Ξ->Prop)->Prop
 | [],E,w,K=>K []
 | .tmp t::r,E,w,K=>match E.get t with
  | some e=>uV P r E w λvs=>K (e.val::vs)
  | none=>False
 | .cell t ty::r,E,w,K=>match E.get t with
  | some e=>match tk P ty with
   | .one=>cn e.val w λv=>uV P r E w λvs=>K (v::vs)
   | .agg k=>zg k e.val w λv=>uV P r E w λvs=>K (v::vs)
   | .bad=>False
  | none=>False
def D2:Ξ->Ε
 | [v]=>v
 | vs=>.tuple vs.toArray
def Eu:Nat->Ξ->Env
 | _,[]=>[]
 | k,v::r=>(k,.v v)::Eu (k+1) r
def EX(P:Program)(T:List Bool)(JL JC:Marks)(fn:Func)(args:Ξ)(w:Ζ)(R:Ε->Ζ->Prop):Prop:=match fn.body with
 | some c=>mW P T fn.ntmps JL JC c (λe E w'=>match e with
  | .normal=>uV P fn.results.toList E w' λvs=>R (D2 vs) w'
  | .ret=>uV P fn.results.toList E w' λvs=>R (D2 vs) w'
  | .exit _=>False) (Eu 0 args) w
 | none=>False
def EW(P:Program)(fn:Func):Bool:=match fn.body with
 | some c=>codeOk P fn.ntmps c
 | none=>false
def BI(tmps:Array Ε):ResultVar->Sem Ε
 | .tmp t=>pure (tmps.getD t undef)
 | .cell x t=>do loadVar t (<- asAddr (tmps.getD x undef))
def Gr{P:Program}{n:Nat}{E:Env}{a:Act}(hA:fD [] n E a){w:Ζ}:∀(l:List ResultVar) (K:Ξ->Prop),uV P l E w K ->
  ∃vs,(l.mapM (BI a.tmps)).run P w= .ok vs w/\K vs
 | [],K,h=>⟨[],by simp,h⟩
 | .tmp t::r,K,h=>by
  unfold uV at h;split at h
  ·rename_i e he;obtain⟨vs,h1,h2⟩:=Gr hA r _ h;have:=hA.get t e (by simp) he;have nh:a.tmps.getD t undef=e.val:=by simp[Array.getD_eq_getD_getElem?,this]
   refine⟨e.val::vs,?_,h2⟩;have h0:(BI a.tmps (.tmp t)).run P w= .ok e.val w:=by show (pure (a.tmps.getD t undef):Sem Ε).run P w=_;rw[nh];rfl
   simp only[List.mapM_cons,Sem.run_bind,h0,Result.andThen_ok,h1,Sem.run_pure]
  cases h
 | .cell x ty::r,K,h=>by
  unfold uV at h;split at h
  ·rename_i e he;have hx:=hA.get x e (by simp) he;have nh:a.tmps.getD x undef=e.val:=by simp[Array.getD_eq_getD_getElem?,hx]
   split at h
   ·rename_i ht;obtain⟨p,v,hp,hc,h⟩:=h;obtain⟨vs,h1,h2⟩:=Gr hA r _ h;refine⟨v::vs,?_,h2⟩;have h0:(BI a.tmps (.cell x ty)).run P w= .ok v w:=by
     show (do loadVar ty (<- asAddr (a.tmps.getD x undef)):Sem Ε).run P w=_;rw[nh,hp];simp[asAddr,loadVar,(XC ht).1,hc]
    simp only[List.mapM_cons,Sem.run_bind,h0,Result.andThen_ok,h1,Sem.run_pure]
   ·rename_i k ht;obtain⟨p,us,hp,hl,hc,h⟩:=h;obtain⟨vs,h1,h2⟩:=Gr hA r _ h;subst hl;refine⟨.agg us.toArray::vs,?_,h2⟩;have h0:(BI a.tmps (.cell x ty)).run P w= .ok (.agg us.toArray) w:=by
     show (do loadVar ty (<- asAddr (a.tmps.getD x undef)):Sem Ε).run P w=_;rw[nh,hp];simp[asAddr,loadVar,(D1 ht).1,run_sizeOf (D1 ht).2,ww9 w p us hc]
    simp only[List.mapM_cons,Sem.run_bind,h0,Result.andThen_ok,h1,Sem.run_pure]
   cases h
  cases h
def Rl:∀(args:Ξ) (k t:Nat) (e:iC),(Eu k args).get t=some e->∃v,e= .v v/\k<=t/\args[t-k]?=some v
 | [],k,t,e,h=>by cases h
 | v::r,k,t,e,h=>by
  simp only[Eu,Env.get]at h;split at h
  ·rename_i hb;obtain rfl:=beq_iff.1 hb;cases h;exact⟨v,rfl,zzj _,by simp⟩
  obtain⟨u,h1,h2,h3⟩:=Rl r (k+1) t e h;refine⟨u,h1,by omega,?_⟩;rw[show t-k=(t-(k+1))+1 by omega];simpa using h3
def bIw{P:Program}{T:List Bool}{JL JC:Marks}(hT:Calls.pB P T)(hm:P.follows .mixedOrders=true){f:FuncId}{fn:Func}{args:Ξ}{w:Ζ}{R:Ε->Ζ->Prop}(hf:P.funcs[f]?=some fn)
  (cH:EW P fn=true) (hlen:Nat.ble (xV args) fn.ntmps=true) (h:EX P T JL JC fn args w R):zQ P f args w R:=by
 unfold EX at h;unfold EW at cH;split at h
 ·rename_i c hc;rw[hc]at cH
  have hl:args.length<=fn.ntmps:=by
   have:∀l:Ξ,xV l=l.length:=λl=>by
    induction l with
    | nil=>rfl
    | cons v r ih=>simp[xV,ih]
   rw[this]at hlen
   exact Nat.le_of_ble_eq_true hlen
  refine calls_of_wp hf hc (sh hT hm c _ _ w _ _ cH ⟨by simp;omega,rfl,λt e _ he=>?_⟩ h ?_)
  ·obtain⟨v,rfl,_,hv⟩:=Rl _ _ _ _ he;simp only[wwv]at hv;have de:=(zzf.1 hv).1;rw[Array.getElem?_append_left (by simpa using de)];show _=some v;simpa using hv
  have fin:∀(E':Env) (a':Act) (w':Ζ),fD [] fn.ntmps E' a'->uV P fn.results.toList E' w' (λvs=>R (D2 vs) w') ->
    a'.defers=[]/\∃v,(results fn a'.tmps).run P w'= .ok v w'/\∃u,Ending.returned v= .returned u/\R u w':=by
   intro E' a' w' hA hr;obtain⟨vs,h1,h2⟩:=Gr hA _ _ hr;refine⟨hA.defers,D2 vs,?_,_,rfl,h2⟩;have h3:(fn.results.mapM (BI a'.tmps)).run P w'= .ok vs.toArray w':=by
    rw[Array.mapM_eq_mapM_toList,Sem.run_map,h1];rfl
   have h4:results fn a'.tmps=(do
     let vs <- fn.results.mapM (BI a'.tmps)
     pure (if h:vs.size=1 then vs[0] else .tuple vs)):=rfl
   rw[h4,Sem.run_bind,h3];simp only[Result.andThen_ok,Sem.run_pure,Result.ok.injEq,and_true]
   match vs with
   | []=>rfl
   | [v]=>rfl
   | v::u::r=>simp[D2]
  intro e E' a' w' hA _ hQ;cases e with
  | normal=>exact fin E' a' w' hA hQ
  | ret=>exact fin E' a' w' hA hQ
  | exit i=>cases hQ
 cases h
def Ac:List Bool->List Func->Bool
 | [],_=>true
 | true :: T, fn :: r => !(fn.name == "runtime.NumGoroutine") && !fn.body.isNone && Ac T r
 | false::T,_::r=>Ac T r
 | _::_,[]=>false
def Zd : ∀ (T : List Bool) (l : List Func), Ac T l = true -> ∀ f, T.getD f false = true -> ∃ fn, l[f]? = some fn /\ (fn.name == "runtime.NumGoroutine") = false /\ fn.body.isNone = false
 | [],l,_,f,h=>by simp at h
 | true::T,[],hk,f,h=>by simp[Ac]at hk
 | false::T,[],hk,f,h=>by simp[Ac]at hk
 | true::T,fn::r,hk,f,h=>by
  simp only[Ac,zzu,wwk]at hk;cases f with
  | zero=>exact⟨fn,rfl,hk.1.1,hk.1.2⟩
  | succ f=>obtain⟨g,h1,h2⟩:=Zd T r hk.2 f (by simpa using h);exact⟨g,by simpa using h1,h2⟩
 | false::T,fn::r,hk,f,h=>by
  cases f with
  | zero=>simp at h
  | succ f=>obtain⟨g,h1,h2⟩:=Zd T r hk f (by simpa using h);exact⟨g,by simpa using h1,h2⟩
def aR5(P:Program)(T:List Bool)(h:Ac T P.funcs.toList=true):Calls.pB P T:=λf hf=>by
 obtain⟨fn,h1,h2⟩:=Zd T _ h f hf;exact⟨fn,by simpa using h1,h2⟩
