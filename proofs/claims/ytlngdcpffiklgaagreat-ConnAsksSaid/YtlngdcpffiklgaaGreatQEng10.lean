/- Part. -/
import Derived.Test.YtlngdcpffiklgaaGreatQEngG
namespace Go.Proofs.YtlngdcpffiklgaaGreat
set_option linter.all false
open Go.RowKit
def xxo:=@Nat.sub_zero
def zi(w:Ζ)(K:Ζ->Prop):Prop:=K w.drew
def ni(P:Program)(T:List Bool)(n:Nat)(JL JC:Marks):Code->(Ex->Env->Ζ->Prop)->Env->Ζ->Prop
 | .skip,Q,E,w=>Q .normal E w
 | .region id ops draw,Q,E,w=>match draw with
  | false=>DZ P T n ops.toList (λE' w'=>Q .normal E' w') ops.toList E w
  | true=>zi w λw1=>Ip P T n ops.toList (λE' w'=>Q .normal E' w') E w1
 | .seq a b,Q,E,w=>match JC.find (ux b) with
  | none=>ni P T n JL JC a (λe E' w'=>match e with
    | .normal=>ni P T n JL JC b Q E' w'
    | .exit i=>Q (.exit i) E' w'
    | .ret=>Q .ret E' w') E w
  | some (S,L)=>match CH (wr a) L with
   | true=>∃I:Ξ->Ζ->Prop,ni P T n JL JC a (λe E' w'=>match e with
     | .normal=>Lv (nK E' S) λvs=>I vs w'
     | .exit i=>Q (.exit i) E' w'
     | .ret=>Q .ret E' w') E w/\EJ (DK S) λvs=>∀w',I vs w'->ni P T n JL JC b Q (EO (BA E [] L) S vs) w'
   | false=>False
 | .cond c x y,Q,E,w=>match E.ia c with
  | some .t=>ni P T n JL JC x Q E w
  | some .f=>ni P T n JL JC y Q E w
  | some (.v v)=>df v (ni P T n JL JC x Q (m_ E c .t) w) (ni P T n JL JC y Q (m_ E c .f) w)
  | some .u=>False
  | none=>False
 | .block id c,Q,E,w=>ni P T n JL JC c (λe E' w'=>match e with
   | .normal=>Q .normal E' w'
   | .exit i=>match Nat.beq i id with
    | true=>Q .normal E' w'
    | false=>Q (.exit i) E' w'
   | .ret=>Q .ret E' w') E w
 | .loop c,Q,E,w=>match JL.find (ux c) with
  | some (S,L)=>match CH (wr c) L with
   | true=>Lv (nK E S) λLn=>∃(I:Ξ->Ζ->Prop) (μ:Ξ->Ζ->Nat),I Ln w/\EJ (DK S) λvs=>∀w',I vs w' ->
     ni P T n JL JC c (λe E' B1=>match e with
      | .normal=>Lv (nK E' S) λB0=>I B0 B1/\μ B0 B1<μ vs w'
      | .exit i=>Q (.exit i) E' B1
      | .ret=>Q .ret E' B1) (EO (BA E [] L) S vs) w'
   | false=>False
  | none=>False
 | .exit id,Q,E,w=>Q (.exit id) E w
 | .ret,Q,E,w=>Q .ret E w
 | _,_,_,_=>False
def codeOk(P:Program)(n:Nat):Code->Bool
 | .region _ ops draw=>GI P n ops.toList draw
 | .seq a b=>codeOk P n a && codeOk P n b
 | .cond _ a b=>codeOk P n a && codeOk P n b
 | .block _ c=>codeOk P n c
 | .loop c=>codeOk P n c
 | .scope c=>codeOk P n c
 | _=>true
section
variable {P:Program} {T:List Bool} {n:Nat} {JL JC:Marks}
def su(hT:Calls.pI P T)(hm:P.follows .mixedOrders=true):∀(c:Code) (Q:Ex->Env->Ζ->Prop) (E:Env) (w:Ζ) (a:Act) (Q':Exit->Act->Ζ->Prop),codeOk P n c=true->fH [] n E a ->
  ni P T n JL JC c Q E w->(∀e E' a' w',fH [] n E' a'->jB (wr c) a a'->Q e E' w'->Q' e.to a' w')->c.wp P Q' a w
 | .skip,Q,E,w,a,Q',_,hA,h,hq=>wp_skip (hq .normal E a w hA (jB.refl _ a) h)
 | .region id ops draw,Q,E,w,a,Q',cL,hA,h,hq=>by
  unfold ni at h;cases draw with
  | false=>exact wp_region_list (Ky hT (W:=sw ops.toList) (λE' a' w' h1 h2 h3=>hq .normal E' a' w' h1 h2 h3) ops.toList E a w (λt ht=>ht) (.refl _ a) hA h)
  | true=>exact bF5 hT hm cL hA h (λE' a' w' h1 h2 h3=>hq .normal E' a' w' h1 h2 h3)
 | .seq x y,Q,E,w,a,Q',cL,hA,h,hq=>by
  simp only[codeOk,zzu]at cL;unfold ni at h;split at h
  ·refine wp_seq (su hT hm x _ E w a _ cL.1 hA h ?_);intro e E' a' w' jj hk hQ;cases e with
   | normal=>
    refine su hT hm y _ E' w' a' _ cL.2 jj hQ ?_;intro e E2 a2 w2 pg fL sD;exact hq e E2 a2 w2 pg ((hk.mono λt ht=>yyo _ ht).trans (fL.mono λt ht=>xxm _ ht)) sD
   | exit i=>exact hq (.exit i) E' a' w' jj (hk.mono λt ht=>yyo _ ht) hQ
   | ret=>exact hq .ret E' a' w' jj (hk.mono λt ht=>yyo _ ht) hQ
  rename_i S L hf;split at h
  ·rename_i hd;obtain⟨I,h1,h2⟩:=h;refine wp_seq (su hT hm x _ E w a _ cL.1 hA h1 ?_);intro e E' a' w' jj hk hQ;cases e with
   | normal=>
    cases hv:nK E' S with
    | none=>simp only[hv]at hQ;exact hQ.elim
    | some vs=>
     simp only[hv]at hQ;have h3:=Zy _ _ h2 vs (by rw[J9];exact Lk hv) w' hQ;have hN:fH [] n [] a':=⟨jj.size,jj.defers,λt e _ he=>by cases he⟩;refine su hT hm y _ _ w' a' _ cL.2 (HV jj (Gf hA hN hk (y9 hd)) hv) h3 ?_;intro e E2 a2 w2 pg fL sD;exact hq e E2 a2 w2 pg ((hk.mono λt ht=>yyo _ ht).trans (fL.mono λt ht=>xxm _ ht)) sD
   | exit i=>exact hq (.exit i) E' a' w' jj (hk.mono λt ht=>yyo _ ht) hQ
   | ret=>exact hq .ret E' a' w' jj (hk.mono λt ht=>yyo _ ht) hQ
  cases h
 | .cond c x y,Q,E,w,a,Q',cL,hA,h,hq=>by
  simp only[codeOk,zzu]at cL;unfold ni at h;split at h
  ·rename_i he;exact wp_cond_true (hA.ia (.nil c) he) (su hT hm x _ E w a _ cL.1 hA h λe E' a' w' h1 h2 h3=>hq e E' a' w' h1 (h2.mono λt ht=>yyo _ ht) h3)
  ·rename_i he;exact wp_cond_false (hA.ia (.nil c) he) (su hT hm y _ E w a _ cL.2 hA h λe E' a' w' h1 h2 h3=>hq e E' a' w' h1 (h2.mono λt ht=>xxm _ ht) h3)
  ·rename_i v he;obtain⟨r,rfl,h1,h2⟩:=h;cases r with
   | true=>exact wp_cond_true (hA.ia (.nil c) he) (su hT hm x _ _ w a _ cL.1 (hA.m_ he rfl) (h1 rfl) λe E' a' w' h1 h2 h3=>hq e E' a' w' h1 (h2.mono λt ht=>yyo _ ht) h3)
   | false=>exact wp_cond_false (hA.ia (.nil c) he) (su hT hm y _ _ w a _ cL.2 (hA.m_ he rfl) (h2 rfl) λe E' a' w' h1 h2 h3=>hq e E' a' w' h1 (h2.mono λt ht=>xxm _ ht) h3)
  ·cases h
  cases h
 | .block id c,Q,E,w,a,Q',cL,hA,h,hq=>by
  unfold ni at h;refine wp_block (su hT hm c _ E w a _ cL hA h ?_);intro e E' a' w' jj hk hQ;cases e with
  | normal=>exact hq .normal E' a' w' jj hk hQ
  | exit i=>
   simp only at hQ;show Exit.inBlock id Q' (.exit i) a' w';split at hQ
   ·rename_i hb;obtain rfl:=beq_iff.1 hb;simpa [Exit.inBlock,Ex.to] using hq .normal E' a' w' jj hk hQ
   rename_i hb;have dO:i≠id:=λe=>by rw[beq_iff.2 e]at hb;cases hb
   simpa [Exit.inBlock,Ex.to,dO] using hq (.exit i) E' a' w' jj hk hQ
  | ret=>exact hq .ret E' a' w' jj hk hQ
 | .loop c,Q,E,w,a,Q',cL,hA,h,hq=>by
  unfold ni at h;split at h
  ·rename_i S L hf;split at h
   ·rename_i hd;cases hv:nK E S with
    | none=>rw[hv]at h;exact h.elim
    | some Ln=>
     rw[hv]at h
     obtain⟨I,μ,h1,h2⟩:=h;refine wp_loop (λa' w'=>fH [] n [] a'/\jB (wr c) a a'/\∃E' vs,fH [] n E' a'/\nK E' S=some vs/\I vs w')
      (λa' w'=>μ (S.map λs=>a'.tmps.getD s undef) w') ⟨⟨hA.size,hA.defers,λt e _ he=>by cases he⟩,.refl _ a,E,Ln,hA,hv,h1⟩ ?_
     rintro a1 w1 ⟨hN,jv,E1,vs,xu,rL,hI⟩;have h3:=Zy _ _ h2 vs (by rw[J9];exact Lk rL) w1 hI;have oM:∀(E2:Env) (a2:Act),fH [] n E2 a2->∀(S:Α) (vs:Ξ),nK E2 S=some vs->(S.map λs=>a2.tmps.getD s undef)=vs:=by
      intro E2 a2 pg S;induction S with
      | nil=>intro vs h;simp[nK]at h;subst h;rfl
      | cons s r ih=>
       intro vs h;simp only[nK]at h;split at h
       ·rename_i e he;split at h
        ·rename_i B0 q_;cases h;have:=pg.get s e (by simp) he;simp only[zzr,ih B0 q_,List.cons.injEq,and_true];simp[Array.getD_eq_getD_getElem?,this]
        cases h
       cases h
     refine su hT hm c _ _ w1 a1 _ cL (HV xu (Gf hA hN jv (y9 hd)) rL) h3 ?_;intro e E2 a2 w2 pg fL sD;cases e with
     | normal=>
      cases tS:nK E2 S with
      | none=>simp only[tS]at sD;exact sD.elim
      | some vs2=>
       simp only[tS]at sD;refine⟨⟨⟨pg.size,pg.defers,λt e _ he=>by cases he⟩,jv.trans fL,E2,vs2,pg,tS,sD.1⟩,?_⟩;rw[oM E2 a2 pg S vs2 tS,oM E1 a1 xu S vs rL];exact sD.2
     | exit i=>exact hq (.exit i) E2 a2 w2 pg (jv.trans fL) sD
     | ret=>exact hq .ret E2 a2 w2 pg (jv.trans fL) sD
   cases h
  cases h
 | .exit id,Q,E,w,a,Q',_,hA,h,hq=>wp_exit (hq (.exit id) E a w hA (jB.refl _ a) h)
 | .ret,Q,E,w,a,Q',_,hA,h,hq=>wp_ret (hq .ret E a w hA (jB.refl _ a) h)
end
def vh(P:Program):List ResultVar->Env->Ζ->(Ξ->Prop)->Prop
 | [],E,w,K=>K []
 | .tmp t::r,E,w,K=>match E.get t with
  | some e=>vh P r E w λvs=>K (e.val::vs)
  | none=>False
 | .cell t ty::r,E,w,K=>match E.get t with
  | some e=>match tk P ty with
   | .one=>cC e.val w λv=>vh P r E w λvs=>K (v::vs)
   | .agg k=>ze k e.val w λv=>vh P r E w λvs=>K (v::vs)
   | .bad=>False
  | none=>False
def Eg:Ξ->Ε
 | [v]=>v
 | vs=>.tuple vs.toArray
def EN:Nat->Ξ->Env
 | _,[]=>[]
 | k,v::r=>(k,.v v)::EN (k+1) r
def Fh(P:Program)(T:List Bool)(JL JC:Marks)(fn:Func)(args:Ξ)(w:Ζ)(R:Ε->Ζ->Prop):Prop:=match fn.body with
 | some c=>ni P T fn.ntmps JL JC c (λe E w'=>match e with
  | .normal=>vh P fn.results.toList E w' λvs=>R (Eg vs) w'
  | .ret=>vh P fn.results.toList E w' λvs=>R (Eg vs) w'
  | .exit _=>False) (EN 0 args) w
 | none=>False
def Fg(P:Program)(fn:Func):Bool:=match fn.body with
 | some c=>codeOk P fn.ntmps c
 | none=>false
def BP(tmps:Array Ε):ResultVar->Sem Ε
 | .tmp t=>pure (tmps.getD t undef)
 | .cell x t=>do loadVar t (<- asAddr (tmps.getD x undef))
def GJ{P:Program}{n:Nat}{E:Env}{a:Act}(hA:fH [] n E a){w:Ζ}:∀(l:List ResultVar) (K:Ξ->Prop),vh P l E w K ->
  ∃vs,(l.mapM (BP a.tmps)).run P w= .ok vs w/\K vs
 | [],K,h=>⟨[],by simp,h⟩
 | .tmp t::r,K,h=>by
  unfold vh at h;split at h
  ·rename_i e he;obtain⟨vs,h1,h2⟩:=GJ hA r _ h;have:=hA.get t e (by simp) he;have oN:a.tmps.getD t undef=e.val:=by simp[Array.getD_eq_getD_getElem?,this]
   refine⟨e.val::vs,?_,h2⟩;have h0:(BP a.tmps (.tmp t)).run P w= .ok e.val w:=by show (pure (a.tmps.getD t undef):Sem Ε).run P w=_;rw[oN];rfl
   simp only[List.mapM_cons,Sem.run_bind,h0,Result.andThen_ok,h1,Sem.run_pure]
  cases h
 | .cell x ty::r,K,h=>by
  unfold vh at h;split at h
  ·rename_i e he;have hx:=hA.get x e (by simp) he;have oN:a.tmps.getD x undef=e.val:=by simp[Array.getD_eq_getD_getElem?,hx]
   split at h
   ·rename_i ht;obtain⟨p,v,hp,hc,h⟩:=h;obtain⟨vs,h1,h2⟩:=GJ hA r _ h;refine⟨v::vs,?_,h2⟩;have h0:(BP a.tmps (.cell x ty)).run P w= .ok v w:=by
     show (do loadVar ty (<- asAddr (a.tmps.getD x undef)):Sem Ε).run P w=_;rw[oN,hp];simp[asAddr,loadVar,(aik ht).1,hc]
    simp only[List.mapM_cons,Sem.run_bind,h0,Result.andThen_ok,h1,Sem.run_pure]
   ·rename_i k ht;obtain⟨p,us,hp,hl,hc,h⟩:=h;obtain⟨vs,h1,h2⟩:=GJ hA r _ h;subst hl;refine⟨.agg us.toArray::vs,?_,h2⟩;have h0:(BP a.tmps (.cell x ty)).run P w= .ok (.agg us.toArray) w:=by
     show (do loadVar ty (<- asAddr (a.tmps.getD x undef)):Sem Ε).run P w=_;rw[oN,hp];simp[asAddr,loadVar,(Ef ht).1,run_sizeOf (Ef ht).2,vvc w p us hc]
    simp only[List.mapM_cons,Sem.run_bind,h0,Result.andThen_ok,h1,Sem.run_pure]
   cases h
  cases h
def RY:∀(args:Ξ) (k t:Nat) (e:iJ),(EN k args).get t=some e->∃v,e= .v v/\k<=t/\args[t-k]?=some v
 | [],k,t,e,h=>by cases h
 | v::r,k,t,e,h=>by
  simp only[EN,Env.get]at h;split at h
  ·rename_i hb;obtain rfl:=beq_iff.1 hb;cases h;exact⟨v,rfl,zzi _,by simp⟩
  obtain⟨u,h1,h2,h3⟩:=RY r (k+1) t e h;refine⟨u,h1,by omega,?_⟩;rw[show t-k=(t-(k+1))+1 by omega];simpa using h3
def bWe{P:Program}{T:List Bool}{JL JC:Marks}(hT:Calls.pI P T)(hm:P.follows .mixedOrders=true){f:FuncId}{fn:Func}{args:Ξ}{w:Ζ}{R:Ε->Ζ->Prop}(hf:P.funcs[f]?=some fn)
  (cL:Fg P fn=true) (hlen:Nat.ble (y_ args) fn.ntmps=true) (h:Fh P T JL JC fn args w R):zB P f args w R:=by
 unfold Fh at h;unfold Fg at cL;split at h
 ·rename_i c hc;rw[hc]at cL
  have hl:args.length<=fn.ntmps:=by
   have:∀l:Ξ,y_ l=l.length:=λl=>by
    induction l with
    | nil=>rfl
    | cons v r ih=>simp[y_,ih]
   rw[this]at hlen
   exact Nat.le_of_ble_eq_true hlen
  refine calls_of_wp hf hc (su hT hm c _ _ w _ _ cL ⟨by simp;omega,rfl,λt e _ he=>?_⟩ h ?_)
  ·obtain⟨v,rfl,_,hv⟩:=RY _ _ _ _ he;simp only[xxo]at hv;have dj:=(zzf.1 hv).1;rw[Array.getElem?_append_left (by simpa using dj)];show _=some v;simpa using hv
  have fin:∀(E':Env) (a':Act) (w':Ζ),fH [] fn.ntmps E' a'->vh P fn.results.toList E' w' (λvs=>R (Eg vs) w') ->
    a'.defers=[]/\∃v,(results fn a'.tmps).run P w'= .ok v w'/\∃u,Ending.returned v= .returned u/\R u w':=by
   intro E' a' w' hA hr;obtain⟨vs,h1,h2⟩:=GJ hA _ _ hr;refine⟨hA.defers,Eg vs,?_,_,rfl,h2⟩;have h3:(fn.results.mapM (BP a'.tmps)).run P w'= .ok vs.toArray w':=by
    rw[Array.mapM_eq_mapM_toList,Sem.run_map,h1];rfl
   have h4:results fn a'.tmps=(do
     let vs <- fn.results.mapM (BP a'.tmps)
     pure (if h:vs.size=1 then vs[0] else .tuple vs)):=rfl
   rw[h4,Sem.run_bind,h3];simp only[Result.andThen_ok,Sem.run_pure,Result.ok.injEq,and_true]
   match vs with
   | []=>rfl
   | [v]=>rfl
   | v::u::r=>simp[Eg]
  intro e E' a' w' hA _ hQ;cases e with
  | normal=>exact fin E' a' w' hA hQ
  | ret=>exact fin E' a' w' hA hQ
  | exit i=>cases hQ
 cases h
def Al:List Bool->List Func->Bool
 | [],_=>true
 | true :: T, fn :: r => !(fn.name == "runtime.NumGoroutine") && !fn.body.isNone && Al T r
 | false::T,_::r=>Al T r
 | _::_,[]=>false
def Zk : ∀ (T : List Bool) (l : List Func), Al T l = true -> ∀ f, T.getD f false = true -> ∃ fn, l[f]? = some fn /\ (fn.name == "runtime.NumGoroutine") = false /\ fn.body.isNone = false
 | [],l,_,f,h=>by simp at h
 | true::T,[],hk,f,h=>by simp[Al]at hk
 | false::T,[],hk,f,h=>by simp[Al]at hk
 | true::T,fn::r,hk,f,h=>by
  simp only[Al,zzu,wwn]at hk;cases f with
  | zero=>exact⟨fn,rfl,hk.1.1,hk.1.2⟩
  | succ f=>obtain⟨g,h1,h2⟩:=Zk T r hk.2 f (by simpa using h);exact⟨g,by simpa using h1,h2⟩
 | false::T,fn::r,hk,f,h=>by
  cases f with
  | zero=>simp at h
  | succ f=>obtain⟨g,h1,h2⟩:=Zk T r hk f (by simpa using h);exact⟨g,by simpa using h1,h2⟩
def a_n(P:Program)(T:List Bool)(h:Al T P.funcs.toList=true):Calls.pI P T:=λf hf=>by
 obtain⟨fn,h1,h2⟩:=Zk T _ h f hf;exact⟨fn,by simpa using h1,h2⟩
