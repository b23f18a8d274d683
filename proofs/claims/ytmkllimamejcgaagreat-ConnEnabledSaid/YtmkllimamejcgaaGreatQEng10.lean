/- Part of the proof. -/
import Derived.Test.YtmkllimamejcgaaGreatQEngG
namespace Go.Proofs.YtmkllimamejcgaaGreat
set_option linter.all false
open Go.RowKit
def zj(w:World)(K:World->Prop):Prop:=K w.drew
def sc(P:Program)(T:List Bool)(n:Nat)(JL JC:Marks):Code->(Ex->Env->World->Prop)->Env->World->Prop
 | .skip,Q,E,w=>Q .normal E w
 | .region id ops draw,Q,E,w=>match draw with
  | false=>Gk P T n ops.toList (λE' w'=>Q .normal E' w') ops.toList E w
  | true=>zj w λw1=>Kc P T n ops.toList (λE' w'=>Q .normal E' w') E w1
 | .seq a b,Q,E,w=>match JC.find (xT b) with
  | none=>sc P T n JL JC a (λe E' w'=>match e with
    | .normal=>sc P T n JL JC b Q E' w'
    | .exit i=>Q (.exit i) E' w'
    | .ret=>Q .ret E' w') E w
  | some (S,L)=>match E6 (wr a) L with
   | true=>∃I:List Value->World->Prop,sc P T n JL JC a (λe E' w'=>match e with
     | .normal=>Ni (sF E' S) λvs=>I vs w'
     | .exit i=>Q (.exit i) E' w'
     | .ret=>Q .ret E' w') E w/\G0 (F9 S) λvs=>∀w',I vs w'->sc P T n JL JC b Q (G5 (D3 E [] L) S vs) w'
   | false=>False
 | .cond c x y,Q,E,w=>match E.l7 c with
  | some .t=>sc P T n JL JC x Q E w
  | some .f=>sc P T n JL JC y Q E w
  | some (.v v)=>iy v (sc P T n JL JC x Q (rW E c .t) w) (sc P T n JL JC y Q (rW E c .f) w)
  | some .u=>False
  | none=>False
 | .block id c,Q,E,w=>sc P T n JL JC c (λe E' w'=>match e with
   | .normal=>Q .normal E' w'
   | .exit i=>match Nat.beq i id with
    | true=>Q .normal E' w'
    | false=>Q (.exit i) E' w'
   | .ret=>Q .ret E' w') E w
 | .loop c,Q,E,w=>match JL.find (xT c) with
  | some (S,L)=>match E6 (wr c) L with
   | true=>Ni (sF E S) λNa=>∃(I:List Value->World->Prop) (μ:List Value->World->Nat),I Na w/\G0 (F9 S) λvs=>∀w',I vs w' ->
     sc P T n JL JC c (λe E' Eu=>match e with
      | .normal=>Ni (sF E' S) λEt=>I Et Eu/\μ Et Eu<μ vs w'
      | .exit i=>Q (.exit i) E' Eu
      | .ret=>Q .ret E' Eu) (G5 (D3 E [] L) S vs) w'
   | false=>False
  | none=>False
 | .exit id,Q,E,w=>Q (.exit id) E w
 | .ret,Q,E,w=>Q .ret E w
 | _,_,_,_=>False
def codeOk(P:Program)(n:Nat):Code->Bool
 | .region _ ops draw=>IX P n ops.toList draw
 | .seq a b=>codeOk P n a && codeOk P n b
 | .cond _ a b=>codeOk P n a && codeOk P n b
 | .block _ c=>codeOk P n c
 | .loop c=>codeOk P n c
 | .scope c=>codeOk P n c
 | _=>true
section
variable {P:Program} {T:List Bool} {n:Nat} {JL JC:Marks}
theorem vV(hT:Calls.uu P T)(hm:P.follows .mixedOrders=true):∀(c:Code) (Q:Ex->Env->World->Prop) (E:Env) (w:World) (a:Act) (Q':Exit->Act->World->Prop),codeOk P n c=true->kx [] n E a ->
  sc P T n JL JC c Q E w->(∀e E' a' w',kx [] n E' a'->nB (wr c) a a'->Q e E' w'->Q' e.to a' w')->c.wp P Q' a w
 | .skip,Q,E,w,a,Q',_,hA,h,hq=>wp_skip (hq .normal E a w hA (nB.refl _ a) h)
 | .region id ops draw,Q,E,w,a,Q',eW,hA,h,hq=>by
  unfold sc at h
  cases draw with
  | false=>exact wp_region_list (Mr hT (W:=vW ops.toList) (λE' a' w' h1 h2 h3=>hq .normal E' a' w' h1 h2 h3) ops.toList E a w (λt ht=>ht) (.refl _ a) hA h)
  | true=>exact bR6 hT hm eW hA h (λE' a' w' h1 h2 h3=>hq .normal E' a' w' h1 h2 h3)
 | .seq x y,Q,E,w,a,Q',eW,hA,h,hq=>by
  simp only[codeOk,Bool.and_eq_true]at eW
  unfold sc at h
  split at h
  ·refine wp_seq (vV hT hm x _ E w a _ eW.1 hA h ?_)
   intro e E' a' w' mZ hk hQ
   cases e with
   | normal=>
    refine vV hT hm y _ E' w' a' _ eW.2 mZ hQ ?_
    intro e E2 a2 w2 tV kU wc
    exact hq e E2 a2 w2 tV ((hk.mono λt ht=>List.mem_append_left _ ht).trans (kU.mono λt ht=>List.mem_append_right _ ht)) wc
   | exit i=>exact hq (.exit i) E' a' w' mZ (hk.mono λt ht=>List.mem_append_left _ ht) hQ
   | ret=>exact hq .ret E' a' w' mZ (hk.mono λt ht=>List.mem_append_left _ ht) hQ
  ·rename_i S L hf
   split at h
   ·rename_i hd
    obtain⟨I,h1,h2⟩:=h
    refine wp_seq (vV hT hm x _ E w a _ eW.1 hA h1 ?_)
    intro e E' a' w' mZ hk hQ
    cases e with
    | normal=>
     cases hv:sF E' S with
     | none=>simp only[hv]at hQ;exact hQ.elim
     | some vs=>
      simp only[hv]at hQ
      have h3:=Zq _ _ h2 vs (by rw[LV];exact M9 hv) w' hQ
      have hN:kx [] n [] a':=⟨mZ.size,mZ.defers,λt e _ he=>by cases he⟩
      refine vV hT hm y _ _ w' a' _ eW.2 (JY mZ (Iw hA hN hk (y3 hd)) hv) h3 ?_
      intro e E2 a2 w2 tV kU wc
      exact hq e E2 a2 w2 tV ((hk.mono λt ht=>List.mem_append_left _ ht).trans (kU.mono λt ht=>List.mem_append_right _ ht)) wc
    | exit i=>exact hq (.exit i) E' a' w' mZ (hk.mono λt ht=>List.mem_append_left _ ht) hQ
    | ret=>exact hq .ret E' a' w' mZ (hk.mono λt ht=>List.mem_append_left _ ht) hQ
   ·cases h
 | .cond c x y,Q,E,w,a,Q',eW,hA,h,hq=>by
  simp only[codeOk,Bool.and_eq_true]at eW
  unfold sc at h
  split at h
  ·rename_i he
   exact wp_cond_true (hA.l7 (.nil c) he) (vV hT hm x _ E w a _ eW.1 hA h λe E' a' w' h1 h2 h3=>hq e E' a' w' h1 (h2.mono λt ht=>List.mem_append_left _ ht) h3)
  ·rename_i he
   exact wp_cond_false (hA.l7 (.nil c) he) (vV hT hm y _ E w a _ eW.2 hA h λe E' a' w' h1 h2 h3=>hq e E' a' w' h1 (h2.mono λt ht=>List.mem_append_right _ ht) h3)
  ·rename_i v he
   obtain⟨r,rfl,h1,h2⟩:=h
   cases r with
   | true=>exact wp_cond_true (hA.l7 (.nil c) he) (vV hT hm x _ _ w a _ eW.1 (hA.rW he rfl) (h1 rfl) λe E' a' w' h1 h2 h3=>hq e E' a' w' h1 (h2.mono λt ht=>List.mem_append_left _ ht) h3)
   | false=>exact wp_cond_false (hA.l7 (.nil c) he) (vV hT hm y _ _ w a _ eW.2 (hA.rW he rfl) (h2 rfl) λe E' a' w' h1 h2 h3=>hq e E' a' w' h1 (h2.mono λt ht=>List.mem_append_right _ ht) h3)
  ·cases h
  ·cases h
 | .block id c,Q,E,w,a,Q',eW,hA,h,hq=>by
  unfold sc at h
  refine wp_block (vV hT hm c _ E w a _ eW hA h ?_)
  intro e E' a' w' mZ hk hQ
  cases e with
  | normal=>exact hq .normal E' a' w' mZ hk hQ
  | exit i=>
   simp only at hQ
   show Exit.inBlock id Q' (.exit i) a' w'
   split at hQ
   ·rename_i hb
    obtain rfl:=beq_iff.1 hb
    simpa [Exit.inBlock,Ex.to] using hq .normal E' a' w' mZ hk hQ
   ·rename_i hb
    have iX:i≠id:=λe=>by rw[beq_iff.2 e]at hb;cases hb
    simpa [Exit.inBlock,Ex.to,iX] using hq (.exit i) E' a' w' mZ hk hQ
  | ret=>exact hq .ret E' a' w' mZ hk hQ
 | .loop c,Q,E,w,a,Q',eW,hA,h,hq=>by
  unfold sc at h
  split at h
  ·rename_i S L hf
   split at h
   ·rename_i hd
    cases hv:sF E S with
    | none=>rw[hv]at h;exact h.elim
    | some Na=>
     rw[hv]at h
     obtain⟨I,μ,h1,h2⟩:=h
     refine wp_loop (λa' w'=>kx [] n [] a'/\nB (wr c) a a'/\∃E' vs,kx [] n E' a'/\sF E' S=some vs/\I vs w')
      (λa' w'=>μ (S.map λs=>a'.tmps.getD s undef) w') ⟨⟨hA.size,hA.defers,λt e _ he=>by cases he⟩,.refl _ a,E,Na,hA,hv,h1⟩ ?_
     rintro a1 w1 ⟨hN,ub,E1,vs,B6,vv,hI⟩
     have h3:=Zq _ _ h2 vs (by rw[LV];exact M9 vv) w1 hI
     have tz:∀(E2:Env) (a2:Act),kx [] n E2 a2->∀(S:List Nat) (vs:List Value),sF E2 S=some vs->(S.map λs=>a2.tmps.getD s undef)=vs:=by
      intro E2 a2 tV S
      induction S with
      | nil=>intro vs h;simp[sF]at h;subst h;rfl
      | cons s r ih=>
       intro vs h
       simp only[sF]at h
       split at h
       ·rename_i e he
        split at h
        ·rename_i Et uV
         cases h
         have:=tV.get s e (by simp) he
         simp only[List.map_cons,ih Et uV,List.cons.injEq,and_true]
         simp[Array.getD_eq_getD_getElem?,this]
        ·cases h
       ·cases h
     refine vV hT hm c _ _ w1 a1 _ eW (JY B6 (Iw hA hN ub (y3 hd)) vv) h3 ?_
     intro e E2 a2 w2 tV kU wc
     cases e with
     | normal=>
      cases xw:sF E2 S with
      | none=>simp only[xw]at wc;exact wc.elim
      | some vs2=>
       simp only[xw]at wc
       refine⟨⟨⟨tV.size,tV.defers,λt e _ he=>by cases he⟩,ub.trans kU,E2,vs2,tV,xw,wc.1⟩,?_⟩
       rw[tz E2 a2 tV S vs2 xw,tz E1 a1 B6 S vs vv]
       exact wc.2
     | exit i=>exact hq (.exit i) E2 a2 w2 tV (ub.trans kU) wc
     | ret=>exact hq .ret E2 a2 w2 tV (ub.trans kU) wc
   ·cases h
  ·cases h
 | .exit id,Q,E,w,a,Q',_,hA,h,hq=>wp_exit (hq (.exit id) E a w hA (nB.refl _ a) h)
 | .ret,Q,E,w,a,Q',_,hA,h,hq=>wp_ret (hq .ret E a w hA (nB.refl _ a) h)
end
def Au(P:Program):List ResultVar->Env->World->(List Value->Prop)->Prop
 | [],E,w,K=>K []
 | .tmp t::r,E,w,K=>match E.get t with
  | some e=>Au P r E w λvs=>K (e.val::vs)
  | none=>False
 | .cell t ty::r,E,w,K=>match E.get t with
  | some e=>match tk P ty with
   | .one=>cI e.val w λv=>Au P r E w λvs=>K (v::vs)
   | .agg k=>ze k e.val w λv=>Au P r E w λvs=>K (v::vs)
   | .bad=>False
  | none=>False
def GG:List Value->Value
 | [v]=>v
 | vs=>.tuple vs.toArray
def G4:Nat->List Value->Env
 | _,[]=>[]
 | k,v::r=>(k,.v v)::G4 (k+1) r
def Hq(P:Program)(T:List Bool)(JL JC:Marks)(fn:Func)(args:List Value)(w:World)(R:Value->World->Prop):Prop:=match fn.body with
 | some c=>sc P T fn.ntmps JL JC c (λe E w'=>match e with
  | .normal=>Au P fn.results.toList E w' λvs=>R (GG vs) w'
  | .ret=>Au P fn.results.toList E w' λvs=>R (GG vs) w'
  | .exit _=>False) (G4 0 args) w
 | none=>False
def Hp(P:Program)(fn:Func):Bool:=match fn.body with
 | some c=>codeOk P fn.ntmps c
 | none=>false
def Ef(tmps:Array Value):ResultVar->Sem Value
 | .tmp t=>pure (tmps.getD t undef)
 | .cell x t=>do loadVar t (<- asAddr (tmps.getD x undef))
theorem IY{P:Program}{n:Nat}{E:Env}{a:Act}(hA:kx [] n E a){w:World}:∀(l:List ResultVar) (K:List Value->Prop),Au P l E w K ->
  ∃vs,(l.mapM (Ef a.tmps)).run P w= .ok vs w/\K vs
 | [],K,h=>⟨[],by simp,h⟩
 | .tmp t::r,K,h=>by
  unfold Au at h
  split at h
  ·rename_i e he
   obtain⟨vs,h1,h2⟩:=IY hA r _ h
   have:=hA.get t e (by simp) he
   have sx:a.tmps.getD t undef=e.val:=by simp[Array.getD_eq_getD_getElem?,this]
   refine⟨e.val::vs,?_,h2⟩
   have h0:(Ef a.tmps (.tmp t)).run P w= .ok e.val w:=by show (pure (a.tmps.getD t undef):Sem Value).run P w=_;rw[sx];rfl
   simp only[List.mapM_cons,Sem.run_bind,h0,Result.andThen_ok,h1,Sem.run_pure]
  ·cases h
 | .cell x ty::r,K,h=>by
  unfold Au at h
  split at h
  ·rename_i e he
   have hx:=hA.get x e (by simp) he
   have sx:a.tmps.getD x undef=e.val:=by simp[Array.getD_eq_getD_getElem?,hx]
   split at h
   ·rename_i ht
    obtain⟨p,v,hp,hc,h⟩:=h
    obtain⟨vs,h1,h2⟩:=IY hA r _ h
    refine⟨v::vs,?_,h2⟩
    have h0:(Ef a.tmps (.cell x ty)).run P w= .ok v w:=by
     show (do loadVar ty (<- asAddr (a.tmps.getD x undef)):Sem Value).run P w=_;rw[sx,hp];simp[asAddr,loadVar,(aFo ht).1,hc]
    simp only[List.mapM_cons,Sem.run_bind,h0,Result.andThen_ok,h1,Sem.run_pure]
   ·rename_i k ht
    obtain⟨p,us,hp,hl,hc,h⟩:=h
    obtain⟨vs,h1,h2⟩:=IY hA r _ h
    subst hl
    refine⟨.agg us.toArray::vs,?_,h2⟩
    have h0:(Ef a.tmps (.cell x ty)).run P w= .ok (.agg us.toArray) w:=by
     show (do loadVar ty (<- asAddr (a.tmps.getD x undef)):Sem Value).run P w=_;rw[sx,hp];simp[asAddr,loadVar,(GF ht).1,run_sizeOf (GF ht).2,run_loadCells_list w p us hc]
    simp only[List.mapM_cons,Sem.run_bind,h0,Result.andThen_ok,h1,Sem.run_pure]
   ·cases h
  ·cases h
theorem Tp:∀(args:List Value) (k t:Nat) (e:my),(G4 k args).get t=some e->∃v,e= .v v/\k<=t/\args[t-k]?=some v
 | [],k,t,e,h=>by cases h
 | v::r,k,t,e,h=>by
  simp only[G4,Env.get]at h
  split at h
  ·rename_i hb
   obtain rfl:=beq_iff.1 hb
   cases h
   exact⟨v,rfl,Nat.le_refl _,by simp⟩
  ·obtain⟨u,h1,h2,h3⟩:=Tp r (k+1) t e h
   refine⟨u,h1,by omega,?_⟩
   rw[show t-k=(t-(k+1))+1 by omega]
   simpa using h3
theorem cI1{P:Program}{T:List Bool}{JL JC:Marks}(hT:Calls.uu P T)(hm:P.follows .mixedOrders=true){f:FuncId}{fn:Func}{args:List Value}{w:World}{R:Value->World->Prop}(hf:P.funcs[f]?=some fn)
  (eW:Hp P fn=true) (hlen:Nat.ble (CK args) fn.ntmps=true) (h:Hq P T JL JC fn args w R):zQ P f args w R:=by
 unfold Hq at h
 unfold Hp at eW
 split at h
 ·rename_i c hc
  rw[hc]at eW
  have hl:args.length<=fn.ntmps:=by
   have:∀l:List Value,CK l=l.length:=λl=>by
    induction l with
    | nil=>rfl
    | cons v r ih=>simp[CK,ih]
   rw[this]at hlen
   exact Nat.le_of_ble_eq_true hlen
  refine calls_of_wp hf hc (vV hT hm c _ _ w _ _ eW ⟨by simp;omega,rfl,λt e _ he=>?_⟩ h ?_)
  ·obtain⟨v,rfl,_,hv⟩:=Tp _ _ _ _ he
   simp only[Nat.sub_zero]at hv
   have iw:=(List.getElem?_eq_some_iff.1 hv).1
   rw[Array.getElem?_append_left (by simpa using iw)]
   show _=some v
   simpa using hv
  ·have fin:∀(E':Env) (a':Act) (w':World),kx [] fn.ntmps E' a'->Au P fn.results.toList E' w' (λvs=>R (GG vs) w') ->
     a'.defers=[]/\∃v,(results fn a'.tmps).run P w'= .ok v w'/\∃u,Ending.returned v= .returned u/\R u w':=by
    intro E' a' w' hA hr
    obtain⟨vs,h1,h2⟩:=IY hA _ _ hr
    refine⟨hA.defers,GG vs,?_,_,rfl,h2⟩
    have h3:(fn.results.mapM (Ef a'.tmps)).run P w'= .ok vs.toArray w':=by
     rw[Array.mapM_eq_mapM_toList,Sem.run_map,h1];rfl
    have h4:results fn a'.tmps=(do
      let vs <- fn.results.mapM (Ef a'.tmps)
      pure (if h:vs.size=1 then vs[0] else .tuple vs)):=rfl
    rw[h4,Sem.run_bind,h3]
    simp only[Result.andThen_ok,Sem.run_pure,Result.ok.injEq,and_true]
    match vs with
    | []=>rfl
    | [v]=>rfl
    | v::u::r=>simp[GG]
   intro e E' a' w' hA _ hQ
   cases e with
   | normal=>exact fin E' a' w' hA hQ
   | ret=>exact fin E' a' w' hA hQ
   | exit i=>cases hQ
 ·cases h
def CX:List Bool->List Func->Bool
 | [],_=>true
 | true :: T, fn :: r => !(fn.name == "runtime.NumGoroutine") && !fn.body.isNone && CX T r
 | false::T,_::r=>CX T r
 | _::_,[]=>false
theorem Ze : ∀ (T : List Bool) (l : List Func), CX T l = true -> ∀ f, T.getD f false = true -> ∃ fn, l[f]? = some fn /\ (fn.name == "runtime.NumGoroutine") = false /\ fn.body.isNone = false
 | [],l,_,f,h=>by simp at h
 | true::T,[],hk,f,h=>by simp[CX]at hk
 | false::T,[],hk,f,h=>by simp[CX]at hk
 | true::T,fn::r,hk,f,h=>by
  simp only[CX,Bool.and_eq_true,Bool.not_eq_true']at hk
  cases f with
  | zero=>exact⟨fn,rfl,hk.1.1,hk.1.2⟩
  | succ f=>obtain⟨g,h1,h2⟩:=Ze T r hk.2 f (by simpa using h);exact⟨g,by simpa using h1,h2⟩
 | false::T,fn::r,hk,f,h=>by
  cases f with
  | zero=>simp at h
  | succ f=>obtain⟨g,h1,h2⟩:=Ze T r hk f (by simpa using h);exact⟨g,by simpa using h1,h2⟩
theorem bw0(P:Program)(T:List Bool)(h:CX T P.funcs.toList=true):Calls.uu P T:=λf hf=>by
 obtain⟨fn,h1,h2⟩:=Ze T _ h f hf
 exact⟨fn,by simpa using h1,h2⟩
