/- Part. -/
import Derived.Test.YthohmpdacdmclaaGreatDoorQEngG
namespace Go.Proofs.YthohmpdacdmclaaGreatDoor
set_option linter.all false
open Go.RowKit
def wwh:=@Nat.sub_zero
def zi(w:Ζ)(K:Ζ->Prop):Prop:=K w.drew
def mc(P:Program)(T:List Bool)(n:Nat)(JL JC:Marks):Code->(Ex->Env->Ζ->Prop)->Env->Ζ->Prop
 | .skip,Q,E,w=>Q .normal E w
 | .region id ops draw,Q,E,w=>match draw with
  | false=>Di P T n ops.toList (λE' w'=>Q .normal E' w') ops.toList E w
  | true=>zi w λw1=>HA P T n ops.toList (λE' w'=>Q .normal E' w') E w1
 | .seq a b,Q,E,w=>match JC.find (tJ b) with
  | none=>mc P T n JL JC a (λe E' w'=>match e with
    | .normal=>mc P T n JL JC b Q E' w'
    | .exit i=>Q (.exit i) E' w'
    | .ret=>Q .ret E' w') E w
  | some (S,L)=>match B2 (wr a) L with
   | true=>∃I:Ξ->Ζ->Prop,mc P T n JL JC a (λe E' w'=>match e with
     | .normal=>KQ (mC E' S) λvs=>I vs w'
     | .exit i=>Q (.exit i) E' w'
     | .ret=>Q .ret E' w') E w/\DY (C8 S) λvs=>∀w',I vs w'->mc P T n JL JC b Q (D3 (AR E [] L) S vs) w'
   | false=>False
 | .cond c x y,Q,E,w=>match E.gd c with
  | some .t=>mc P T n JL JC x Q E w
  | some .f=>mc P T n JL JC y Q E w
  | some (.v v)=>cB v (mc P T n JL JC x Q (l4 E c .t) w) (mc P T n JL JC y Q (l4 E c .f) w)
  | some .u=>False
  | none=>False
 | .block id c,Q,E,w=>mc P T n JL JC c (λe E' w'=>match e with
   | .normal=>Q .normal E' w'
   | .exit i=>match Nat.beq i id with
    | true=>Q .normal E' w'
    | false=>Q (.exit i) E' w'
   | .ret=>Q .ret E' w') E w
 | .loop c,Q,E,w=>match JL.find (tJ c) with
  | some (S,L)=>match B2 (wr c) L with
   | true=>KQ (mC E S) λKH=>∃(I:Ξ->Ζ->Prop) (μ:Ξ->Ζ->Nat),I KH w/\DY (C8 S) λvs=>∀w',I vs w' ->
     mc P T n JL JC c (λe E' Bi=>match e with
      | .normal=>KQ (mC E' S) λBh=>I Bh Bi/\μ Bh Bi<μ vs w'
      | .exit i=>Q (.exit i) E' Bi
      | .ret=>Q .ret E' Bi) (D3 (AR E [] L) S vs) w'
   | false=>False
  | none=>False
 | .exit id,Q,E,w=>Q (.exit id) E w
 | .ret,Q,E,w=>Q .ret E w
 | _,_,_,_=>False
def codeOk(P:Program)(n:Nat):Code->Bool
 | .region _ ops draw=>F1 P n ops.toList draw
 | .seq a b=>codeOk P n a && codeOk P n b
 | .cond _ a b=>codeOk P n a && codeOk P n b
 | .block _ c=>codeOk P n c
 | .loop c=>codeOk P n c
 | .scope c=>codeOk P n c
 | _=>true
section
variable {P:Program} {T:List Bool} {n:Nat} {JL JC:Marks}
def rE(hT:Calls.oM P T)(hm:P.follows .mixedOrders=true):∀(c:Code) (Q:Ex->Env->Ζ->Prop) (E:Env) (w:Ζ) (a:Act) (Q':Exit->Act->Ζ->Prop),codeOk P n c=true->eC [] n E a ->
  mc P T n JL JC c Q E w->(∀e E' a' w',eC [] n E' a'->iI (wr c) a a'->Q e E' w'->Q' e.to a' w')->c.wp P Q' a w
 | .skip,Q,E,w,a,Q',_,hA,h,hq=>wp_skip (hq .normal E a w hA (iI.refl _ a) h)
 | .region id ops draw,Q,E,w,a,Q',bC,hA,h,hq=>by
  unfold mc at h;cases draw with
  | false=>exact wp_region_list (JY hT (W:=rF ops.toList) (λE' a' w' h1 h2 h3=>hq .normal E' a' w' h1 h2 h3) ops.toList E a w (λt ht=>ht) (.refl _ a) hA h)
  | true=>exact bct hT hm bC hA h (λE' a' w' h1 h2 h3=>hq .normal E' a' w' h1 h2 h3)
 | .seq x y,Q,E,w,a,Q',bC,hA,h,hq=>by
  simp only[codeOk,zzs]at bC;unfold mc at h;split at h
  ·refine wp_seq (rE hT hm x _ E w a _ bC.1 hA h ?_);intro e E' a' w' iq hk hQ;cases e with
   | normal=>
    refine rE hT hm y _ E' w' a' _ bC.2 iq hQ ?_;intro e E2 a2 w2 od gV rM;exact hq e E2 a2 w2 od ((hk.mono λt ht=>yyr _ ht).trans (gV.mono λt ht=>xxl _ ht)) rM
   | exit i=>exact hq (.exit i) E' a' w' iq (hk.mono λt ht=>yyr _ ht) hQ
   | ret=>exact hq .ret E' a' w' iq (hk.mono λt ht=>yyr _ ht) hQ
  rename_i S L hf;split at h
  ·rename_i hd;obtain⟨I,h1,h2⟩:=h;refine wp_seq (rE hT hm x _ E w a _ bC.1 hA h1 ?_);intro e E' a' w' iq hk hQ;cases e with
   | normal=>
    cases hv:mC E' S with
    | none=>simp only[hv]at hQ;exact hQ.elim
    | some vs=>
     simp only[hv]at hQ;have h3:=Zr _ _ h2 vs (by rw[Js];exact KE hv) w' hQ;have hN:eC [] n [] a':=⟨iq.size,iq.defers,λt e _ he=>by cases he⟩;refine rE hT hm y _ _ w' a' _ bC.2 (Hh iq (FB hA hN hk (y9 hd)) hv) h3 ?_;intro e E2 a2 w2 od gV rM;exact hq e E2 a2 w2 od ((hk.mono λt ht=>yyr _ ht).trans (gV.mono λt ht=>xxl _ ht)) rM
   | exit i=>exact hq (.exit i) E' a' w' iq (hk.mono λt ht=>yyr _ ht) hQ
   | ret=>exact hq .ret E' a' w' iq (hk.mono λt ht=>yyr _ ht) hQ
  cases h
 | .cond c x y,Q,E,w,a,Q',bC,hA,h,hq=>by
  simp only[codeOk,zzs]at bC;unfold mc at h;split at h
  ·rename_i he;exact wp_cond_true (hA.gd (.nil c) he) (rE hT hm x _ E w a _ bC.1 hA h λe E' a' w' h1 h2 h3=>hq e E' a' w' h1 (h2.mono λt ht=>yyr _ ht) h3)
  ·rename_i he;exact wp_cond_false (hA.gd (.nil c) he) (rE hT hm y _ E w a _ bC.2 hA h λe E' a' w' h1 h2 h3=>hq e E' a' w' h1 (h2.mono λt ht=>xxl _ ht) h3)
  ·rename_i v he;obtain⟨r,rfl,h1,h2⟩:=h;cases r with
   | true=>exact wp_cond_true (hA.gd (.nil c) he) (rE hT hm x _ _ w a _ bC.1 (hA.l4 he rfl) (h1 rfl) λe E' a' w' h1 h2 h3=>hq e E' a' w' h1 (h2.mono λt ht=>yyr _ ht) h3)
   | false=>exact wp_cond_false (hA.gd (.nil c) he) (rE hT hm y _ _ w a _ bC.2 (hA.l4 he rfl) (h2 rfl) λe E' a' w' h1 h2 h3=>hq e E' a' w' h1 (h2.mono λt ht=>xxl _ ht) h3)
  ·cases h
  cases h
 | .block id c,Q,E,w,a,Q',bC,hA,h,hq=>by
  unfold mc at h;refine wp_block (rE hT hm c _ E w a _ bC hA h ?_);intro e E' a' w' iq hk hQ;cases e with
  | normal=>exact hq .normal E' a' w' iq hk hQ
  | exit i=>
   simp only at hQ;show Exit.inBlock id Q' (.exit i) a' w';split at hQ
   ·rename_i hb;obtain rfl:=beq_iff.1 hb;simpa [Exit.inBlock,Ex.to] using hq .normal E' a' w' iq hk hQ
   rename_i hb;have cY:i≠id:=λe=>by rw[beq_iff.2 e]at hb;cases hb
   simpa [Exit.inBlock,Ex.to,cY] using hq (.exit i) E' a' w' iq hk hQ
  | ret=>exact hq .ret E' a' w' iq hk hQ
 | .loop c,Q,E,w,a,Q',bC,hA,h,hq=>by
  unfold mc at h;split at h
  ·rename_i S L hf;split at h
   ·rename_i hd;cases hv:mC E S with
    | none=>rw[hv]at h;exact h.elim
    | some KH=>
     rw[hv]at h
     obtain⟨I,μ,h1,h2⟩:=h;refine wp_loop (λa' w'=>eC [] n [] a'/\iI (wr c) a a'/\∃E' vs,eC [] n E' a'/\mC E' S=some vs/\I vs w')
      (λa' w'=>μ (S.map λs=>a'.tmps.getD s undef) w') ⟨⟨hA.size,hA.defers,λt e _ he=>by cases he⟩,.refl _ a,E,KH,hA,hv,h1⟩ ?_
     rintro a1 w1 ⟨hN,o_,E1,vs,wF,pX,hI⟩;have h3:=Zr _ _ h2 vs (by rw[Js];exact KE pX) w1 hI;have nI:∀(E2:Env) (a2:Act),eC [] n E2 a2->∀(S:Α) (vs:Ξ),mC E2 S=some vs->(S.map λs=>a2.tmps.getD s undef)=vs:=by
      intro E2 a2 od S;induction S with
      | nil=>intro vs h;simp[mC]at h;subst h;rfl
      | cons s r ih=>
       intro vs h;simp only[mC]at h;split at h
       ·rename_i e he;split at h
        ·rename_i Bh pe;cases h;have:=od.get s e (by simp) he;simp only[zzp,ih Bh pe,List.cons.injEq,and_true];simp[Array.getD_eq_getD_getElem?,this]
        cases h
       cases h
     refine rE hT hm c _ _ w1 a1 _ bC (Hh wF (FB hA hN o_ (y9 hd)) pX) h3 ?_;intro e E2 a2 w2 od gV rM;cases e with
     | normal=>
      cases s5:mC E2 S with
      | none=>simp only[s5]at rM;exact rM.elim
      | some X1=>
       simp only[s5]at rM;refine⟨⟨⟨od.size,od.defers,λt e _ he=>by cases he⟩,o_.trans gV,E2,X1,od,s5,rM.1⟩,?_⟩;rw[nI E2 a2 od S X1 s5,nI E1 a1 wF S vs pX];exact rM.2
     | exit i=>exact hq (.exit i) E2 a2 w2 od (o_.trans gV) rM
     | ret=>exact hq .ret E2 a2 w2 od (o_.trans gV) rM
   cases h
  cases h
 | .exit id,Q,E,w,a,Q',_,hA,h,hq=>wp_exit (hq (.exit id) E a w hA (iI.refl _ a) h)
 | .ret,Q,E,w,a,Q',_,hA,h,hq=>wp_ret (hq .ret E a w hA (iI.refl _ a) h)
end
def uA(P:Program):List ResultVar->Env->Ζ->(Ξ->Prop)->Prop
 | [],E,w,K=>K []
 | .tmp t::r,E,w,K=>match E.get t with
  | some e=>uA P r E w λvs=>K (e.val::vs)
  | none=>False
 | .cell t ty::r,E,w,K=>match E.get t with
  | some e=>match tk P ty with
   | .one=>bu e.val w λv=>uA P r E w λvs=>K (v::vs)
   | .agg k=>zf k e.val w λv=>uA P r E w λvs=>K (v::vs)
   | .bad=>False
  | none=>False
def DA:Ξ->Ε
 | [v]=>v
 | vs=>.tuple vs.toArray
def D2:Nat->Ξ->Env
 | _,[]=>[]
 | k,v::r=>(k,.v v)::D2 (k+1) r
def Eo(P:Program)(T:List Bool)(JL JC:Marks)(fn:Func)(args:Ξ)(w:Ζ)(R:Ε->Ζ->Prop):Prop:=match fn.body with
 | some c=>mc P T fn.ntmps JL JC c (λe E w'=>match e with
  | .normal=>uA P fn.results.toList E w' λvs=>R (DA vs) w'
  | .ret=>uA P fn.results.toList E w' λvs=>R (DA vs) w'
  | .exit _=>False) (D2 0 args) w
 | none=>False
def En(P:Program)(fn:Func):Bool:=match fn.body with
 | some c=>codeOk P fn.ntmps c
 | none=>false
def A6(tmps:Array Ε):ResultVar->Sem Ε
 | .tmp t=>pure (tmps.getD t undef)
 | .cell x t=>do loadVar t (<- asAddr (tmps.getD x undef))
def F3{P:Program}{n:Nat}{E:Env}{a:Act}(hA:eC [] n E a){w:Ζ}:∀(l:List ResultVar) (K:Ξ->Prop),uA P l E w K ->
  ∃vs,(l.mapM (A6 a.tmps)).run P w= .ok vs w/\K vs
 | [],K,h=>⟨[],by simp,h⟩
 | .tmp t::r,K,h=>by
  unfold uA at h;split at h
  ·rename_i e he;obtain⟨vs,h1,h2⟩:=F3 hA r _ h;have:=hA.get t e (by simp) he;have kH:a.tmps.getD t undef=e.val:=by simp[Array.getD_eq_getD_getElem?,this]
   refine⟨e.val::vs,?_,h2⟩;have h0:(A6 a.tmps (.tmp t)).run P w= .ok e.val w:=by show (pure (a.tmps.getD t undef):Sem Ε).run P w=_;rw[kH];rfl
   simp only[List.mapM_cons,Sem.run_bind,h0,Result.andThen_ok,h1,Sem.run_pure]
  cases h
 | .cell x ty::r,K,h=>by
  unfold uA at h;split at h
  ·rename_i e he;have hx:=hA.get x e (by simp) he;have kH:a.tmps.getD x undef=e.val:=by simp[Array.getD_eq_getD_getElem?,hx]
   split at h
   ·rename_i ht;obtain⟨p,v,hp,hc,h⟩:=h;obtain⟨vs,h1,h2⟩:=F3 hA r _ h;refine⟨v::vs,?_,h2⟩;have h0:(A6 a.tmps (.cell x ty)).run P w= .ok v w:=by
     show (do loadVar ty (<- asAddr (a.tmps.getD x undef)):Sem Ε).run P w=_;rw[kH,hp];simp[asAddr,loadVar,(XA ht).1,hc]
    simp only[List.mapM_cons,Sem.run_bind,h0,Result.andThen_ok,h1,Sem.run_pure]
   ·rename_i k ht;obtain⟨p,us,hp,hl,hc,h⟩:=h;obtain⟨vs,h1,h2⟩:=F3 hA r _ h;subst hl;refine⟨.agg us.toArray::vs,?_,h2⟩;have h0:(A6 a.tmps (.cell x ty)).run P w= .ok (.agg us.toArray) w:=by
     show (do loadVar ty (<- asAddr (a.tmps.getD x undef)):Sem Ε).run P w=_;rw[kH,hp];simp[asAddr,loadVar,(Dz ht).1,run_sizeOf (Dz ht).2,ww3 w p us hc]
    simp only[List.mapM_cons,Sem.run_bind,h0,Result.andThen_ok,h1,Sem.run_pure]
   cases h
  cases h
def P7:∀(args:Ξ) (k t:Nat) (e:gN),(D2 k args).get t=some e->∃v,e= .v v/\k<=t/\args[t-k]?=some v
 | [],k,t,e,h=>by cases h
 | v::r,k,t,e,h=>by
  simp only[D2,Env.get]at h;split at h
  ·rename_i hb;obtain rfl:=beq_iff.1 hb;cases h;exact⟨v,rfl,zzj _,by simp⟩
  obtain⟨u,h1,h2,h3⟩:=P7 r (k+1) t e h;refine⟨u,h1,by omega,?_⟩;rw[show t-k=(t-(k+1))+1 by omega];simpa using h3
def bf2{P:Program}{T:List Bool}{JL JC:Marks}(hT:Calls.oM P T)(hm:P.follows .mixedOrders=true){f:FuncId}{fn:Func}{args:Ξ}{w:Ζ}{R:Ε->Ζ->Prop}(hf:P.funcs[f]?=some fn)
  (bC:En P fn=true) (hlen:Nat.ble (xj args) fn.ntmps=true) (h:Eo P T JL JC fn args w R):zJ P f args w R:=by
 unfold Eo at h;unfold En at bC;split at h
 ·rename_i c hc;rw[hc]at bC
  have hl:args.length<=fn.ntmps:=by
   have:∀l:Ξ,xj l=l.length:=λl=>by
    induction l with
    | nil=>rfl
    | cons v r ih=>simp[xj,ih]
   rw[this]at hlen
   exact Nat.le_of_ble_eq_true hlen
  refine calls_of_wp hf hc (rE hT hm c _ _ w _ _ bC ⟨by simp;omega,rfl,λt e _ he=>?_⟩ h ?_)
  ·obtain⟨v,rfl,_,hv⟩:=P7 _ _ _ _ he;simp only[wwh]at hv;have b9:=(zzh.1 hv).1;rw[Array.getElem?_append_left (by simpa using b9)];show _=some v;simpa using hv
  have fin:∀(E':Env) (a':Act) (w':Ζ),eC [] fn.ntmps E' a'->uA P fn.results.toList E' w' (λvs=>R (DA vs) w') ->
    a'.defers=[]/\∃v,(results fn a'.tmps).run P w'= .ok v w'/\∃u,Ending.returned v= .returned u/\R u w':=by
   intro E' a' w' hA hr;obtain⟨vs,h1,h2⟩:=F3 hA _ _ hr;refine⟨hA.defers,DA vs,?_,_,rfl,h2⟩;have h3:(fn.results.mapM (A6 a'.tmps)).run P w'= .ok vs.toArray w':=by
    rw[Array.mapM_eq_mapM_toList,Sem.run_map,h1];rfl
   have h4:results fn a'.tmps=(do
     let vs <- fn.results.mapM (A6 a'.tmps)
     pure (if h:vs.size=1 then vs[0] else .tuple vs)):=rfl
   rw[h4,Sem.run_bind,h3];simp only[Result.andThen_ok,Sem.run_pure,Result.ok.injEq,and_true]
   match vs with
   | []=>rfl
   | [v]=>rfl
   | v::u::r=>simp[DA]
  intro e E' a' w' hA _ hQ;cases e with
  | normal=>exact fin E' a' w' hA hQ
  | ret=>exact fin E' a' w' hA hQ
  | exit i=>cases hQ
 cases h
def xy:List Bool->List Func->Bool
 | [],_=>true
 | true :: T, fn :: r => !(fn.name == "runtime.NumGoroutine") && !fn.body.isNone && xy T r
 | false::T,_::r=>xy T r
 | _::_,[]=>false
def Zf : ∀ (T : List Bool) (l : List Func), xy T l = true -> ∀ f, T.getD f false = true -> ∃ fn, l[f]? = some fn /\ (fn.name == "runtime.NumGoroutine") = false /\ fn.body.isNone = false
 | [],l,_,f,h=>by simp at h
 | true::T,[],hk,f,h=>by simp[xy]at hk
 | false::T,[],hk,f,h=>by simp[xy]at hk
 | true::T,fn::r,hk,f,h=>by
  simp only[xy,zzs,Bool.not_eq_true']at hk;cases f with
  | zero=>exact⟨fn,rfl,hk.1.1,hk.1.2⟩
  | succ f=>obtain⟨g,h1,h2⟩:=Zf T r hk.2 f (by simpa using h);exact⟨g,by simpa using h1,h2⟩
 | false::T,fn::r,hk,f,h=>by
  cases f with
  | zero=>simp at h
  | succ f=>obtain⟨g,h1,h2⟩:=Zf T r hk f (by simpa using h);exact⟨g,by simpa using h1,h2⟩
def aR8(P:Program)(T:List Bool)(h:xy T P.funcs.toList=true):Calls.oM P T:=λf hf=>by
 obtain⟨fn,h1,h2⟩:=Zf T _ h f hf;exact⟨fn,by simpa using h1,h2⟩
