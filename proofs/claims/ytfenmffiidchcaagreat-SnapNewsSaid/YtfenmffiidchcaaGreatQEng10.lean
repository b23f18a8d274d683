/- Part of the proof (my own). -/
import Derived.Test.YtfenmffiidchcaaGreatQEngG
namespace Go.Proofs.YtfenmffiidchcaaGreat
set_option linter.unusedVariables false
open Go.RowKit
def zl(w:World)(K:World→Prop):Prop:=K w.drew
def codeP(P:Program)(T:List Bool)(n:Nat)(JL JC:Marks):Code→(Ex→Env→World→Prop)→Env→World→Prop
 | .skip,Q,E,w=>Q .normal E w
 | .region id ops draw,Q,E,w=>match draw with
  | false=>opsP P T n ops.toList (λE' w'=>Q .normal E' w') ops.toList E w
  | true=>zl w λw1=>drawP P T n ops.toList (λE' w'=>Q .normal E' w') E w1
 | .seq a b,Q,E,w=>match JC.find (firstReg b) with
  | none=>codeP P T n JL JC a (λe E' w'=>match e with
    | .normal=>codeP P T n JL JC b Q E' w'
    | .exit i=>Q (.exit i) E' w'
    | .ret=>Q .ret E' w') E w
  | some (S,L)=>match disjB (wr a) L with
   | true=>∃I:List Value→World→Prop,codeP P T n JL JC a (λe E' w'=>match e with
     | .normal=>withV (valsE E' S) λvs=>I vs w'
     | .exit i=>Q (.exit i) E' w'
     | .ret=>Q .ret E' w') E w∧allV (len' S) λvs=>∀w',I vs w'→codeP P T n JL JC b Q (bindS (livE E [] L) S vs) w'
   | false=>False
 | .cond c x y,Q,E,w=>match E.ent c with
  | some .t=>codeP P T n JL JC x Q E w
  | some .f=>codeP P T n JL JC y Q E w
  | some (.v v)=>HIf v (codeP P T n JL JC x Q (setTmp E c .t) w) (codeP P T n JL JC y Q (setTmp E c .f) w)
  | some .u=>False
  | none=>False
 | .block id c,Q,E,w=>codeP P T n JL JC c (λe E' w'=>match e with
   | .normal=>Q .normal E' w'
   | .exit i=>match Nat.beq i id with
    | true=>Q .normal E' w'
    | false=>Q (.exit i) E' w'
   | .ret=>Q .ret E' w') E w
 | .loop c,Q,E,w=>match JL.find (firstReg c) with
  | some (S,L)=>match disjB (wr c) L with
   | true=>withV (valsE E S) λvs0=>∃(I:List Value→World→Prop) (μ:List Value→World→Nat),I vs0 w∧allV (len' S) λvs=>∀w',I vs w' →
     codeP P T n JL JC c (λe E' w''=>match e with
      | .normal=>withV (valsE E' S) λvs'=>I vs' w''∧μ vs' w''<μ vs w'
      | .exit i=>Q (.exit i) E' w''
      | .ret=>Q .ret E' w'') (bindS (livE E [] L) S vs) w'
   | false=>False
  | none=>False
 | .exit id,Q,E,w=>Q (.exit id) E w
 | .ret,Q,E,w=>Q .ret E w
 | _,_,_,_=>False
def codeOk(P:Program)(n:Nat):Code→Bool
 | .region _ ops draw=>regOk P n ops.toList draw
 | .seq a b=>codeOk P n a && codeOk P n b
 | .cond _ a b=>codeOk P n a && codeOk P n b
 | .block _ c=>codeOk P n c
 | .loop c=>codeOk P n c
 | .scope c=>codeOk P n c
 | _=>true
section
variable {P:Program} {T:List Bool} {n:Nat} {JL JC:Marks}
theorem codeP_sound(hT:Calls.Tab P T)(hm:P.follows .mixedOrders=true):∀(c:Code) (Q:Ex→Env→World→Prop) (E:Env) (w:World) (a:Act) (Q':Exit→Act→World→Prop),codeOk P n c=true→Agree [] n E a →
  codeP P T n JL JC c Q E w→(∀e E' a' w',Agree [] n E' a'→Keep (wr c) a a'→Q e E' w'→Q' e.to a' w')→c.wp P Q' a w
 | .skip,Q,E,w,a,Q',_,hA,h,hq=>wp_skip (hq .normal E a w hA (Keep.refl _ a) h)
 | .region id ops draw,Q,E,w,a,Q',hok,hA,h,hq=>by
  unfold codeP at h
  cases draw with
  | false=>exact wp_region_list (opsP_sound hT (W:=dsts ops.toList) (λE' a' w' h1 h2 h3=>hq .normal E' a' w' h1 h2 h3) ops.toList E a w (λt ht=>ht) (.refl _ a) hA h)
  | true=>exact drawP_sound hT hm hok hA h (λE' a' w' h1 h2 h3=>hq .normal E' a' w' h1 h2 h3)
 | .seq x y,Q,E,w,a,Q',hok,hA,h,hq=>by
  simp only[codeOk,Bool.and_eq_true]at hok
  unfold codeP at h
  split at h
  ·refine wp_seq (codeP_sound hT hm x _ E w a _ hok.1 hA h ?_)
   intro e E' a' w' hA' hk hQ
   cases e with
   | normal=>
    refine codeP_sound hT hm y _ E' w' a' _ hok.2 hA' hQ ?_
    intro e E2 a2 w2 hA2 hk2 hQ2
    exact hq e E2 a2 w2 hA2 ((hk.mono λt ht=>List.mem_append_left _ ht).trans (hk2.mono λt ht=>List.mem_append_right _ ht)) hQ2
   | exit i=>exact hq (.exit i) E' a' w' hA' (hk.mono λt ht=>List.mem_append_left _ ht) hQ
   | ret=>exact hq .ret E' a' w' hA' (hk.mono λt ht=>List.mem_append_left _ ht) hQ
  ·rename_i S L hf
   split at h
   ·rename_i hd
    obtain⟨I,h1,h2⟩:=h
    refine wp_seq (codeP_sound hT hm x _ E w a _ hok.1 hA h1 ?_)
    intro e E' a' w' hA' hk hQ
    cases e with
    | normal=>
     cases hv:valsE E' S with
     | none=>simp only[hv]at hQ;exact hQ.elim
     | some vs=>
      simp only[hv]at hQ
      have h3:=Zm _ _ h2 vs (by rw[len'_eq];exact valsE_length hv) w' hQ
      have hN:Agree [] n [] a':=⟨hA'.size,hA'.defers,λt e _ he=>by cases he⟩
      refine codeP_sound hT hm y _ _ w' a' _ hok.2 (bindS_agree hA' (livE_agree hA hN hk (y7 hd)) hv) h3 ?_
      intro e E2 a2 w2 hA2 hk2 hQ2
      exact hq e E2 a2 w2 hA2 ((hk.mono λt ht=>List.mem_append_left _ ht).trans (hk2.mono λt ht=>List.mem_append_right _ ht)) hQ2
    | exit i=>exact hq (.exit i) E' a' w' hA' (hk.mono λt ht=>List.mem_append_left _ ht) hQ
    | ret=>exact hq .ret E' a' w' hA' (hk.mono λt ht=>List.mem_append_left _ ht) hQ
   ·cases h
 | .cond c x y,Q,E,w,a,Q',hok,hA,h,hq=>by
  simp only[codeOk,Bool.and_eq_true]at hok
  unfold codeP at h
  split at h
  ·rename_i he
   exact wp_cond_true (hA.ent (.nil c) he) (codeP_sound hT hm x _ E w a _ hok.1 hA h λe E' a' w' h1 h2 h3=>hq e E' a' w' h1 (h2.mono λt ht=>List.mem_append_left _ ht) h3)
  ·rename_i he
   exact wp_cond_false (hA.ent (.nil c) he) (codeP_sound hT hm y _ E w a _ hok.2 hA h λe E' a' w' h1 h2 h3=>hq e E' a' w' h1 (h2.mono λt ht=>List.mem_append_right _ ht) h3)
  ·rename_i v he
   obtain⟨r,rfl,h1,h2⟩:=h
   cases r with
   | true=>exact wp_cond_true (hA.ent (.nil c) he) (codeP_sound hT hm x _ _ w a _ hok.1 (hA.setTmp he rfl) (h1 rfl) λe E' a' w' h1 h2 h3=>hq e E' a' w' h1 (h2.mono λt ht=>List.mem_append_left _ ht) h3)
   | false=>exact wp_cond_false (hA.ent (.nil c) he) (codeP_sound hT hm y _ _ w a _ hok.2 (hA.setTmp he rfl) (h2 rfl) λe E' a' w' h1 h2 h3=>hq e E' a' w' h1 (h2.mono λt ht=>List.mem_append_right _ ht) h3)
  ·cases h
  ·cases h
 | .block id c,Q,E,w,a,Q',hok,hA,h,hq=>by
  unfold codeP at h
  refine wp_block (codeP_sound hT hm c _ E w a _ hok hA h ?_)
  intro e E' a' w' hA' hk hQ
  cases e with
  | normal=>exact hq .normal E' a' w' hA' hk hQ
  | exit i=>
   simp only at hQ
   show Exit.inBlock id Q' (.exit i) a' w'
   split at hQ
   ·rename_i hb
    obtain rfl:=beq_iff.1 hb
    simpa [Exit.inBlock,Ex.to] using hq .normal E' a' w' hA' hk hQ
   ·rename_i hb
    have hne:i≠id:=λe=>by rw[beq_iff.2 e]at hb;cases hb
    simpa [Exit.inBlock,Ex.to,hne] using hq (.exit i) E' a' w' hA' hk hQ
  | ret=>exact hq .ret E' a' w' hA' hk hQ
 | .loop c,Q,E,w,a,Q',hok,hA,h,hq=>by
  unfold codeP at h
  split at h
  ·rename_i S L hf
   split at h
   ·rename_i hd
    cases hv:valsE E S with
    | none=>rw[hv]at h;exact h.elim
    | some vs0=>
     rw[hv]at h
     obtain⟨I,μ,h1,h2⟩:=h
     refine wp_loop (λa' w'=>Agree [] n [] a'∧Keep (wr c) a a'∧∃E' vs,Agree [] n E' a'∧valsE E' S=some vs∧I vs w')
      (λa' w'=>μ (S.map λs=>a'.tmps.getD s undef) w') ⟨⟨hA.size,hA.defers,λt e _ he=>by cases he⟩,.refl _ a,E,vs0,hA,hv,h1⟩ ?_
     rintro a1 w1 ⟨hN,hk1,E1,vs,hA1,hv1,hI⟩
     have h3:=Zm _ _ h2 vs (by rw[len'_eq];exact valsE_length hv1) w1 hI
     have hval:∀(E2:Env) (a2:Act),Agree [] n E2 a2→∀(S:List Nat) (vs:List Value),valsE E2 S=some vs→(S.map λs=>a2.tmps.getD s undef)=vs:=by
      intro E2 a2 hA2 S
      induction S with
      | nil=>intro vs h;simp[valsE]at h;subst h;rfl
      | cons s r ih=>
       intro vs h
       simp only[valsE]at h
       split at h
       ·rename_i e he
        split at h
        ·rename_i vs' hv'
         cases h
         have:=hA2.get s e (by simp) he
         simp only[List.map_cons,ih vs' hv',List.cons.injEq,and_true]
         simp[Array.getD_eq_getD_getElem?,this]
        ·cases h
       ·cases h
     refine codeP_sound hT hm c _ _ w1 a1 _ hok (bindS_agree hA1 (livE_agree hA hN hk1 (y7 hd)) hv1) h3 ?_
     intro e E2 a2 w2 hA2 hk2 hQ2
     cases e with
     | normal=>
      cases hv2:valsE E2 S with
      | none=>simp only[hv2]at hQ2;exact hQ2.elim
      | some vs2=>
       simp only[hv2]at hQ2
       refine⟨⟨⟨hA2.size,hA2.defers,λt e _ he=>by cases he⟩,hk1.trans hk2,E2,vs2,hA2,hv2,hQ2.1⟩,?_⟩
       rw[hval E2 a2 hA2 S vs2 hv2,hval E1 a1 hA1 S vs hv1]
       exact hQ2.2
     | exit i=>exact hq (.exit i) E2 a2 w2 hA2 (hk1.trans hk2) hQ2
     | ret=>exact hq .ret E2 a2 w2 hA2 (hk1.trans hk2) hQ2
   ·cases h
  ·cases h
 | .exit id,Q,E,w,a,Q',_,hA,h,hq=>wp_exit (hq (.exit id) E a w hA (Keep.refl _ a) h)
 | .ret,Q,E,w,a,Q',_,hA,h,hq=>wp_ret (hq .ret E a w hA (Keep.refl _ a) h)
end
def resP(P:Program):List ResultVar→Env→World→(List Value→Prop)→Prop
 | [],E,w,K=>K []
 | .tmp t::r,E,w,K=>match E.get t with
  | some e=>resP P r E w λvs=>K (e.val::vs)
  | none=>False
 | .cell t ty::r,E,w,K=>match E.get t with
  | some e=>match tk P ty with
   | .one=>HLd e.val w λv=>resP P r E w λvs=>K (v::vs)
   | .agg k=>zk k e.val w λv=>resP P r E w λvs=>K (v::vs)
   | .bad=>False
  | none=>False
def tupV:List Value→Value
 | [v]=>v
 | vs=>.tuple vs.toArray
def argE:Nat→List Value→Env
 | _,[]=>[]
 | k,v::r=>(k,.v v)::argE (k+1) r
def funP(P:Program)(T:List Bool)(JL JC:Marks)(fn:Func)(args:List Value)(w:World)(R:Value→World→Prop):Prop:=match fn.body with
 | some c=>codeP P T fn.ntmps JL JC c (λe E w'=>match e with
  | .normal=>resP P fn.results.toList E w' λvs=>R (tupV vs) w'
  | .ret=>resP P fn.results.toList E w' λvs=>R (tupV vs) w'
  | .exit _=>False) (argE 0 args) w
 | none=>False
def funOk(P:Program)(fn:Func):Bool:=match fn.body with
 | some c=>codeOk P fn.ntmps c
 | none=>false
def resSem(tmps:Array Value):ResultVar→Sem Value
 | .tmp t=>pure (tmps.getD t undef)
 | .cell x t=>do loadVar t (← asAddr (tmps.getD x undef))
theorem resP_run{P:Program}{n:Nat}{E:Env}{a:Act}(hA:Agree [] n E a){w:World}:∀(l:List ResultVar) (K:List Value→Prop),resP P l E w K →
  ∃vs,(l.mapM (resSem a.tmps)).run P w= .ok vs w∧K vs
 | [],K,h=>⟨[],by simp,h⟩
 | .tmp t::r,K,h=>by
  unfold resP at h
  split at h
  ·rename_i e he
   obtain⟨vs,h1,h2⟩:=resP_run hA r _ h
   have:=hA.get t e (by simp) he
   have hx':a.tmps.getD t undef=e.val:=by simp[Array.getD_eq_getD_getElem?,this]
   refine⟨e.val::vs,?_,h2⟩
   have h0:(resSem a.tmps (.tmp t)).run P w= .ok e.val w:=by show (pure (a.tmps.getD t undef):Sem Value).run P w=_;rw[hx'];rfl
   simp only[List.mapM_cons,Sem.run_bind,h0,Result.andThen_ok,h1,Sem.run_pure]
  ·cases h
 | .cell x ty::r,K,h=>by
  unfold resP at h
  split at h
  ·rename_i e he
   have hx:=hA.get x e (by simp) he
   have hx':a.tmps.getD x undef=e.val:=by simp[Array.getD_eq_getD_getElem?,hx]
   split at h
   ·rename_i ht
    obtain⟨p,v,hp,hc,h⟩:=h
    obtain⟨vs,h1,h2⟩:=resP_run hA r _ h
    refine⟨v::vs,?_,h2⟩
    have h0:(resSem a.tmps (.cell x ty)).run P w= .ok v w:=by
     show (do loadVar ty (← asAddr (a.tmps.getD x undef)):Sem Value).run P w=_;rw[hx',hp];simp[asAddr,loadVar,(tk_one ht).1,hc]
    simp only[List.mapM_cons,Sem.run_bind,h0,Result.andThen_ok,h1,Sem.run_pure]
   ·rename_i k ht
    obtain⟨p,us,hp,hl,hc,h⟩:=h
    obtain⟨vs,h1,h2⟩:=resP_run hA r _ h
    subst hl
    refine⟨.agg us.toArray::vs,?_,h2⟩
    have h0:(resSem a.tmps (.cell x ty)).run P w= .ok (.agg us.toArray) w:=by
     show (do loadVar ty (← asAddr (a.tmps.getD x undef)):Sem Value).run P w=_;rw[hx',hp];simp[asAddr,loadVar,(tk_agg ht).1,run_sizeOf (tk_agg ht).2,run_loadCells_list w p us hc]
    simp only[List.mapM_cons,Sem.run_bind,h0,Result.andThen_ok,h1,Sem.run_pure]
   ·cases h
  ·cases h
theorem argE_get:∀(args:List Value) (k t:Nat) (e:Ent),(argE k args).get t=some e→∃v,e= .v v∧k≤t∧args[t-k]?=some v
 | [],k,t,e,h=>by cases h
 | v::r,k,t,e,h=>by
  simp only[argE,Env.get]at h
  split at h
  ·rename_i hb
   obtain rfl:=beq_iff.1 hb
   cases h
   exact⟨v,rfl,Nat.le_refl _,by simp⟩
  ·obtain⟨u,h1,h2,h3⟩:=argE_get r (k+1) t e h
   refine⟨u,h1,by omega,?_⟩
   rw[show t-k=(t-(k+1))+1 by omega]
   simpa using h3
theorem funP_sound{P:Program}{T:List Bool}{JL JC:Marks}(hT:Calls.Tab P T)(hm:P.follows .mixedOrders=true){f:FuncId}{fn:Func}{args:List Value}{w:World}{R:Value→World→Prop}(hf:P.funcs[f]?=some fn)
  (hok:funOk P fn=true) (hlen:Nat.ble (lenL args) fn.ntmps=true) (h:funP P T JL JC fn args w R):z6 P f args w R:=by
 unfold funP at h
 unfold funOk at hok
 split at h
 ·rename_i c hc
  rw[hc]at hok
  have hl:args.length≤fn.ntmps:=by
   have:∀l:List Value,lenL l=l.length:=λl=>by
    induction l with
    | nil=>rfl
    | cons v r ih=>simp[lenL,ih]
   rw[this]at hlen
   exact Nat.le_of_ble_eq_true hlen
  refine calls_of_wp hf hc (codeP_sound hT hm c _ _ w _ _ hok ⟨by simp;omega,rfl,λt e _ he=>?_⟩ h ?_)
  ·obtain⟨v,rfl,_,hv⟩:=argE_get _ _ _ _ he
   simp only[Nat.sub_zero]at hv
   have hlt:=(List.getElem?_eq_some_iff.1 hv).1
   rw[Array.getElem?_append_left (by simpa using hlt)]
   show _=some v
   simpa using hv
  ·have fin:∀(E':Env) (a':Act) (w':World),Agree [] fn.ntmps E' a'→resP P fn.results.toList E' w' (λvs=>R (tupV vs) w') →
     a'.defers=[]∧∃v,(results fn a'.tmps).run P w'= .ok v w'∧∃u,Ending.returned v= .returned u∧R u w':=by
    intro E' a' w' hA hr
    obtain⟨vs,h1,h2⟩:=resP_run hA _ _ hr
    refine⟨hA.defers,tupV vs,?_,_,rfl,h2⟩
    have h3:(fn.results.mapM (resSem a'.tmps)).run P w'= .ok vs.toArray w':=by
     rw[Array.mapM_eq_mapM_toList,Sem.run_map,h1];rfl
    have h4:results fn a'.tmps=(do
      let vs ← fn.results.mapM (resSem a'.tmps)
      pure (if h:vs.size=1 then vs[0] else .tuple vs)):=rfl
    rw[h4,Sem.run_bind,h3]
    simp only[Result.andThen_ok,Sem.run_pure,Result.ok.injEq,and_true]
    match vs with
    | []=>rfl
    | [v]=>rfl
    | v::u::r=>simp[tupV]
   intro e E' a' w' hA _ hQ
   cases e with
   | normal=>exact fin E' a' w' hA hQ
   | ret=>exact fin E' a' w' hA hQ
   | exit i=>cases hQ
 ·cases h
def tabOk:List Bool→List Func→Bool
 | [],_=>true
 | true :: T, fn :: r => !(fn.name == "runtime.NumGoroutine") && !fn.body.isNone && tabOk T r
 | false::T,_::r=>tabOk T r
 | _::_,[]=>false
theorem Zd : ∀ (T : List Bool) (l : List Func), tabOk T l = true → ∀ f, T.getD f false = true → ∃ fn, l[f]? = some fn ∧ (fn.name == "runtime.NumGoroutine") = false ∧ fn.body.isNone = false
 | [],l,_,f,h=>by simp at h
 | true::T,[],hk,f,h=>by simp[tabOk]at hk
 | false::T,[],hk,f,h=>by simp[tabOk]at hk
 | true::T,fn::r,hk,f,h=>by
  simp only[tabOk,Bool.and_eq_true,Bool.not_eq_true']at hk
  cases f with
  | zero=>exact⟨fn,rfl,hk.1.1,hk.1.2⟩
  | succ f=>obtain⟨g,h1,h2⟩:=Zd T r hk.2 f (by simpa using h);exact⟨g,by simpa using h1,h2⟩
 | false::T,fn::r,hk,f,h=>by
  cases f with
  | zero=>simp at h
  | succ f=>obtain⟨g,h1,h2⟩:=Zd T r hk f (by simpa using h);exact⟨g,by simpa using h1,h2⟩
theorem callTab_ok(P:Program)(T:List Bool)(h:tabOk T P.funcs.toList=true):Calls.Tab P T:=λf hf=>by
 obtain⟨fn,h1,h2⟩:=Zd T _ h f hf
 exact⟨fn,by simpa using h1,h2⟩
end Go.Proofs.YtfenmffiidchcaaGreat
