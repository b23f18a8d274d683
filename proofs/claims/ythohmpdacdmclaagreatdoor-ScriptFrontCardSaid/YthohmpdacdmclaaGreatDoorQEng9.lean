/- Part. -/
import Derived.Test.YthohmpdacdmclaaGreatDoorQEng8
import Derived.StillTail
namespace Go.Proofs.YthohmpdacdmclaaGreatDoor
set_option linter.all false
open Go.RowKit
def uuf:=@Calls.mono
def yyr:=@List.mem_append_left
def xxl:=@List.mem_append_right
section
variable {P:Program} {T:List Bool} {w:Ζ} {K K':Ε->Ζ->Prop} {ev:Operand->Ε} {ty:Ι}
def Km:∀{vs:Ξ} {a:Addr} {i:Nat} {w:Ζ} {K K':Ζ->Prop},(∀w,K w->K' w)->tg a i vs w K->tg a i vs w K'
 | [],_,_,_,_,_,hk,h=>hk _ h
 | v::r,a,i,w,K,K',hk,⟨h1,h2,h3,h4⟩=>⟨h1,h2,h3,Km hk h4⟩
def zJ.mono{f:FuncId}{args:Ξ}(h:zJ P f args w K)(hk:∀v w,K v w->K' v w):zJ P f args w K':=
 uuf h λe w' ⟨v,he,x⟩=>⟨v,he,hk v w' x⟩
def zt.mono{sz gb:Nat}{z:Ξ}{e:Ι}{x y:Ε}(h:zt sz gb z e x y w K)(hk:∀v w,K v w->K' v w):zt sz gb z e x y w K':=by
 obtain⟨a,len,cap,n,cs,h1,h2,h3,h4,h5,h6⟩:=h;refine⟨a,len,cap,n,cs,h1,h2,h3,h4,λhc=>?_,λhc=>?_⟩
 ·have:=h5 hc;cases a with
  | none=>exact hk _ _ this
  | some p=>exact Km (λw h=>hk _ _ h) this
 obtain⟨mZ,h7,h8⟩:=h6 hc;exact⟨mZ,h7,λc h9 sP=>hk _ _ (h8 c h9 sP)⟩
set_option maxHeartbeats 1000000 in
def V4(o:Op)(h:dZ P T o ty ev w K)(hk:∀v w,K v w->K' v w):dZ P T o ty ev w K':=by
 cases o with
 | move x=>exact hk _ _ h
 | assign x=>exact hk _ _ h
 | alloc e=>simp only[dZ]at h ⊢;split at h<;>first|exact hk _ _ h|exact h.elim
 | box e x=>
  simp only[dZ]at h ⊢;split at h
  ·exact⟨h.1,hk _ _ h.2⟩
  ·obtain⟨vs,h1,h2⟩:=h;exact⟨vs,h1,hk _ _ h2⟩
  exact h.elim
 | build t ps=>
  simp only[dZ]at h ⊢;repeat' (split at h)
  all_goals first|exact h.elim|(obtain⟨c,h1,h2⟩:=h;exact⟨c,h1,hk _ _ h2⟩)
 | buildSlice t len ps=>
  simp only[dZ]at h ⊢;repeat' (split at h)
  all_goals first|exact h.elim|(obtain⟨c,h1,h2⟩:=h;exact⟨c,h1,hk _ _ h2⟩)
 | load t x=>
  simp only[dZ]at h ⊢;split at h
  ·obtain⟨a,v,h1,h2,h3⟩:=h;exact⟨a,v,h1,h2,hk _ _ h3⟩
  ·obtain⟨a,v,h1,h2,h3,h4⟩:=h;exact⟨a,v,h1,h2,h3,hk _ _ h4⟩
  exact h.elim
 | store t x v=>
  simp only[dZ]at h ⊢;repeat' (split at h)
  all_goals first
   | exact h.elim
   | (obtain⟨a,u,h1,h2,h3,h4,h5⟩:=h;exact⟨a,u,h1,h2,h3,h4,hk _ _ h5⟩)
   | (obtain⟨a,u,h1,h2,h3,h4⟩:=h;exact⟨a,u,h1,h2,h3,Km (λw h=>hk _ _ h) h4⟩)
 | nilCheck x=>obtain⟨a,h1,h2⟩:=h;exact⟨a,h1,hk _ _ h2⟩
 | binOp op t x y u=>
  simp only[dZ]at h ⊢;repeat' (split at h)
  all_goals first
   | exact h.elim
   | (obtain⟨v,h1,h2⟩:=h;exact⟨v,h1,hk _ _ h2⟩)
   | (obtain⟨xs,ys,v,h1,h2,h3,h4⟩:=h;exact⟨xs,ys,v,h1,h2,h3,hk _ _ h4⟩)
 | unOp op t x=>
  cases op with
  | not=>obtain⟨b,h1,h2⟩:=h;exact⟨b,h1,hk _ _ h2⟩
  | neg=>obtain⟨b,n,h1,h2⟩:=h;exact⟨b,n,h1,hk _ _ h2⟩
  | xor=>obtain⟨b,n,h1,h2⟩:=h;exact⟨b,n,h1,hk _ _ h2⟩
  | _=>exact h.elim
 | convert s d x=>
  simp only[dZ]at h ⊢;split at h
  ·obtain⟨b,n,h1,h2⟩:=h;exact⟨b,n,h1,hk _ _ h2⟩
  ·obtain⟨b,h1,h2⟩:=h;exact⟨b,h1,hk _ _ h2⟩
  ·obtain⟨v,w',h1,h2⟩:=h;exact⟨v,w',h1,hk _ _ h2⟩
  ·obtain⟨v,w',h1,h2⟩:=h;exact⟨v,w',h1,hk _ _ h2⟩
  obtain⟨v,h1,h2⟩:=h;exact⟨v,h1,hk _ _ h2⟩
 | makeFunc fn f c=>simp only[dZ]at h ⊢;split at h<;>first|exact hk _ _ h|exact h.elim
 | makeSlice t x y=>
  simp only[dZ]at h ⊢;repeat' (split at h)
  all_goals first|exact h.elim|(obtain⟨n,c,kl,kc,h1,h2,h3,h4,h5,h6⟩:=h;exact⟨n,c,kl,kc,h1,h2,h3,h4,h5,hk _ _ h6⟩)
 | slice t x lo hi mx=>
  simp only[dZ]at h ⊢;repeat' (split at h)
  all_goals first
   | exact h.elim
   | (obtain⟨a,b,c,d,e,f,h1,h2,h3,h4,h5,h6,h7,h8⟩:=h;exact⟨a,b,c,d,e,f,h1,h2,h3,h4,h5,h6,h7,hk _ _ h8⟩)
   | (obtain⟨a,b,c,h1,h2,h3,h4,h5,h8⟩:=h;exact⟨a,b,c,h1,h2,h3,h4,h5,hk _ _ h8⟩)
 | fieldAddr s x f=>simp only[dZ]at h ⊢;split at h<;>first|exact h.elim|(obtain⟨a,h1,h2⟩:=h;exact⟨a,h1,hk _ _ h2⟩)
 | indexAddr t x i=>
  simp only[dZ]at h ⊢;repeat' (split at h)
  all_goals first
   | exact h.elim
   | (obtain⟨a,b,c,d,e,h1,h2,h3,h4⟩:=h;exact⟨a,b,c,d,e,h1,h2,h3,hk _ _ h4⟩)
   | (obtain⟨a,d,e,h1,h2,h3,h4⟩:=h;exact⟨a,d,e,h1,h2,h3,hk _ _ h4⟩)
 | extract x i=>obtain⟨a,v,h1,h2,h3⟩:=h;exact⟨a,v,h1,h2,hk _ _ h3⟩
 | field t x f=>obtain⟨v,h1,h2⟩:=h;exact⟨v,h1,hk _ _ h2⟩
 | index t x i=>obtain⟨v,h1,h2⟩:=h;exact⟨v,h1,hk _ _ h2⟩
 | lookup t x i ok=>obtain⟨v,h1,h2⟩:=h;exact⟨v,h1,hk _ _ h2⟩
 | mapUpdate t m k x=>obtain⟨v,w',h1,h2⟩:=h;exact⟨v,w',h1,hk _ _ h2⟩
 | insert t m k x=>obtain⟨v,w',h1,h2⟩:=h;exact⟨v,w',h1,hk _ _ h2⟩
 | mapEntry t m k=>obtain⟨v,w',h1,h2⟩:=h;exact⟨v,w',h1,hk _ _ h2⟩
 | entryStore t m s x=>obtain⟨v,w',h1,h2⟩:=h;exact⟨v,w',h1,hk _ _ h2⟩
 | makeMap t r=>cases r with
  | none=>exact hk _ _ h
  | some x=>exact h.elim
 | call c=>
  obtain⟨callee,args,wc⟩:=c;cases callee with
  | value g=>
   cases g with
   | func f=>
    simp only[dZ]at h ⊢;split at h
    ·exact h.mono hk
    obtain⟨v,w',h1,h2⟩:=h;exact⟨v,w',h1,hk _ _ h2⟩
   | tmp t=>obtain⟨f,a,b,h1,h2,h3⟩:=h;exact⟨f,a,b,h1,h2,h3.mono hk⟩
   | _=>exact h.elim
  | invoke r m=>exact h.elim
  | builtin b=>
   cases b with
   | len=>
    simp only[dZ]at h ⊢;repeat' (split at h)
    all_goals first
     | exact h.elim
     | (obtain⟨a,n,c,h1,h2⟩:=h;exact⟨a,n,c,h1,hk _ _ h2⟩)
     | (obtain⟨v,h1,h2⟩:=h;exact⟨v,h1,hk _ _ h2⟩)
   | min=>simp only[dZ]at h ⊢;split at h<;>first|exact h.elim|(obtain⟨k,a,b,h1,h2,h3⟩:=h;exact⟨k,a,b,h1,h2,hk _ _ h3⟩)
   | max=>simp only[dZ]at h ⊢;split at h<;>first|exact h.elim|(obtain⟨k,a,b,h1,h2,h3⟩:=h;exact⟨k,a,b,h1,h2,hk _ _ h3⟩)
   | append=>
    simp only[dZ]at h ⊢;repeat' (split at h)
    all_goals first|exact h.elim|exact zt.mono h hk|(obtain⟨v,w',h1,h2⟩:=h;exact⟨v,w',h1,hk _ _ h2⟩)
   | copy=>obtain⟨v,w',h1,h2⟩:=h;exact⟨v,w',h1,hk _ _ h2⟩
   | delete=>obtain⟨v,w',h1,h2⟩:=h;exact⟨v,w',h1,hk _ _ h2⟩
   | clear=>obtain⟨v,w',h1,h2⟩:=h;exact⟨v,w',h1,hk _ _ h2⟩
   | cap=>obtain⟨v,h1,h2⟩:=h;exact⟨v,h1,hk _ _ h2⟩
   | _=>exact h.elim
 | _=>exact h.elim
def QK(w:Ζ)(v:Ε):Ε->Ζ->Prop:=λu w'=>w'=w/\u=v
def HX(o:Op)(hf:gz P o=true)(h:dZ P T o ty ev w K):∃v,K v w/\∀w',(nM P o=true->w'=w)->dZ P T o ty ev w' (QK w' v):=by
 cases o with
 | move x=>exact⟨_,h,λw' _=>⟨rfl,rfl⟩⟩
 | build t ps=>
  simp only[dZ]at h ⊢;repeat' (split at h)
  all_goals first|exact h.elim|skip
  obtain⟨c,h1,h2⟩:=h;exact⟨_,h2,λw' _=>⟨c,h1,rfl,rfl⟩⟩
 | load t x=>
  simp only[dZ]at h ⊢;split at h
  ·obtain⟨a,v,h1,h2,h3⟩:=h;exact⟨_,h3,λw' hw=>by rw[hw rfl];exact⟨a,v,h1,h2,rfl,rfl⟩⟩
  ·obtain⟨a,v,h1,h2,h3,h4⟩:=h;exact⟨_,h4,λw' hw=>by rw[hw rfl];exact⟨a,v,h1,h2,h3,rfl,rfl⟩⟩
  exact h.elim
 | nilCheck x=>obtain⟨a,h1,h2⟩:=h;exact⟨_,h2,λw' _=>⟨a,h1,rfl,rfl⟩⟩
 | binOp op t x y u=>
  have cJ:∀fs,P.underlying t=some (.struct fs)->nM P (.binOp op t x y u)=true:=λfs Cu=>by simp only[nM,Cu]
  simp only[dZ]at h ⊢;split at h
  ·obtain⟨v,h1,h2⟩:=h;exact⟨_,h2,λw' _=>⟨v,h1,rfl,rfl⟩⟩
  ·obtain⟨v,h1,h2⟩:=h;exact⟨_,h2,λw' _=>⟨v,h1,rfl,rfl⟩⟩
  ·rename_i fs Cu;split at h
   ·obtain⟨xs,ys,v,h1,h2,h3,h4⟩:=h;exact⟨_,h4,λw' hw=>by rw[hw (cJ _ Cu)];exact⟨xs,ys,v,h1,h2,h3,rfl,rfl⟩⟩
   exact h.elim
  ·rename_i fs Cu;split at h
   ·obtain⟨xs,ys,v,h1,h2,h3,h4⟩:=h;exact⟨_,h4,λw' hw=>by rw[hw (cJ _ Cu)];exact⟨xs,ys,v,h1,h2,h3,rfl,rfl⟩⟩
   exact h.elim
  ·obtain⟨v,h1,h2⟩:=h;exact⟨_,h2,λw' _=>⟨v,h1,rfl,rfl⟩⟩
  ·obtain⟨v,h1,h2⟩:=h;exact⟨_,h2,λw' _=>⟨v,h1,rfl,rfl⟩⟩
  exact h.elim
 | unOp op t x=>
  cases op with
  | not=>obtain⟨b,h1,h2⟩:=h;exact⟨_,h2,λw' _=>⟨b,h1,rfl,rfl⟩⟩
  | neg=>obtain⟨b,n,h1,h2⟩:=h;exact⟨_,h2,λw' _=>⟨b,n,h1,rfl,rfl⟩⟩
  | xor=>obtain⟨b,n,h1,h2⟩:=h;exact⟨_,h2,λw' _=>⟨b,n,h1,rfl,rfl⟩⟩
  | _=>exact h.elim
 | convert s d x=>
  simp only[dZ,gz,nM]at h hf ⊢;split at h
  ·obtain⟨b,n,h1,h2⟩:=h;exact⟨_,h2,λw' _=>⟨b,n,h1,rfl,rfl⟩⟩
  ·obtain⟨b,h1,h2⟩:=h;exact⟨_,h2,λw' _=>⟨b,h1,rfl,rfl⟩⟩
  ·rename_i hs hd;simp only[hs,hd]at hf;cases hf
  ·rename_i hs hd;simp only[hs,hd]at hf;cases hf
  obtain⟨v,h1,h2⟩:=h;exact⟨_,h2,λw' hw=>by rw[hw (by split<;>simp_all)];exact⟨v,h1,rfl,rfl⟩⟩
 | makeFunc fn f c=>
  simp only[dZ]at h ⊢;split at h
  ·exact⟨_,h,λw' _=>⟨rfl,rfl⟩⟩
  exact h.elim
 | slice t x lo hi mx=>
  simp only[dZ]at h ⊢;repeat' (split at h)
  all_goals first
   | exact h.elim
   | (obtain⟨a,b,c,d,e,f,h1,h2,h3,h4,h5,h6,h7,h8⟩:=h;exact⟨_,h8,λw' _=>⟨a,b,c,d,e,f,h1,h2,h3,h4,h5,h6,h7,rfl,rfl⟩⟩)
   | (obtain⟨a,b,c,h1,h2,h3,h4,h5,h8⟩:=h;exact⟨_,h8,λw' _=>⟨a,b,c,h1,h2,h3,h4,h5,rfl,rfl⟩⟩)
 | fieldAddr s x f=>
  simp only[dZ]at h ⊢;split at h
  ·obtain⟨a,h1,h2⟩:=h;exact⟨_,h2,λw' _=>⟨a,h1,rfl,rfl⟩⟩
  exact h.elim
 | indexAddr t x i=>
  simp only[dZ]at h ⊢;repeat' (split at h)
  all_goals first
   | exact h.elim
   | (obtain⟨a,b,c,d,e,h1,h2,h3,h4⟩:=h;exact⟨_,h4,λw' _=>⟨a,b,c,d,e,h1,h2,h3,rfl,rfl⟩⟩)
   | (obtain⟨a,d,e,h1,h2,h3,h4⟩:=h;exact⟨_,h4,λw' _=>⟨a,d,e,h1,h2,h3,rfl,rfl⟩⟩)
 | extract x i=>obtain⟨a,v,h1,h2,h3⟩:=h;exact⟨_,h3,λw' _=>⟨a,v,h1,h2,rfl,rfl⟩⟩
 | field t x f=>obtain⟨v,h1,h2⟩:=h;exact⟨_,h2,λw' hw=>by rw[hw rfl];exact⟨v,h1,rfl,rfl⟩⟩
 | index t x i=>obtain⟨v,h1,h2⟩:=h;exact⟨_,h2,λw' hw=>by rw[hw rfl];exact⟨v,h1,rfl,rfl⟩⟩
 | lookup t x i ok=>obtain⟨v,h1,h2⟩:=h;exact⟨_,h2,λw' hw=>by rw[hw rfl];exact⟨v,h1,rfl,rfl⟩⟩
 | call c=>
  obtain⟨callee,args,wc⟩:=c;cases callee with
  | value g=>cases g<;>simp[gz]at hf
  | invoke r m=>exact h.elim
  | builtin b=>
   cases b with
   | len=>
    simp only[dZ,nM]at h ⊢;split at h
    ·rename_i x t hx ht;simp only[ht];split at h
     ·rename_i e hu;obtain⟨a,n,c,h1,h2⟩:=h;exact⟨_,h2,λw' _=>⟨a,n,c,h1,rfl,rfl⟩⟩
     ·rename_i hu;obtain⟨s,h1,h2⟩:=h;exact⟨_,h2,λw' _=>⟨s,h1,rfl,rfl⟩⟩
     obtain⟨v,h1,h2⟩:=h;exact⟨_,h2,λw' hw=>by rw[hw (by split<;>simp_all)];exact⟨v,h1,rfl,rfl⟩⟩
    exact h.elim
   | min=>
    simp only[dZ]at h ⊢;split at h
    ·obtain⟨k,a,b,h1,h2,h3⟩:=h;exact⟨_,h3,λw' _=>⟨k,a,b,h1,h2,rfl,rfl⟩⟩
    exact h.elim
   | max=>
    simp only[dZ]at h ⊢;split at h
    ·obtain⟨k,a,b,h1,h2,h3⟩:=h;exact⟨_,h3,λw' _=>⟨k,a,b,h1,h2,rfl,rfl⟩⟩
    exact h.elim
   | cap=>obtain⟨v,h1,h2⟩:=h;exact⟨_,h2,λw' hw=>by rw[hw rfl];exact⟨v,h1,rfl,rfl⟩⟩
   | _=>simp[gz]at hf
 | pick c a b=>exact h.elim
 | _=>simp[gz]at hf
end
def valOf(E:Env)(t:Nat):Option Ε:=(E.get t).map gN.val
def fe(d:Option Nat)(E E':Env):Prop:=∀t,d≠some t->valOf E' t=valOf E t
def fe.refl(d:Option Nat)(E:Env):fe d E E:=λ_ _=>rfl
def fe.trans{d:Option Nat}{A B C:Env}(h:fe d A B)(k:fe d B C):fe d A C:=λt ht=>(k t ht).trans (h t ht)
def fe.Bj{d:Option Nat}{A B:Env}(h:fe none A B):fe d A B:=λt _=>h t (by simp)
def KC(E:Env)(s t:Nat)(e:gN):valOf ((s,e)::E) t=if s=t then some e.val else valOf E t:=by
 unfold valOf;simp only[Env.get];split
 ·rename_i h;simp[beq_iff.1 h]
 rename_i h;have:s≠t:=λe=>by rw[beq_iff.2 e]at h;cases h
 simp[this]
def fe.put(n:Nat)(E:Env)(d:Option Nat)(e:gN):fe d E (E.put n d e):=by
 intro t ht;unfold Env.put;cases d with
 | none=>rfl
 | some d=>
  have:d≠t:=λx=>ht (by rw[x]);simp only;split
  ·rw[KC,zzb this]
  rfl
def fe.mark{E:Env}{s:Nat}{e e':gN}(h:E.get s=some e')(hv:e.val=e'.val):fe none E ((s,e)::E):=by
 intro t _;rw[KC];split
 ·rename_i hs;subst hs;simp[valOf,h,hv]
 rfl
def fe.l4{E:Env}{x:Operand}{v:Ε}{e:gN}(h:E.gd x=some (.v v))(hv:e.val=v):fe none E (l4 E x e):=by
 cases x with
 | tmp t=>exact fe.mark h hv
 | const c=>exact .refl _ _
 | global g=>exact .refl _ _
 | func f=>exact .refl _ _
def HI{E E':Env}{x:Operand}(h:∀t,x= .tmp t->valOf E' t=valOf E t):E'.ev x=E.ev x:=by
 cases x with
 | tmp t=>
  have:=h t rfl;unfold valOf at this;simp only[Env.ev,Env.gd];cases h1:E.get t<;>cases h2:E'.get t<;>simp_all
 | const c=>rfl
 | global g=>rfl
 | func f=>rfl
def Cl{E E':Env}{x:Operand}(h:∀t,x= .tmp t->valOf E' t=valOf E t):E'.has x=E.has x:=by
 cases x with
 | tmp t=>
  have:=h t rfl;unfold valOf at this;simp only[Env.has,Env.gd];cases h1:E.get t<;>cases h2:E'.get t<;>simp_all
 | const c=>rfl
 | global g=>rfl
 | func f=>rfl
def Ac{E:Env}{x:Operand}{e:gN}(h:E.gd x=some e):E.ev x=e.val:=by simp[Env.ev,h]
section
variable {P:Program} {T:List Bool} {n:Nat}
def bz4{o:Oper}{E:Env}{w:Ζ}{K:Env->Ζ->Prop}(h:sq P T n o E w K):sq P T n o E w λE' w'=>fe o.dst E E'/\K E' w':=by
 unfold sq at h ⊢;have jG:∀(E0:Env) (x:Option gN) (K:Env->Prop),fe none E E0->oF n E0 o.dst x K->oF n E0 o.dst x λE'=>fe o.dst E E'/\K E':=by
  intro E0 x K h0 h;unfold oF at h ⊢;split at h
  ·exact⟨h0.Bj.trans (fe.put n E0 o.dst _),h⟩
  exact h.elim
 split at h
 ·exact jG E _ _ (.refl _ _) h
 ·exact jG E _ _ (.refl _ _) h
 ·split at h
  ·exact jG E _ _ (.refl _ _) h
  ·exact jG E _ _ (.refl _ _) h
  ·rename_i x hx;obtain⟨r,rfl,h1,h2⟩:=h;exact⟨r,rfl,λe=>jG _ _ _ (fe.l4 hx (by rw[e];rfl)) (h1 e),λe=>jG _ _ _ (fe.l4 hx (by rw[e];rfl)) (h2 e)⟩
  ·exact h.elim
  exact h.elim
 split at h
 ·exact V4 _ h λv w' hk=>⟨fe.put n E o.dst _,hk⟩
 exact h.elim
def bx4(x:Ε)(want:Bool):Bool:=match x with
 | .bool b=>b == want
 | _=>false
def mL(ops:List Oper)(o:Oper)(E:Env)(r:Bool):Prop:=match o.guard with
 | none=>r=true
 | some (j,want)=>∃s x,(ops[j]?).bind (·.dst)=some s/\valOf E s=some x/\r=bx4 x want
def HZ{ops:List Oper}{o:Oper}{E:Env}{run skip:Env->Prop}(h:tN ops o.guard E run skip):∃E',fe none E E'/\((mL ops o E true/\run E')\/(mL ops o E false/\skip E')):=by
 unfold mL;unfold tN at h;split at h
 ·rename_i hg;rw[hg];exact⟨E,.refl _ _,.inl ⟨rfl,h⟩⟩
 rename_i j want hg;rw[hg];split at h
 ·rename_i s hs;split at h
  ·rename_i he;split at h
   ·exact⟨E,.refl _ _,.inl ⟨⟨s,.bool true,hs,by simp[valOf,he,gN.val],rfl⟩,h⟩⟩
   exact⟨E,.refl _ _,.inr ⟨⟨s,.bool true,hs,by simp[valOf,he,gN.val],rfl⟩,h⟩⟩
  ·rename_i he;split at h
   ·exact⟨E,.refl _ _,.inr ⟨⟨s,.bool false,hs,by simp[valOf,he,gN.val],rfl⟩,h⟩⟩
   exact⟨E,.refl _ _,.inl ⟨⟨s,.bool false,hs,by simp[valOf,he,gN.val],rfl⟩,h⟩⟩
  ·rename_i x he;obtain⟨r,rfl,h1,h2⟩:=h;cases r with
   | true=>
    have h1:=h1 rfl;have mr:fe none E ((s,.t)::E):=fe.mark he rfl;split at h1
    ·exact⟨_,mr,.inl ⟨⟨s,.bool true,hs,by simp[valOf,he,gN.val],rfl⟩,h1⟩⟩
    exact⟨_,mr,.inr ⟨⟨s,.bool true,hs,by simp[valOf,he,gN.val],rfl⟩,h1⟩⟩
   | false=>
    have h2:=h2 rfl;have mr:fe none E ((s,.f)::E):=fe.mark he rfl;split at h2
    ·exact⟨_,mr,.inr ⟨⟨s,.bool false,hs,by simp[valOf,he,gN.val],rfl⟩,h2⟩⟩
    exact⟨_,mr,.inl ⟨⟨s,.bool false,hs,by simp[valOf,he,gN.val],rfl⟩,h2⟩⟩
  ·rename_i he;exact⟨E,.refl _ _,.inr ⟨⟨s,undef,hs,by simp[valOf,he,gN.val],rfl⟩,h⟩⟩
  exact h.elim
 exact h.elim
def mL.unique{ops:List Oper}{o:Oper}{E:Env}{r r':Bool}(h:mL ops o E r)(h':mL ops o E r'):r=r':=by
 unfold mL at h h';cases hg:o.guard with
 | none=>simp only[hg]at h h';rw[h,h']
 | some p=>
  obtain⟨j,want⟩:=p;simp only[hg]at h h';obtain⟨s,b,h1,h2,h3⟩:=h;obtain⟨s',b',k1,k2,k3⟩:=h';rw[h1]at k1;cases k1
  rw[h2]at k2;cases k2
  rw[h3,k3]
structure uJ(P:Program)(ops:List Oper)(n:Nat)(o:Oper)(E:Env)(w:Ζ)(r:Bool)(v:Ε):Prop where
 DC:mL ops o E r
 val:∀d,o.dst=some d->d<n->valOf E d=some v
 all:r=true->nM P o.op=true->∀x∈de o.op,E.has x=true
 skip:r=false->v=undef
 run:r=true->∀w',(nM P o.op=true->w'=w)->∀ρ:Operand->Ε,(∀f,ρ (.func f)= .func (.func f) #[] #[])->(∀x∈de o.op,E.has x=true->ρ x=E.ev x)->eP P (execOp ρ o) w' (QK w' v)
def uJ.mono{ops:List Oper}{o:Oper}{E E':Env}{w:Ζ}{r:Bool}{v:Ε}(h:uJ P ops n o E w r v)(hl:∀t∈looks ops o,valOf E' t=valOf E t)(hd:∀d,o.dst=some d->valOf E' d=valOf E d){w':Ζ}(hw:nM P o.op=true->w'=w):
  uJ P ops n o E' w' r v:=by
 have dY:∀x∈de o.op,∀t,x= .tmp t->valOf E' t=valOf E t:=λx hx t ht=>hl t (by
  unfold looks;refine yyr _ (List.mem_filterMap.2 ⟨x,hx,?_⟩);rw[ht])
 refine⟨?_,λd h1 h2=>by rw[hd d h1];exact h.val d h1 h2,λhr cJ x hx=>by rw[Cl (λt ht=>dY x hx t ht)];exact h.all hr cJ x hx,h.skip,λhr Bi xd ρ hF hρ=>?_⟩
 ·have:=h.DC;unfold mL at this ⊢;split
  ·rename_i hg;rw[hg]at this;exact this
  rename_i j want hg;rw[hg]at this
  obtain⟨s,b,h1,h2,h3⟩:=this;refine⟨s,b,h1,?_,h3⟩;rw[hl s (by unfold looks;rw[hg];refine xxl _ ?_;simp[h1])];exact h2
 exact h.run hr Bi (λcJ=>(xd cJ).trans (hw cJ)) ρ hF (λx hx hh=>by rw[hρ x hx (by rw[Cl (λt ht=>dY x hx t ht)];exact hh)];exact HI (λt ht=>dY x hx t ht))
end
