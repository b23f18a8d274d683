/- Part. -/
import Derived.Test.YthohmpdacdmclaaGreatDoorJ6
import Derived.WalkSpells
import Derived.Deep.RegionLaw
import Derived.Deep.DrawnRows
import Derived.Deep.DeepCutAuto
import Derived.Lib.Hide
namespace Go.Proofs.YthohmpdacdmclaaGreatDoor
set_option linter.all false
open Go.RowKit
abbrev MS:=Nat->Prop
structure Fr(M:MS)(w w':Ζ):Prop where
 os:w'.os=w.os
 tape:w'.tape=w.tape
 output:w'.output=w.output
 size:w.heap.size<=w'.heap.size
 block:∀k,k<w.heap.size->¬M k->w'.heap[k]?=w.heap[k]?
def Fr.cell{M:MS}{w w':Ζ}(h:Fr M w w'){p:Addr}{v:Ε}(hc:w.cell? p=some v)(hm:¬M p.block):w'.cell? p=some v:=
 (World.cell?_of_block (h.block p.block (World.block_lt_of_cell? w p hc) hm)).trans hc
abbrev jJ:MS:=λ_=>False
structure gE(α:Type) where
 n:Nat
 rd:Ζ->MS->α->Ξ->Prop
 len:∀{w M x cs},rd w M x cs->cs.length=n
 one:∀{w M x cs},rd w M x cs->∀u∈cs,u.oneCell'=true
 keep:∀{w w' M M' x cs},rd w M x cs->Fr M w w'->(∀k,k<w.heap.size->M' k->M k)->rd w' M' x cs
def gE.plain{α:Type}(n:Nat)(f:α->Ξ)(hl:∀x,(f x).length=n)(h1:∀x,∀u∈f x,u.oneCell'=true):gE α where
 n:=n
 rd:=λ_ _ x cs=>cs=f x
 len:=λh=>by rw[h];exact hl _
 one:=λh=>by rw[h];exact h1 _
 keep:=λh _ _=>h
def Dx:gE Η:=.plain 1 (λs=>[.string s]) (λ_=>rfl) (λ_ u hu=>by simp at hu;subst hu;rfl)
def kU(k:IntKind):gE Int:=.plain 1 (λn=>[.int k n]) (λ_=>rfl) (λ_ u hu=>by simp at hu;subst hu;rfl)
def Xq:gE Bool:=.plain 1 (λn=>[.bool n]) (λ_=>rfl) (λ_ u hu=>by simp at hu;subst hu;rfl)
def At(w:Ζ)(M:MS)(b off:Nat)(cs:Ξ):Prop:=(cs≠[]->¬M b)/\∀j u,cs[j]?=some u->w.cell? ⟨b,off+j,none⟩=some u
def At.keep{w w':Ζ}{M M':MS}{b off:Nat}{cs:Ξ}(h:At w M b off cs)(hf:Fr M w w')(hM:∀k,k<w.heap.size->M' k->M k):At w' M' b off cs:=by
 refine⟨λcY hm=>?_,λj u hu=>?_⟩
 ·cases cs with
  | nil=>exact cY rfl
  | cons u r=>exact h.1 cY (hM b (World.block_lt_of_cell? w _ (h.2 0 u rfl)) hm)
 exact hf.cell (h.2 j u hu) (h.1 (λe=>by subst e;simp at hu))
structure kD{α:Type}(T:gE α)(w:Ζ)(M:MS)(xs:List α)(v:Ε):Prop where
 out:∃a cap,v= .slice a xs.length cap/\xs.length<=cap /\
  ∀i (h:i<xs.length),∃b off cs,a=some ⟨b,off,none⟩/\T.rd w M xs[i] cs/\At w M b (off+i*T.n) cs
def kD.keep{α:Type}{T:gE α}{w w':Ζ}{M M':MS}{xs:List α}{v:Ε}(h:kD T w M xs v)(hf:Fr M w w')(hM:∀k,k<w.heap.size->M' k->M k):kD T w' M' xs v:=by
 obtain⟨a,cap,hv,hc,hx⟩:=h.out;refine⟨a,cap,hv,hc,λi hi=>?_⟩;obtain⟨b,off,cs,ha,hr,gx⟩:=hx i hi;exact⟨b,off,cs,ha,T.keep hr hf hM,gx.keep hf hM⟩
def kD.nil{α:Type}(T:gE α)(w:Ζ)(M:MS):kD T w M [] Θ:=⟨none,0,rfl,zzj _,λi h=>by simp at h⟩
def Ge{α:Type}(T:gE α):gE (List α) where
 n:=1
 rd:=λw M xs cs=>∃v,cs=[v]/\kD T w M xs v
 len:=λ⟨_,h,_⟩=>by rw[h];rfl
 one:=λ⟨v,h,hr⟩ u hu=>by
  subst h;simp at hu;subst hu;obtain⟨a,cap,hv,_⟩:=hr.out;subst hv;rfl
 keep:=λ⟨v,h,hr⟩ hf hM=>⟨v,h,hr.keep hf hM⟩
def HV{n:Nat}:∀(l:List Ξ),(∀x∈l,x.length=n)->l.flatten.length=l.length*n
 | [],_=>by simp
 | x::l,h=>by
  rw[zz2,zza,h x (by simp),HV l (λy hy=>h y (by simp[hy])),zzi,yyv];omega
def Em{n:Nat}:∀(l:List Ξ) (_:∀x∈l,x.length=n) (i j:Nat) (h:i<l.length) (u:Ε),l[i][j]?=some u->l.flatten[i*n+j]?=some u
 | x::l,hl,0,j,_,u,hu=>by
  have hj:j<x.length:=by simp at hu;exact (zzh.1 hu).1
  rw[zz2,zzy (by omega)];simpa using hu
 | x::l,hl,i+1,j,h,u,hu=>by
  have hx:=hl x (by simp);have:=Em l (λy hy=>hl y (by simp[hy])) i j (by simp at h;omega) u (by simpa using hu);rw[zz2,yyk (by rw[hx,yyv];omega),hx]
  rwa [show (i+1)*n+j-n=i*n+j by rw[yyv];omega]
section
variable {P:Program} {w:Ζ} {ops:Array Oper} {rest:List Oper} {o:Oper} {a:Act} {Q:Exit->Act->Ζ->Prop} {K:Act->Ζ->Prop}
end
