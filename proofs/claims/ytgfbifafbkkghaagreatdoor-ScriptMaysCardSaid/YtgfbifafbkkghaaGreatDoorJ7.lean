/- Part. -/
import Derived.Test.YtgfbifafbkkghaaGreatDoorJ6
import Derived.WalkSpells
import Derived.Deep.RegionLaw
import Derived.Deep.DrawnRows
import Derived.Deep.DeepCutAuto
import Derived.Lib.Hide
namespace Go.Proofs.YtgfbifafbkkghaaGreatDoor
set_option linter.all false
open Go.RowKit
abbrev MS:=Nat->Prop
structure Fr(M:MS)(w w':Ζ):Prop where
 os:w'.os=w.os
 tape:w'.tape=w.tape
 output:w'.output=w.output
 size:w.heap.size<=w'.heap.size
 block:∀k,k<w.heap.size->¬M k->w'.heap[k]?=w.heap[k]?
def Fr.cell{M:MS}{w w':Ζ}(h:Fr M w w'){p:Addr}{v:Ε}(hc:w.cell? p=some v)(hm:¬M p.block):w'.cell? p=some v:=
 (World.cell?_of_block (h.block p.block (World.block_lt_of_cell? w p hc) hm)).trans hc
abbrev gj:MS:=λ_=>False
structure fh(α:Type) where
 n:Nat
 rd:Ζ->MS->α->Ξ->Prop
 len:∀{w M x cs},rd w M x cs->cs.length=n
 one:∀{w M x cs},rd w M x cs->∀u∈cs,u.oneCell'=true
 bh:∀{w w' M M' x cs},rd w M x cs->Fr M w w'->(∀k,k<w.heap.size->M' k->M k)->rd w' M' x cs
def fh.plain{α:Type}(n:Nat)(f:α->Ξ)(hl:∀x,(f x).length=n)(h1:∀x,∀u∈f x,u.oneCell'=true):fh α where
 n:=n
 rd:=λ_ _ x cs=>cs=f x
 len:=λh=>by rw[h];exact hl _
 one:=λh=>by rw[h];exact h1 _
 bh:=λh _ _=>h
def tW:fh Η:=.plain 1 (λs=>[.string s]) (λ_=>rfl) (λ_ u hu=>by simp at hu;subst hu;rfl)
def lT(k:IntKind):fh Int:=.plain 1 (λn=>[.int k n]) (λ_=>rfl) (λ_ u hu=>by simp at hu;subst hu;rfl)
def OC:fh Bool:=.plain 1 (λn=>[.bool n]) (λ_=>rfl) (λ_ u hu=>by simp at hu;subst hu;rfl)
def At(w:Ζ)(M:MS)(b off:Nat)(cs:Ξ):Prop:=(cs≠[]->¬M b)/\∀j u,cs[j]?=some u->w.cell? ⟨b,off+j,none⟩=some u
def At.bh{w w':Ζ}{M M':MS}{b off:Nat}{cs:Ξ}(h:At w M b off cs)(hf:Fr M w w')(hM:∀k,k<w.heap.size->M' k->M k):At w' M' b off cs:=by
 refine⟨λd_ hm=>?_,λj u hu=>?_⟩
 ·cases cs with
  | nil=>exact d_ rfl
  | cons u r=>exact h.1 d_ (hM b (World.block_lt_of_cell? w _ (h.2 0 u rfl)) hm)
 exact hf.cell (h.2 j u hu) (h.1 (λe=>by subst e;simp at hu))
structure gE{α:Type}(T:fh α)(w:Ζ)(M:MS)(xs:List α)(v:Ε):Prop where
 out:∃a cap,v= .slice a xs.length cap/\xs.length<=cap /\
  ∀i (h:i<xs.length),∃b off cs,a=some ⟨b,off,none⟩/\T.rd w M xs[i] cs/\At w M b (off+i*T.n) cs
def gE.bh{α:Type}{T:fh α}{w w':Ζ}{M M':MS}{xs:List α}{v:Ε}(h:gE T w M xs v)(hf:Fr M w w')(hM:∀k,k<w.heap.size->M' k->M k):gE T w' M' xs v:=by
 obtain⟨a,cap,hv,hc,hx⟩:=h.out;refine⟨a,cap,hv,hc,λi hi=>?_⟩;obtain⟨b,off,cs,ha,hr,ie⟩:=hx i hi;exact⟨b,off,cs,ha,T.bh hr hf hM,ie.bh hf hM⟩
def gE.nil{α:Type}(T:fh α)(w:Ζ)(M:MS):gE T w M [] Θ:=⟨none,0,rfl,zzz _,λi h=>by simp at h⟩
def A1{α:Type}(T:fh α):fh (List α) where
 n:=1
 rd:=λw M xs cs=>∃v,cs=[v]/\gE T w M xs v
 len:=λ⟨_,h,_⟩=>by rw[h];rfl
 one:=λ⟨v,h,hr⟩ u hu=>by
  subst h;simp at hu;subst hu;obtain⟨a,cap,hv,_⟩:=hr.out;subst hv;rfl
 bh:=λ⟨v,h,hr⟩ hf hM=>⟨v,h,hr.bh hf hM⟩
def Cr{n:Nat}:∀(l:List Ξ),(∀x∈l,x.length=n)->l.flatten.length=l.length*n
 | [],_=>by simp
 | x::l,h=>by
  rw[zzt,zza,h x (by simp),Cr l (λy hy=>h y (by simp[hy])),zzg,yyo];omega
def xA{n:Nat}:∀(l:List Ξ) (_:∀x∈l,x.length=n) (i j:Nat) (h:i<l.length) (u:Ε),l[i][j]?=some u->l.flatten[i*n+j]?=some u
 | x::l,hl,0,j,_,u,hu=>by
  have hj:j<x.length:=by simp at hu;exact (zzf.1 hu).1
  rw[zzt,zzs (by omega)];simpa using hu
 | x::l,hl,i+1,j,h,u,hu=>by
  have hx:=hl x (by simp);have:=xA l (λy hy=>hl y (by simp[hy])) i j (by simp at h;omega) u (by simpa using hu);rw[zzt,zz3 (by rw[hx,yyo];omega),hx]
  rwa [show (i+1)*n+j-n=i*n+j by rw[yyo];omega]
section
variable {P:Program} {w:Ζ} {ops:Array Oper} {rest:List Oper} {o:Oper} {a:Act} {Q:Exit->Act->Ζ->Prop} {K:Act->Ζ->Prop}
end
