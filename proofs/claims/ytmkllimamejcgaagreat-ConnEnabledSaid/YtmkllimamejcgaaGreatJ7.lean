/- Part of the proof. -/
import Derived.Test.YtmkllimamejcgaaGreatJ6
import Derived.WalkKit
import Derived.WalkSpells
import Derived.WalkLawsBesides
import Derived.Deep.QuietTactic
import Derived.BigQuiet
import Derived.Deep.RegionHeld3
import Derived.Deep.AppendLies
import Derived.Deep.AppendSrc
import Derived.Deep.RegionLaw
import Derived.Deep.DrawnRows
import Derived.Deep.DeepCutAuto
import Derived.Lib.Hide
namespace Go.Proofs.YtmkllimamejcgaaGreat
set_option linter.all false
open Go.RowKit
abbrev MS:=Nat->Prop
structure Fr(M:MS)(w w':Α):Prop where
 os:w'.os=w.os
 tape:w'.tape=w.tape
 output:w'.output=w.output
 size:w.heap.size<=w'.heap.size
 block:∀k,k<w.heap.size->¬M k->w'.heap[k]?=w.heap[k]?
def Fr.cell{M:MS}{w w':Α}(h:Fr M w w'){p:Addr}{v:Ω}(hc:w.cell? p=some v)(hm:¬M p.block):w'.cell? p=some v:=
 (World.cell?_of_block (h.block p.block (World.block_lt_of_cell? w p hc) hm)).trans hc
abbrev o7:MS:=λ_=>False
structure ml(α:Type) where
 n:Nat
 rd:Α->MS->α->Γ->Prop
 len:∀{w M x cs},rd w M x cs->cs.length=n
 one:∀{w M x cs},rd w M x cs->∀u∈cs,u.oneCell'=true
 keep:∀{w w' M M' x cs},rd w M x cs->Fr M w w'->(∀k,k<w.heap.size->M' k->M k)->rd w' M' x cs
def ml.plain{α:Type}(n:Nat)(f:α->Γ)(hl:∀x,(f x).length=n)(h1:∀x,∀u∈f x,u.oneCell'=true):ml α where
 n:=n
 rd:=λ_ _ x cs=>cs=f x
 len:=λh=>by rw[h];exact hl _
 one:=λh=>by rw[h];exact h1 _
 keep:=λh _ _=>h
def GB:ml Β:=.plain 1 (λs=>[.string s]) (λ_=>rfl) (λ_ u hu=>by simp at hu;subst hu;rfl)
def p4(k:IntKind):ml Int:=.plain 1 (λn=>[.int k n]) (λ_=>rfl) (λ_ u hu=>by simp at hu;subst hu;rfl)
def aFh:ml Bool:=.plain 1 (λn=>[.bool n]) (λ_=>rfl) (λ_ u hu=>by simp at hu;subst hu;rfl)
def At(w:Α)(M:MS)(b off:Nat)(cs:Γ):Prop:=(cs≠[]->¬M b)/\∀j u,cs[j]?=some u->w.cell? ⟨b,off+j,none⟩=some u
def At.keep{w w':Α}{M M':MS}{b off:Nat}{cs:Γ}(h:At w M b off cs)(hf:Fr M w w')(hM:∀k,k<w.heap.size->M' k->M k):At w' M' b off cs:=by
 refine⟨λiX hm=>?_,λj u hu=>?_⟩
 ·cases cs with
  | nil=>exact iX rfl
  | cons u r=>exact h.1 iX (hM b (World.block_lt_of_cell? w _ (h.2 0 u rfl)) hm)
 exact hf.cell (h.2 j u hu) (h.1 (λe=>by subst e;simp at hu))
structure pM{α:Type}(T:ml α)(w:Α)(M:MS)(xs:List α)(v:Ω):Prop where
 out:∃a cap,v= .slice a xs.length cap/\xs.length<=cap /\
  ∀i (h:i<xs.length),∃b off cs,a=some ⟨b,off,none⟩/\T.rd w M xs[i] cs/\At w M b (off+i*T.n) cs
def pM.keep{α:Type}{T:ml α}{w w':Α}{M M':MS}{xs:List α}{v:Ω}(h:pM T w M xs v)(hf:Fr M w w')(hM:∀k,k<w.heap.size->M' k->M k):pM T w' M' xs v:=by
 obtain⟨a,cap,hv,hc,hx⟩:=h.out;refine⟨a,cap,hv,hc,λi hi=>?_⟩;obtain⟨b,off,cs,ha,hr,mh⟩:=hx i hi;exact⟨b,off,cs,ha,T.keep hr hf hM,mh.keep hf hM⟩
def pM.nil{α:Type}(T:ml α)(w:Α)(M:MS):pM T w M [] (.slice none 0 0):=⟨none,0,rfl,zzi _,λi h=>by simp at h⟩
def Jb{α:Type}(T:ml α):ml (List α) where
 n:=1
 rd:=λw M xs cs=>∃v,cs=[v]/\pM T w M xs v
 len:=λ⟨_,h,_⟩=>by rw[h];rfl
 one:=λ⟨v,h,hr⟩ u hu=>by
  subst h;simp at hu;subst hu;obtain⟨a,cap,hv,_⟩:=hr.out;subst hv;rfl
 keep:=λ⟨v,h,hr⟩ hf hM=>⟨v,h,hr.keep hf hM⟩
def Kq{n:Nat}:∀(l:List (Γ)),(∀x∈l,x.length=n)->l.flatten.length=l.length*n
 | [],_=>by simp
 | x::l,h=>by
  rw[zz4,zza,h x (by simp),Kq l (λy hy=>h y (by simp[hy])),zzj,yyy];omega
def Ho{n:Nat}:∀(l:List (Γ)) (_:∀x∈l,x.length=n) (i j:Nat) (h:i<l.length) (u:Ω),l[i][j]?=some u->l.flatten[i*n+j]?=some u
 | x::l,hl,0,j,_,u,hu=>by
  have hj:j<x.length:=by simp at hu;exact (zzh.1 hu).1
  rw[zz4,zzr (by omega)];simpa using hu
 | x::l,hl,i+1,j,h,u,hu=>by
  have hx:=hl x (by simp);have:=Ho l (λy hy=>hl y (by simp[hy])) i j (by simp at h;omega) u (by simpa using hu);rw[zz4,yya (by rw[hx,yyy];omega),hx]
  rwa [show (i+1)*n+j-n=i*n+j by rw[yyy];omega]
section
variable {P:Program} {w:Α} {ops:Array Oper} {rest:List Oper} {o:Oper} {a:Act} {Q:Exit->Act->Α->Prop} {K:Act->Α->Prop}
end
