/-
  Texts of the proof, joined: Lib1, Lib2.
-/
import Derived.Test.YtfenmffiidchcaaGreatJ6
import Derived.WalkKit
import Derived.WalkSpells
import Derived.WalkLawsBesides
import Derived.Deep.QuietTactic
import Derived.BigQuiet
import Derived.Deep.RegionHeld3
import Derived.Deep.AppendLies
import Derived.Deep.AppendSrc
import Derived.Deep.RegionLaw
import Derived.Deep.DrawnRows
import Derived.Deep.DeepCutAuto
import Derived.Lib.Hide
namespace Go.Proofs.YtfenmffiidchcaaGreat
set_option linter.unusedVariables false
open Go.RowKit
abbrev MS:=Nat->Prop
structure Fr(M:MS)(w w':World):Prop where
 os:w'.os=w.os
 tape:w'.tape=w.tape
 output:w'.output=w.output
 size:w.heap.size<=w'.heap.size
 block:∀k,k<w.heap.size->¬M k->w'.heap[k]?=w.heap[k]?
theorem Fr.cell{M:MS}{w w':World}(h:Fr M w w'){p:Addr}{v:Value}(hc:w.cell? p=some v)(hm:¬M p.block):w'.cell? p=some v:=
 (World.cell?_of_block (h.block p.block (World.block_lt_of_cell? w p hc) hm)).trans hc
abbrev rK:MS:=λ_=>False
structure lC(α:Type) where
 n:Nat
 rd:World->MS->α->List Value->Prop
 len:∀{w M x cs},rd w M x cs->cs.length=n
 one:∀{w M x cs},rd w M x cs->∀u∈cs,u.oneCell'=true
 oA:∀{w w' M M' x cs},rd w M x cs->Fr M w w'->(∀k,k<w.heap.size->M' k->M k)->rd w' M' x cs
def lC.plain{α:Type}(n:Nat)(f:α->List Value)(hl:∀x,(f x).length=n)(h1:∀x,∀u∈f x,u.oneCell'=true):lC α where
 n:=n
 rd:=λ_ _ x cs=>cs=f x
 len:=λh=>by rw[h];exact hl _
 one:=λh=>by rw[h];exact h1 _
 oA:=λh _ _=>h
def C1:lC ByteArray:=.plain 1 (λs=>[.string s]) (λ_=>rfl) (λ_ u hu=>by simp at hu;subst hu;rfl)
def pX(k:IntKind):lC Int:=.plain 1 (λn=>[.int k n]) (λ_=>rfl) (λ_ u hu=>by simp at hu;subst hu;rfl)
def Ug:lC Bool:=.plain 1 (λn=>[.bool n]) (λ_=>rfl) (λ_ u hu=>by simp at hu;subst hu;rfl)
def At(w:World)(M:MS)(b off:Nat)(cs:List Value):Prop:=(cs≠[]->¬M b)/\∀j u,cs[j]?=some u->w.cell? ⟨b,off+j,none⟩=some u
theorem At.oA{w w':World}{M M':MS}{b off:Nat}{cs:List Value}(h:At w M b off cs)(hf:Fr M w w')(hM:∀k,k<w.heap.size->M' k->M k):At w' M' b off cs:=by
 refine⟨λiW hm=>?_,λj u hu=>?_⟩
 ·cases cs with
  | nil=>exact iW rfl
  | cons u r=>exact h.1 iW (hM b (World.block_lt_of_cell? w _ (h.2 0 u rfl)) hm)
 ·exact hf.cell (h.2 j u hu) (h.1 (λe=>by subst e;simp at hu))
structure sn{α:Type}(T:lC α)(w:World)(M:MS)(xs:List α)(v:Value):Prop where
 out:∃a cap,v= .slice a xs.length cap/\xs.length<=cap /\
  ∀i (h:i<xs.length),∃b off cs,a=some ⟨b,off,none⟩/\T.rd w M xs[i] cs/\At w M b (off+i*T.n) cs
theorem sn.oA{α:Type}{T:lC α}{w w':World}{M M':MS}{xs:List α}{v:Value}(h:sn T w M xs v)(hf:Fr M w w')(hM:∀k,k<w.heap.size->M' k->M k):sn T w' M' xs v:=by
 obtain⟨a,cap,hv,hc,hx⟩:=h.out
 refine⟨a,cap,hv,hc,λi hi=>?_⟩
 obtain⟨b,off,cs,ha,hr,kG⟩:=hx i hi
 exact⟨b,off,cs,ha,T.oA hr hf hM,kG.oA hf hM⟩
theorem sn.nil{α:Type}(T:lC α)(w:World)(M:MS):sn T w M [] (.slice none 0 0):=⟨none,0,rfl,Nat.le_refl _,λi h=>by simp at h⟩
def I2{α:Type}(T:lC α):lC (List α) where
 n:=1
 rd:=λw M xs cs=>∃v,cs=[v]/\sn T w M xs v
 len:=λ⟨_,h,_⟩=>by rw[h];rfl
 one:=λ⟨v,h,hr⟩ u hu=>by
  subst h;simp at hu;subst hu
  obtain⟨a,cap,hv,_⟩:=hr.out
  subst hv;rfl
 oA:=λ⟨v,h,hr⟩ hf hM=>⟨v,h,hr.oA hf hM⟩
theorem Pa{n:Nat}:∀(l:List (List Value)),(∀x∈l,x.length=n)->l.flatten.length=l.length*n
 | [],_=>by simp
 | x::l,h=>by
  rw[List.flatten_cons,List.length_append,h x (by simp),Pa l (λy hy=>h y (by simp[hy])),List.length_cons,Nat.add_mul];omega
theorem Gr{n:Nat}:∀(l:List (List Value)) (_:∀x∈l,x.length=n) (i j:Nat) (h:i<l.length) (u:Value),l[i][j]?=some u->l.flatten[i*n+j]?=some u
 | x::l,hl,0,j,_,u,hu=>by
  have hj:j<x.length:=by simp at hu;exact (List.getElem?_eq_some_iff.1 hu).1
  rw[List.flatten_cons,List.getElem?_append_left (by omega)]
  simpa using hu
 | x::l,hl,i+1,j,h,u,hu=>by
  have hx:=hl x (by simp)
  have:=Gr l (λy hy=>hl y (by simp[hy])) i j (by simp at h;omega) u (by simpa using hu)
  rw[List.flatten_cons,List.getElem?_append_right (by rw[hx,Nat.add_mul];omega),hx]
  rwa [show (i+1)*n+j-n=i*n+j by rw[Nat.add_mul];omega]
section
variable {P:Program} {w:World} {ops:Array Oper} {rest:List Oper} {o:Oper} {a:Act} {Q:Exit->Act->World->Prop} {K:Act->World->Prop}
end
end Go.Proofs.YtfenmffiidchcaaGreat
