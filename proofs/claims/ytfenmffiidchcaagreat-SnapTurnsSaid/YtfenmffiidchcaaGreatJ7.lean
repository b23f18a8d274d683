/-
  Texts of the proof, joined: Lib1, Lib2.
-/
import Derived.Test.YtfenmffiidchcaaGreatJ6
import Derived.WalkKit
import Derived.WalkSpells
import Derived.WalkLawsBesides
import Derived.Deep.QuietTactic
import Derived.BigQuiet
import Derived.Deep.RegionHeld3
import Derived.Deep.AppendLies
import Derived.Deep.AppendSrc
import Derived.Deep.RegionLaw
import Derived.Deep.DrawnRows
import Derived.Deep.DeepCutAuto
import Derived.Lib.Hide
namespace Go.Proofs.YtfenmffiidchcaaGreat
set_option linter.unusedVariables false
open Go.RowKit
abbrev MS:=Nat->Prop
structure Fr(M:MS)(w w':World):Prop where
 os:w'.os=w.os
 tape:w'.tape=w.tape
 output:w'.output=w.output
 size:w.heap.size<=w'.heap.size
 block:∀k,k<w.heap.size->¬M k->w'.heap[k]?=w.heap[k]?
theorem Fr.refl(M:MS)(w:World):Fr M w w:=⟨rfl,rfl,rfl,Nat.le_refl _,λ_ _ _=>rfl⟩
theorem Fr.trans{M:MS}{a b c:World}(h:Fr M a b)(k:Fr M b c):Fr M a c:=
 ⟨k.os.trans h.os,k.tape.trans h.tape,k.output.trans h.output,Nat.le_trans h.size k.size,
  λi hi hm=>(k.block i (Nat.lt_of_lt_of_le hi h.size) hm).trans (h.block i hi hm)⟩
theorem Fr.trans'{M M':MS}{a b c:World}(h:Fr M a b)(k:Fr M' b c)(hM:∀i,i<a.heap.size->M' i->M i):Fr M a c:=
 ⟨k.os.trans h.os,k.tape.trans h.tape,k.output.trans h.output,Nat.le_trans h.size k.size,
  λi hi hm=>(k.block i (Nat.lt_of_lt_of_le hi h.size) (λx=>hm (hM i hi x))).trans (h.block i hi hm)⟩
theorem Fr.mono{M M':MS}{a b:World}(h:Fr M a b)(hM:∀i,i<a.heap.size->M i->M' i):Fr M' a b:=
 ⟨h.os,h.tape,h.output,h.size,λi hi hm=>h.block i hi (λx=>hm (hM i hi x))⟩
theorem Fr.drew{M:MS}{a w:World}(h:Fr M a w):Fr M a w.drew:=⟨h.os,h.tape,h.output,h.size,h.block⟩
theorem Fr.drewN{M:MS}{a w:World}(h:Fr M a w)(n:Nat):Fr M a (w.drewN n):=⟨h.os,h.tape,h.output,h.size,h.block⟩
theorem Fr.b9s{M:MS}{a w:World}(h:Fr M a.drew w):Fr M a w:=⟨h.os,h.tape,h.output,h.size,h.block⟩
theorem Fr.alloc{M:MS}{a w:World}(h:Fr M a w)(o:Obj):Fr M a (w.alloc o):=
 h.trans ⟨rfl,rfl,rfl,by simp,λk hk _=>Below.heap_alloc _ _ _ hk⟩
theorem Fr.setCell{M:MS}{a w:World}(h:Fr M a w){p:Addr}(hp:p.block<a.heap.size->M p.block)(u:Value):Fr M a (w.setCell p u):=
 ⟨h.os,h.tape,h.output,by simpa [World.setCell] using h.size,λk hk hm=>by
  rw[Below.heap_setCell _ _ _ _ (λe=>hm (by subst e;exact hp hk))]
  exact h.block k hk hm⟩
theorem Fr.grown{M:MS}{a w w':World}{row:Option Nat}(h:Fr M a w)(hg:w.grownBy w' row)(hr:∀k,row=some k->k<a.heap.size->M k):Fr M a w':=
 ⟨hg.os.trans h.os,hg.tape.trans h.tape,hg.output.trans h.output,Nat.le_trans h.size hg.size,λk hk hm=>
  (hg.block k (Nat.lt_of_lt_of_le hk h.size) (λe=>hm (hr k e.symm hk))).trans (h.block k hk hm)⟩
theorem Fr.below{w w':World}(h:Fr (λ_=>False) w w'):Below w.heap.size w w':=⟨h.os,h.tape,h.output,h.size,λk hk=>h.block k hk (λx=>x)⟩
theorem Fr.b9r{w w':World}{M:MS}(h:Below w.heap.size w w'):Fr M w w':=⟨h.os,h.tape,h.output,h.size,λk hk _=>h.block k hk⟩
theorem Fr.cell{M:MS}{w w':World}(h:Fr M w w'){p:Addr}{v:Value}(hc:w.cell? p=some v)(hm:¬M p.block):w'.cell? p=some v:=
 (World.cell?_of_block (h.block p.block (World.block_lt_of_cell? w p hc) hm)).trans hc
theorem a77{s t:ByteArray}(h:s.toList=t.toList):s=t:=by
 rw[ByteArray.toList_eq,ByteArray.toList_eq]at h
 cases s;cases t;congr 1;exact Array.toList_inj.1 h
theorem SF(s t:ByteArray):(s.toList == t.toList)=decide (s=t):=by
 by_cases h:s=t
 ·subst h;simp
 ·have h':¬s.toList=t.toList:=λe=>h (a77 e)
  simp[h,h']
theorem b91{s t:ByteArray}(h:s=t):(s.toList == t.toList)=true:=by rw[SF];simp[h]
theorem b90{s t:ByteArray}(h:¬s=t):(s.toList == t.toList)=false:=by rw[SF];simp[h]
def Dr(w w':World):Prop:=∃m,w'=w.drewN m
theorem Dr.refl(w:World):Dr w w:=⟨0,rfl⟩
theorem Dr.trans{a b c:World}(h:Dr a b)(k:Dr b c):Dr a c:=by
 obtain⟨m,rfl⟩:=h;obtain⟨n,rfl⟩:=k;exact⟨m+n,by simp⟩
theorem Dr.drewN{a b:World}(h:Dr a b)(n:Nat):Dr a (b.drewN n):=h.trans ⟨n,rfl⟩
theorem Dr.drew{a b:World}(h:Dr a b):Dr a b.drew:=h.trans ⟨1,rfl⟩
theorem Dr.cell{a b:World}(h:Dr a b)(p:Addr):b.cell? p=a.cell? p:=by obtain⟨m,rfl⟩:=h;rfl
theorem Dr.fr{a b:World}(h:Dr a b)(M:MS):Fr M a b:=by obtain⟨m,rfl⟩:=h;exact (Fr.refl M a).drewN m
abbrev jn:MS:=λ_=>False
def iI(w:World)(b:Nat)(t:TypeId)(cs:List Value):Prop:=w.heap[b]?=some (.cells cs.toArray t (0,0))
theorem iI.lt{w:World}{b:Nat}{t:TypeId}{cs:List Value}(h:iI w b t cs):b<w.heap.size:=(Array.getElem?_eq_some_iff.1 h).1
theorem iI.cell{w:World}{b:Nat}{t:TypeId}{cs:List Value}(h:iI w b t cs){o:Nat}{v:Value}(hv:cs[o]?=some v):w.cell? ⟨b,o,none⟩=some v:=by
 simp[World.cell?,show w.heap[b]?=_ from h,hv]
theorem iI.frozen{w:World}{b:Nat}{t:TypeId}{cs:List Value}(h:iI w b t cs)(o:Nat):w.frozen? ⟨b,o,none⟩=false:=by
 simp[World.frozen?,show w.heap[b]?=_ from h]
theorem iI.jY{w w':World}{M:MS}{b:Nat}{t:TypeId}{cs:List Value}(h:iI w b t cs)(hf:Fr M w w')(hm:¬M b):iI w' b t cs:=
 (hf.block b h.lt hm).trans h
theorem iI.drewN{w:World}{b:Nat}{t:TypeId}{cs:List Value}(h:iI w b t cs)(n:Nat):iI (w.drewN n) b t cs:=h
theorem iI.alloc{w:World}{b:Nat}{t:TypeId}{cs:List Value}(h:iI w b t cs)(o:Obj):iI (w.alloc o) b t cs:=
 (Below.heap_alloc w o b h.lt).trans h
theorem iI.new(w:World)(t:TypeId)(cs:List Value):iI (w.alloc (.cells cs.toArray t)) w.heap.size t cs:=heap_alloc_new w _
theorem iI.awo{w:World}{n:Nat}{t:TypeId}{cs:Array Value}(h:w.heap.size=n):iI (w.alloc (.cells cs t)) n t cs.toList:=by
 subst h;exact heap_alloc_new w _
theorem iI.b9o{w:World}{n:Nat}{t:TypeId}{A:Array Value}{cs:List Value}(h:w.heap.size=n)(hA:A.toList=cs):iI (w.alloc (.cells A t)) n t cs:=by
 subst hA;exact iI.awo h
theorem iI.setCell{w:World}{b:Nat}{t:TypeId}{cs:List Value}(h:iI w b t cs)(o:Nat)(v:Value):iI (w.setCell ⟨b,o,none⟩ v) b t (cs.set o v):=by
 have h':w.heap[b]?=some (.cells cs.toArray t (0,0)):=h
 show (w.heap.modify b _)[b]?=_
 rw[Array.getElem?_modify]
 simp[h']
theorem iI.b9y{w:World}{b b':Nat}{t:TypeId}{cs:List Value}(h:iI w b t cs)(o:Nat)(v:Value)(dV:b≠b'):iI (w.setCell ⟨b',o,none⟩ v) b t cs:=
 (Below.heap_setCell w ⟨b',o,none⟩ v b dV).trans h
structure gm(α:Type) where
 n:Nat
 rd:World->MS->α->List Value->Prop
 len:∀{w M x cs},rd w M x cs->cs.length=n
 one:∀{w M x cs},rd w M x cs->∀u∈cs,u.oneCell'=true
 jY:∀{w w' M M' x cs},rd w M x cs->Fr M w w'->(∀k,k<w.heap.size->M' k->M k)->rd w' M' x cs
def gm.plain{α:Type}(n:Nat)(f:α->List Value)(hl:∀x,(f x).length=n)(h1:∀x,∀u∈f x,u.oneCell'=true):gm α where
 n:=n
 rd:=λ_ _ x cs=>cs=f x
 len:=λh=>by rw[h];exact hl _
 one:=λh=>by rw[h];exact h1 _
 jY:=λh _ _=>h
def wH:gm ByteArray:=.plain 1 (λs=>[.string s]) (λ_=>rfl) (λ_ u hu=>by simp at hu;subst hu;rfl)
def nR(k:IntKind):gm Int:=.plain 1 (λn=>[.int k n]) (λ_=>rfl) (λ_ u hu=>by simp at hu;subst hu;rfl)
def G7:gm Bool:=.plain 1 (λn=>[.bool n]) (λ_=>rfl) (λ_ u hu=>by simp at hu;subst hu;rfl)
def At(w:World)(M:MS)(b off:Nat)(cs:List Value):Prop:=(cs≠[]->¬M b)/\∀j u,cs[j]?=some u->w.cell? ⟨b,off+j,none⟩=some u
theorem At.jY{w w':World}{M M':MS}{b off:Nat}{cs:List Value}(h:At w M b off cs)(hf:Fr M w w')(hM:∀k,k<w.heap.size->M' k->M k):At w' M' b off cs:=by
 refine⟨λdV hm=>?_,λj u hu=>?_⟩
 ·cases cs with
  | nil=>exact dV rfl
  | cons u r=>exact h.1 dV (hM b (World.block_lt_of_cell? w _ (h.2 0 u rfl)) hm)
 ·exact hf.cell (h.2 j u hu) (h.1 (λe=>by subst e;simp at hu))
structure iq{α:Type}(T:gm α)(w:World)(M:MS)(xs:List α)(v:Value):Prop where
 out:∃a cap,v= .slice a xs.length cap/\xs.length<=cap /\
  ∀i (h:i<xs.length),∃b off cs,a=some ⟨b,off,none⟩/\T.rd w M xs[i] cs/\At w M b (off+i*T.n) cs
theorem iq.jY{α:Type}{T:gm α}{w w':World}{M M':MS}{xs:List α}{v:Value}(h:iq T w M xs v)(hf:Fr M w w')(hM:∀k,k<w.heap.size->M' k->M k):iq T w' M' xs v:=by
 obtain⟨a,cap,hv,hc,hx⟩:=h.out
 refine⟨a,cap,hv,hc,λi hi=>?_⟩
 obtain⟨b,off,cs,ha,hr,fD⟩:=hx i hi
 exact⟨b,off,cs,ha,T.jY hr hf hM,fD.jY hf hM⟩
theorem iq.nil{α:Type}(T:gm α)(w:World)(M:MS):iq T w M [] (.slice none 0 0):=⟨none,0,rfl,Nat.le_refl _,λi h=>by simp at h⟩
def wG{α:Type}(T:gm α):gm (List α) where
 n:=1
 rd:=λw M xs cs=>∃v,cs=[v]/\iq T w M xs v
 len:=λ⟨_,h,_⟩=>by rw[h];rfl
 one:=λ⟨v,h,hr⟩ u hu=>by
  subst h;simp at hu;subst hu
  obtain⟨a,cap,hv,_⟩:=hr.out
  subst hv;rfl
 jY:=λ⟨v,h,hr⟩ hf hM=>⟨v,h,hr.jY hf hM⟩
theorem iq.pos{α:Type}{T:gm α}{w:World}{M:MS}{xs:List α}{v:Value}(h:iq T w M xs v)(hp:0<xs.length):
  ∃b off cap,v= .slice (some ⟨b,off,none⟩) xs.length cap/\xs.length<=cap/\∀i (h:i<xs.length),∃cs,T.rd w M xs[i] cs/\At w M b (off+i*T.n) cs:=by
 obtain⟨a,cap,hv,hc,hx⟩:=h.out
 obtain⟨b,off,_,ha,_,_⟩:=hx 0 hp
 subst ha
 refine⟨b,off,cap,hv,hc,λi hi=>?_⟩
 obtain⟨b',CB,cs,ha,hr,fD⟩:=hx i hi
 simp at ha
 obtain⟨rfl,rfl⟩:=ha
 exact⟨cs,hr,fD⟩
theorem iq.tail{α:Type}{T:gm α}{w:World}{M:MS}{x:α}{xs:List α}{b off cap:Nat}(h:iq T w M (x::xs) (.slice (some ⟨b,off,none⟩) (xs.length+1) cap))(p:Addr)(hp:0<xs.length->p=⟨b,off+T.n,none⟩):
  iq T w M xs (.slice (some p) xs.length (cap-1)):=by
 obtain⟨a,pM,hv,hc,hx⟩:=h.out
 simp at hv hc
 obtain⟨rfl,rfl⟩:=hv
 refine⟨some p,cap-1,rfl,by omega,λi hi=>?_⟩
 obtain⟨b',CB,cs,ha,hr,fD⟩:=hx (i+1) (by simp;omega)
 simp at ha
 obtain⟨rfl,rfl⟩:=ha
 refine⟨b,off+T.n,cs,by rw[hp (by omega)],by simpa using hr,?_⟩
 rw[show off+T.n+i*T.n=off+(i+1)*T.n by rw[Nat.add_mul];omega]
 exact fD
abbrev MS.with(M:MS)(v:Value):MS:=λk=>M k\/v.ownBlock=some k
structure tM{α:Type}(T:gm α)(e:TypeId)(w:World)(base:Nat)(M:MS)(xs:List α)(v:Value):Prop where
 out:∃kA:List (List Value),kA.length=xs.length/\(∀i (h:i<xs.length) (h':i<kA.length),T.rd w (MS.with M v) xs[i] kA[i])/\w.ownsRow base e T.n v xs.length kA.flatten
theorem tM.nil{α:Type}(T:gm α)(e:TypeId)(w:World)(base:Nat)(M:MS):tM T e w base M [] (.slice none 0 0):=
 ⟨[],rfl,λi h=>by simp at h,World.ownsRow_nil w base e T.n⟩
theorem Em{n:Nat}:∀(l:List (List Value)),(∀x∈l,x.length=n)->l.flatten.length=l.length*n
 | [],_=>by simp
 | x::l,h=>by
  rw[List.flatten_cons,List.length_append,h x (by simp),Em l (λy hy=>h y (by simp[hy])),List.length_cons,Nat.add_mul];omega
theorem xl{n:Nat}:∀(l:List (List Value)) (_:∀x∈l,x.length=n) (i j:Nat) (h:i<l.length) (u:Value),l[i][j]?=some u->l.flatten[i*n+j]?=some u
 | x::l,hl,0,j,_,u,hu=>by
  have hj:j<x.length:=by simp at hu;exact (List.getElem?_eq_some_iff.1 hu).1
  rw[List.flatten_cons,List.getElem?_append_left (by omega)]
  simpa using hu
 | x::l,hl,i+1,j,h,u,hu=>by
  have hx:=hl x (by simp)
  have:=xl l (λy hy=>hl y (by simp[hy])) i j (by simp at h;omega) u (by simpa using hu)
  rw[List.flatten_cons,List.getElem?_append_right (by rw[hx,Nat.add_mul];omega),hx]
  rwa [show (i+1)*n+j-n=i*n+j by rw[Nat.add_mul];omega]
theorem tM.b94{α:Type}{T:gm α}{e:TypeId}{w:World}{base:Nat}{M:MS}{xs:List α}{v:Value}(h:tM T e w base M xs v)(hM:∀k,v.ownBlock=some k->¬M k):iq T w M xs v:=by
 obtain⟨kA,hl,hr,s8⟩:=h.out
 rcases s8.2 with ⟨rfl,hn⟩|⟨g,cap,cur,rfl,hg,hh,OV,_,lH,b88⟩
 ·have:xs=[]:=List.eq_nil_of_length_eq_zero hn
  subst this
  exact iq.nil T w M
 ·refine⟨some ⟨g,0,none⟩,cap,rfl,OV,λi hi=>?_⟩
  refine⟨g,0,kA[i]'(by omega),rfl,T.jY (hr i hi (by omega)) (Fr.refl _ w) (λ_ _ h=>Or.inl h),λ_=>hM g rfl,λj u hu=>?_⟩
  have dY:∀x∈kA,x.length=T.n:=λx hx=>by
   obtain⟨k,hk,rfl⟩:=List.getElem_of_mem hx
   exact T.len (hr k (by omega) hk)
  have h1:=xl kA dY i j (by omega) u hu
  have h2:=s8.cells (g:=g) rfl _ u h1
  simpa [Addr.add_lit,Nat.add_comm,Nat.add_left_comm,Nat.add_assoc] using h2
theorem tM.jY{α:Type}{T:gm α}{e:TypeId}{w w':World}{base:Nat}{M M':MS}{xs:List α}{v:Value}(h:tM T e w base M xs v)(hf:Fr M w w')(hM:∀k,k<w.heap.size->M' k->M k)
  (hv:∀k,v.ownBlock=some k->¬M k):tM T e w' base M' xs v:=by
 obtain⟨kA,hl,hr,s8⟩:=h.out
 refine⟨kA,hl,λi hi lJ=>T.jY (hr i hi lJ) (hf.mono (λ_ _=>Or.inl)) (λk hk hm=>hm.imp (hM k hk) (λx=>x)),s8.1,?_⟩
 rcases s8.2 with hn|⟨g,cap,cur,rfl,hg,hh,rest⟩
 ·exact .inl hn
 ·refine .inr ⟨g,cap,cur,rfl,hg,?_,rest⟩
  rw[hf.block g (Array.getElem?_eq_some_iff.1 hh).1 (hv g rfl)]
  exact hh
section
variable {P:Program} {w:World} {ops:Array Oper} {rest:List Oper} {o:Oper} {a:Act} {Q:Exit->Act->World->Prop} {K:Act->World->Prop}
end
end Go.Proofs.YtfenmffiidchcaaGreat
