/- Part. -/
import Derived.Test.YthohmpdacdmclaaGreatDoorJ9
namespace Go.Proofs.YthohmpdacdmclaaGreatDoor
set_option linter.all false
open Go.RowKit
structure AtR(C:List Row)(key:Int)(i:Nat):Prop where
 le:i<=C.length
 lo:∀j (h:j<C.length),j<i->C[j].key<key
 hi:∀h:i<C.length,key<=C[i].key
def kL(C:List Row)(key:Int)(i:Nat):Bool:=decide (∃h:i<C.length,C[i].key=key)
def AtR.gt{C:List Row}{key:Int}{i:Nat}(h:AtR C key i)(hs:ff C):∀j (hj:j<C.length),i<j->key<C[j].key:=λj hj wM=>by
 have h1:=h.hi (by omega);have:=xxv.1 hs i j (by omega) hj wM;omega
def AtR.up{C:List Row}{key:Int}{i:Nat}(h:AtR C key i)(hs:ff C)(hn:kL C key i=false):∀j (hj:j<C.length),i<=j->key<C[j].key:=λj hj wM=>by
 rcases xxz i j with h1|h1
 ·exact h.gt hs j hj h1
 obtain rfl:j=i:=by omega
 have h1:=h.hi hj;have h2:¬C[j].key=key:=λe=>yyu hn ⟨hj,e⟩;omega
def AtR.ins{C:List Row}{key:Int}{i:Nat}(h:AtR C key i)(v:Η):fZ C ⟨key,v⟩=if kL C key i=true then C.set i ⟨key,v⟩ else C.take i++[⟨key,v⟩]++C.drop i:=by
 rw[UP C ⟨key,v⟩ i h.le h.lo h.hi];by_cases hk:∃h:i<C.length,C[i].key=key
 ·rw[zzc hk,zzc (show kL C key i=true from zzm hk)];rw[xxf,zzc hk.1];simp
 rw[zzb hk,zzb (by simpa [kL] using hk)]
def AtR.del{C:List Row}{key:Int}{i:Nat}(h:AtR C key i)(hs:ff C):jo C key=if kL C key i=true then C.take i++C.drop (i+1) else C:=by
 cases hk:kL C key i with
 | true=>
  obtain⟨hi,e⟩:=zzt hk;rw[zzc rfl];exact RY C key i hi (λj hj gZ=>by have:=h.lo j hj gZ;omega) e
 | false=>
  rw[zzb (by decide)];refine RZ C key λj hj=>?_;rcases xxz j i with h1|h1
  ·have:=h.lo j hj h1;omega
  have:=h.up hs hk j hj h1;omega
def AtR.get{C:List Row}{key:Int}{i:Nat}(h:AtR C key i)(hs:ff C):(dL C key).isSome=kL C key i/\∀hi:i<C.length,C[i].key=key->dL C key=some C[i].val:=by
 have h2:∀hi:i<C.length,C[i].key=key->dL C key=some C[i].val:=λhi e=>by
  unfold dL;have:C.find? (λc=>decide (c.key=key))=some C[i]:=by
   rw[List.find?_eq_some_iff_getElem];refine⟨by simpa using e,i,hi,rfl,λj hj=>?_⟩;have:=h.lo j (by omega) hj;simp;omega
  rw[this];rfl
 refine⟨?_,h2⟩;cases hk:kL C key i with
 | true=>
  obtain⟨hi,e⟩:=zzt hk;rw[h2 hi e];rfl
 | false=>
  unfold dL;have:C.find? (λc=>decide (c.key=key))=none:=by
   rw[List.find?_eq_none];intro x hx;obtain⟨j,hj,rfl⟩:=yyh hx;rcases xxz j i with h1|h1
   ·have:=h.lo j hj h1;simp;omega
   have:=h.up hs hk j hj h1;simp;omega
  rw[this];rfl
def HO:∀(C:List Row) (key:Int) (k:Nat),(∀j (h:j<C.length),j<k->C[j].key<=key)->(∀j (h:j<C.length),k<=j->key<C[j].key)->C.filter (λr=>decide (key<r.key))=C.drop k
 | [],key,k,_,_=>by simp
 | x::C,key,0,_,h2=>by
  rw[List.drop_zero,yyy];intro y hy;obtain⟨j,hj,rfl⟩:=yyh hy;exact zzm (h2 j hj (zz6 _))
 | x::C,key,k+1,h1,h2=>by
  have hx:x.key<=key:=h1 0 (by simp) (by omega);rw[xx7,zzb (by simp;omega),uuo];exact HO C key k (λj h hj=>by have:=h1 (j+1) (by simpa using h) (by omega);simpa using this) (λj h hj=>by have:=h2 (j+1) (by simpa using h) (by omega);simpa using this)
def AtR.after{C:List Row}{key:Int}{i:Nat}(h:AtR C key i)(hs:ff C)(n:Int):nj C key n=(C.drop (if kL C key i=true then i+1 else i)).take n.toNat:=by
 unfold nj;cases hk:kL C key i with
 | true=>
  obtain⟨hi,e⟩:=zzt hk;rw[zzc rfl,HO C key (i+1) (λj hj gZ=>?_) (λj hj gZ=>h.gt hs j hj (by omega))];rcases xxz j i with h1|h1
  ·have:=h.lo j hj h1;omega
  obtain rfl:j=i:=by omega
  omega
 | false=>
  rw[zzb (by decide),HO C key i (λj hj gZ=>by have:=h.lo j hj gZ;omega) (λj hj gZ=>h.up hs hk j hj gZ)]
def na(C:List Row)(l:List Row):List Row:=l.foldl fZ C
def UQ:∀(C:List Row) (r:Row),(∀x∈C,x.key<r.key)->fZ C r=C++[r]
 | [],r,_=>rfl
 | x::C,r,h=>by
  unfold fZ;rw[zzc (h x (.head _)),UQ C r λy hy=>h y (.tail _ hy)];rfl
def Wq:∀(l C:List Row),ff (C++l)->na C l=C++l
 | [],C,_=>by simp[na]
 | r::l,C,h=>by
  have h1:fZ C r=C++[r]:=UQ C r λx hx=>(List.pairwise_append.1 h).2.2 x hx r (.head _);show na (fZ C r) l=_;rw[h1,Wq l (C++[r]) (by simpa using h)];simp
def btu{l:List Row}(h:ff l):na [] l=l:=Wq l [] h
def Wp:∀(l:List Row) {C:List Row},ff C->ff (na C l)
 | [],C,h=>h
 | r::l,C,h=>Wp l (C:=fZ C r) (Kj h r)
def Wo:∀(l:List Row) (C:List Row),(na C l).length<=C.length+l.length
 | [],C=>by simp[na]
 | r::l,C=>by
  have h1:=Wo l (fZ C r);have h2:=Jt C r;show (na (fZ C r) l).length<=_;rw[zzi];omega
def btv{l:List Row}{i:Nat}(h:i<l.length)(C:List Row):na C (l.take (i+1))=fZ (na C (l.take i)) l[i]:=by
 unfold na;rw[zze h,wwe];rfl
