/-
  Texts of the proof, joined: Sl1, Sl2, Sl3.
-/
import Derived.Test.YtfenmffiidchcaaGreatQEng10
namespace Go.Proofs.YtfenmffiidchcaaGreat
set_option linter.unusedVariables false
open Go.RowKit
abbrev bw:=Nat->Option Obj
abbrev zC:=bw->Prop
def bw.emp:bw:=λ_=>none
def bw.one(b:Nat)(o:Obj):bw:=λk=>if k=b then some o else none
def Sep(h h1 h2:bw):Prop:=∀b,(h1 b=none/\h b=h2 b)\/(h2 b=none/\h b=h1 b)
def bw.le(h k:bw):Prop:=∀b o,h b=some o->k b=some o
theorem Sep.symm{h h1 h2:bw}(s:Sep h h1 h2):Sep h h2 h1:=λb=>(s b).symm
theorem Sep.left{h h1 h2:bw}(s:Sep h h1 h2):h1.le h:=λb o e=>by
 rcases s b with ⟨a,c⟩|⟨a,c⟩
 ·rw[a]at e;cases e
 ·rw[c,e]
theorem Sep.right{h h1 h2:bw}(s:Sep h h1 h2):h2.le h:=s.symm.left
theorem Sep.emp(h:bw):Sep h bw.emp h:=λb=>.inl ⟨rfl,rfl⟩
theorem Sep.a7h{h h1:bw}(s:Sep h bw.emp h1):h=h1:=funext λb=>by
 rcases s b with ⟨_,c⟩|⟨a,c⟩
 ·exact c
 ·rw[c,a];rfl
theorem Sep.swap{h h1 h2 h3 h4:bw}(s:Sep h h1 h2)(t:Sep h2 h3 h4):∃k,Sep h h3 k/\Sep k h1 h4:=by
 refine⟨λb=>(h1 b).or (h4 b),λb=>?_,λb=>?_⟩
 ·rcases s b with ⟨a,c⟩|⟨a,c⟩<;>rcases t b with ⟨d,e⟩|⟨d,e⟩<;>simp_all
 ·rcases s b with ⟨a,c⟩|⟨a,c⟩<;>rcases t b with ⟨d,e⟩|⟨d,e⟩<;>simp_all
theorem Sep.assoc{h h1 h2 h3 h4:bw}(s:Sep h h1 h2)(t:Sep h1 h3 h4):∃k,Sep h h3 k/\Sep k h4 h2:=by
 obtain⟨k,a,b⟩:=s.symm.swap t
 exact⟨k,a,b.symm⟩
theorem Sep.join{h h1 h2 h3 k:bw}(s:Sep h h3 k)(t:Sep k h1 h2):∃k',Sep h k' h2/\Sep k' h3 h1:=by
 obtain⟨k',a,b⟩:=s.swap t.symm
 exact⟨k',a.symm,b⟩
inductive Chunk where
 | pt (b:Nat) (cs:List Value) (t:TypeId)
 | mp (b:Nat) (es:List MapEntry) (clock:Nat)
 | mem (H:bw)
 | ob (A:zC)
def Uu(n:Nat)(f:Nat × Nat):Prop:=f.1=f.2\/n<=f.1
def Chunk.holds:Chunk->zC
 | .pt b cs t=>λh=>∃f,Uu cs.length f/\h=bw.one b (.cells cs.toArray t f)
 | .mp b es c=>λh=>h=bw.one b (.map es.toArray c)
 | .mem H=>λh=>h=H
 | .ob A=>A
def star:List Chunk->zC
 | [],h=>h=bw.emp
 | c::l,h=>∃h1 h2,Sep h h1 h2/\c.holds h1/\star l h2
structure SL(W:World)(l:List Chunk)(w:World):Prop where
 os:w.os=W.os
 tape:w.tape=W.tape
 output:w.output=W.output
 out:∃h:bw,star l h/\∀b o,h b=some o->w.heap[b]?=some o
theorem bRs{A B:Chunk}{l:List Chunk}{h:bw}(s:star (A::B::l) h):star (B::A::l) h:=by
 obtain⟨h1,h2,s1,a,h3,h4,s2,b,r⟩:=s
 obtain⟨k,x,y⟩:=s1.swap s2
 exact⟨h3,k,x,b,h1,h4,y,a,r⟩
theorem bRr{l l':List Chunk}(p:l.Perm l'):∀{h:bw},star l h->star l' h:=by
 induction p with
 | nil=>exact λs=>s
 | cons x _ ih=>rintro h ⟨h1,h2,s,a,r⟩;exact⟨h1,h2,s,a,ih r⟩
 | swap x y l=>exact λs=>bRs s
 | trans _ _ i j=>exact λs=>j (i s)
theorem SL.perm{W:World}{l l':List Chunk}{w:World}(h:SL W l w)(p:l.Perm l'):SL W l' w:=
 ⟨h.os,h.tape,h.output,let ⟨k,s,m⟩:=h.out;⟨k,bRr p s,m⟩⟩
theorem T_{l l':List Chunk}:∀{h:bw},star (l++l') h↔∃h1 h2,Sep h h1 h2/\star l h1/\star l' h2:=by
 induction l with
 | nil=>
  intro h
  constructor
  ·intro s;exact⟨bw.emp,h,Sep.emp h,rfl,s⟩
  ·rintro ⟨h1,h2,s,rfl,t⟩;rw[s.a7h];exact t
 | cons c l ih=>
  intro h
  constructor
  ·rintro ⟨h1,h2,s,a,r⟩
   obtain⟨h3,h4,t,b,d⟩:=ih.1 r
   obtain⟨k,x,y⟩:=s.join t
   exact⟨k,h4,x,⟨h1,h3,y,a,b⟩,d⟩
  ·rintro ⟨h1,h2,s,⟨h3,h4,t,a,b⟩,d⟩
   obtain⟨k,x,y⟩:=s.assoc t
   exact⟨h3,k,x,a,ih.2 ⟨h4,h2,y,b,d⟩⟩
section
variable {W w:World} {l:List Chunk}
theorem SL.drop{c:Chunk}(h:SL W (c::l) w):SL W l w:=
 ⟨h.os,h.tape,h.output,let ⟨k,⟨h1,h2,s,a,r⟩,m⟩:=h.out;⟨h2,r,λb o e=>m b o (s.right b o e)⟩⟩
theorem SL.conv{c:Chunk}{l1:List Chunk}(h:SL W (c::l) w)(f:∀k,c.holds k->star l1 k):SL W (l1++l) w:=
 ⟨h.os,h.tape,h.output,let ⟨k,⟨h1,h2,s,a,r⟩,m⟩:=h.out;⟨k,T_.2 ⟨h1,h2,s,f _ a,r⟩,m⟩⟩
theorem SL.fold{c:Chunk}{l1:List Chunk}(h:SL W (l1++l) w)(f:∀k,star l1 k->c.holds k):SL W (c::l) w:=
 ⟨h.os,h.tape,h.output,let ⟨k,s,m⟩:=h.out;let ⟨h1,h2,s,a,r⟩:=T_.1 s;⟨k,⟨h1,h2,s,f _ a,r⟩,m⟩⟩
def mX{α:Type}(A:α->zC):zC:=λh=>∃x,A x h
def zQ(p:Prop)(l:List Chunk):zC:=λh=>p/\star l h
theorem SL.ex{α:Type}{A:α->zC}:SL W (.ob (mX A)::l) w↔∃x,SL W (.ob (A x)::l) w:=by
 constructor
 ·rintro ⟨a,b,c,k,⟨h1,h2,s,⟨x,hx⟩,r⟩,m⟩
  exact⟨x,a,b,c,k,⟨h1,h2,s,hx,r⟩,m⟩
 ·rintro ⟨x,a,b,c,k,⟨h1,h2,s,hx,r⟩,m⟩
  exact⟨a,b,c,k,⟨h1,h2,s,⟨x,hx⟩,r⟩,m⟩
theorem SL.fact{p:Prop}{l1:List Chunk}:SL W (.ob (zQ p l1)::l) w↔p/\SL W (l1++l) w:=by
 constructor
 ·intro h
  obtain⟨k,⟨h1,h2,s,⟨hp,hx⟩,r⟩,m⟩:=h.out
  exact⟨hp,h.conv (λ_ s=>s.2)⟩
 ·rintro ⟨hp,h⟩
  exact h.fold (λ_ s=>⟨hp,s⟩)
inductive Has (c:Chunk):List Chunk->Prop where
 | hd {l:List Chunk}:Has c (c::l)
 | tl {d:Chunk} {l:List Chunk} (h:Has c l):Has c (d::l)
theorem Has.heap{c:Chunk}{l:List Chunk}(h:Has c l):∀{k:bw},star l k->∃h1,c.holds h1/\h1.le k:=by
 induction h with
 | hd=>rintro k ⟨h1,h2,s,a,r⟩;exact⟨h1,a,s.left⟩
 | tl _ ih=>
  rintro k ⟨h1,h2,s,a,r⟩
  obtain⟨h3,b,e⟩:=ih r
  exact⟨h3,b,λx o y=>s.right x o (e x o y)⟩
inductive kr (c d:Chunk):List Chunk->List Chunk->Prop where
 | hd {l:List Chunk}:kr c d (c::l) (d::l)
 | tl {e:Chunk} {l l':List Chunk} (h:kr c d l l'):kr c d (e::l) (e::l')
inductive kL (c:Chunk):List Chunk->List Chunk->Prop where
 | hd {l:List Chunk}:kL c (c::l) l
 | tl {d:Chunk} {l l':List Chunk} (h:kL c l l'):kL c (d::l) (d::l')
inductive ky:List Chunk->List Chunk->List Chunk->Prop where
 | nil {l:List Chunk}:ky [] l l
 | cons {c:Chunk} {p l l' F:List Chunk} (h:kL c l l') (k:ky p l' F):ky (c::p) l F
theorem kL.perm{c:Chunk}{l l':List Chunk}(h:kL c l l'):l.Perm (c::l'):=by
 induction h with
 | hd=>exact .refl _
 | tl _ ih=>exact (ih.cons _).trans (.swap _ _ _)
theorem ky.perm{p l F:List Chunk}(h:ky p l F):l.Perm (p++F):=by
 induction h with
 | nil=>exact .refl _
 | cons r _ ih=>exact r.perm.trans (ih.cons _)
theorem SL.pick{p F:List Chunk}(h:SL W l w)(k:ky p l F):SL W (p++F) w:=h.perm k.perm
theorem SL.uP{b:Nat}{cs:List Value}{t:TypeId}(h:SL W l w)(m:Has (.pt b cs t) l):∃f,Uu cs.length f/\w.heap[b]?=some (.cells cs.toArray t f):=by
 obtain⟨k,s,x⟩:=h.out
 obtain⟨h1,⟨f,hf,rfl⟩,le⟩:=m.heap s
 exact⟨f,hf,x b _ (le b _ (by simp[bw.one]))⟩
theorem SL.cell{b o:Nat}{cs:List Value}{t:TypeId}{v:Value}(h:SL W l w)(m:Has (.pt b cs t) l)(hv:cs[o]?=some v):w.cell? ⟨b,o,none⟩=some v:=by
 obtain⟨f,_,e⟩:=h.uP m
 simp[World.cell?,e,hv]
theorem SL.frozen{b o:Nat}{cs:List Value}{t:TypeId}{v:Value}(h:SL W l w)(m:Has (.pt b cs t) l)(hv:cs[o]?=some v):w.frozen? ⟨b,o,none⟩=false:=by
 obtain⟨f,hf,e⟩:=h.uP m
 have ix:=(List.getElem?_eq_some_iff.1 hv).1
 obtain⟨x,y⟩:=f
 simp only[World.frozen?,e]
 rcases hf with hf|hf
 ·simp only[Bool.and_eq_false_iff,decide_eq_false_iff_not];simp only at hf;omega
 ·simp only[Bool.and_eq_false_iff,decide_eq_false_iff_not];simp only at hf;omega
def bw.cell(H:bw)(b o:Nat):Option Value:=match H b with
 | some (.cells c _ _)=>c[o]?
 | _=>none
theorem SL.HW{H:bw}{b o:Nat}{v:Value}(h:SL W l w)(m:Has (.mem H) l)(hv:H.cell b o=some v):w.cell? ⟨b,o,none⟩=some v:=by
 obtain⟨k,s,x⟩:=h.out
 obtain⟨h1,rfl,le⟩:=m.heap s
 unfold bw.cell at hv
 split at hv
 ·rename_i c t f e
  have:=x b _ (le b _ e)
  simp[World.cell?,this,hv]
 ·cases hv
theorem kr.perm{c d:Chunk}{l l':List Chunk}(u:kr c d l l'):∃r,l.Perm (c::r)/\l'.Perm (d::r):=by
 induction u with
 | hd=>exact⟨_,.refl _,.refl _⟩
 | tl _ ih=>
  obtain⟨r,p,q⟩:=ih
  exact⟨_::r,(p.cons _).trans (.swap _ _ _),(q.cons _).trans (.swap _ _ _)⟩
theorem SL.uH{l':List Chunk}{c d:Chunk}{w':World}{b:Nat}{o':Obj}(h:SL W l w)(u:kr c d l l')(hc:∀k,c.holds k->∃o,k=bw.one b o)(hd:d.holds (bw.one b o'))
  (hw:w'.heap[b]?=some o') (hk:∀x,x≠b->w'.heap[x]?=w.heap[x]?) (e1:w'.os=w.os) (e2:w'.tape=w.tape) (e3:w'.output=w.output):SL W l' w':=by
 obtain⟨r,p,q⟩:=u.perm
 obtain⟨a1,a2,a3,k,⟨h1,h2,s,a,t⟩,m⟩:=h.perm p
 obtain⟨o,rfl⟩:=hc _ a
 have hb:h2 b=none:=by
  rcases s b with ⟨x,_⟩|⟨x,_⟩
  ·simp[bw.one]at x
  ·exact x
 suffices hs:SL W (d::r) w' from hs.perm q.symm
 refine⟨e1.trans a1,e2.trans a2,e3.trans a3,λx=>if x=b then some o' else h2 x,⟨bw.one b o',h2,λx=>?_,hd,t⟩,λx y e=>?_⟩
 ·by_cases hx:x=b
  ·subst hx;exact .inr ⟨hb,by simp[bw.one]⟩
  ·exact .inl ⟨by simp[bw.one,hx],by simp[hx]⟩
 ·by_cases hx:x=b
  ·subst hx;simp at e;rw[hw,e]
  ·simp[hx]at e
   rw[hk x hx]
   exact m x y (s.right x y e)
theorem SL.store{l':List Chunk}{b o:Nat}{cs:List Value}{t:TypeId}{v u:Value}(h:SL W l w)(m:kr (.pt b cs t) (.pt b (cs.set o v) t) l l')(hu:cs[o]?=some u):SL W l' (w.setCell ⟨b,o,none⟩ v):=by
 have hm:Has (.pt b cs t) l:=by
  clear h
  generalize hd:Chunk.pt b (cs.set o v) t=d at m
  induction m with
  | hd=>exact .hd
  | tl _ ih=>exact .tl ih
 obtain⟨f,hf,e⟩:=h.uP hm
 refine h.uH (b:=b) (o':=.cells (cs.set o v).toArray t f) m ?_ ⟨f,by simpa using hf,rfl⟩ ?_ ?_ rfl rfl rfl
 ·rintro k ⟨f,_,rfl⟩;exact⟨_,rfl⟩
 ·show (w.heap.modify b _)[b]?=_
  rw[Array.getElem?_modify]
  simp[e]
 ·intro x hx
  exact Below.heap_setCell w ⟨b,o,none⟩ v x hx
theorem SL.alloc{o:Obj}{c:Chunk}(h:SL W l w)(hc:c.holds (bw.one w.heap.size o)):SL W (c::l) (w.alloc o):=by
 obtain⟨a1,a2,a3,k,s,m⟩:=h
 have hb:k w.heap.size=none:=by
  cases hx:k w.heap.size with
  | none=>rfl
  | some y=>have:=m _ _ hx;simp at this
 refine⟨a1,a2,a3,λx=>if x=w.heap.size then some o else k x,⟨bw.one w.heap.size o,k,λx=>?_,hc,s⟩,λx y e=>?_⟩
 ·by_cases hx:x=w.heap.size
  ·subst hx;exact .inr ⟨hb,by simp[bw.one]⟩
  ·exact .inl ⟨by simp[bw.one,hx],by simp[hx]⟩
 ·by_cases hx:x=w.heap.size
  ·subst hx;simp at e;subst e;exact heap_alloc_new w o
  ·simp[hx]at e
   have:=m x y e
   have ix:x<w.heap.size:=(Array.getElem?_eq_some_iff.1 this).1
   rw[Below.heap_alloc w o x ix];exact this
theorem SL.new{cs:List Value}{t:TypeId}(h:SL W l w):SL W (.pt w.heap.size cs t::l) (w.alloc (.cells cs.toArray t)):=
 h.alloc ⟨(0,0),.inl rfl,rfl⟩
theorem SL.drew(h:SL W l w):SL W l w.drew:=⟨h.os,h.tape,h.output,h.out⟩
def bw.of(w:World):bw:=λb=>w.heap[b]?
theorem SL.init(w:World):SL w [.mem (bw.of w)] w:=by
 refine⟨rfl,rfl,rfl,bw.of w,⟨bw.of w,bw.emp,λb=>.inr ⟨rfl,rfl⟩,rfl,rfl⟩,λb o e=>e⟩
theorem bw.le_refl(H:bw):H.le H:=λ_ _ e=>e
theorem bw.le_trans{H K L:bw}(h:H.le K)(k:K.le L):H.le L:=λb o e=>k b o (h b o e)
theorem bw.VX{H K:bw}(h:H.le K){b o:Nat}{v:Value}(e:H.cell b o=some v):K.cell b o=some v:=by
 unfold bw.cell at *
 split at e
 ·rename_i c t f he;rw[h _ _ he];exact e
 ·cases e
theorem SL.freeze{H:bw}{b:Nat}{cs:List Value}{t:TypeId}(h:SL W (.mem H::.pt b cs t::l) w):∃H',H.le H'/\(∀o v,cs[o]?=some v->H'.cell b o=some v)/\SL W (.mem H'::l) w:=by
 obtain⟨a1,a2,a3,k,⟨h1,h2,s,rfl,h3,h4,s',⟨f,hf,rfl⟩,r⟩,m⟩:=h
 obtain⟨k',x,y⟩:=s.join s'
 refine⟨k',λb o e=>?_,λo v e=>?_,a1,a2,a3,k,⟨k',h4,x,rfl,r⟩,m⟩
 ·exact y.left b o e
 ·have:k' b=some (.cells cs.toArray t f):=y.right b _ (by simp[bw.one])
  simp[bw.cell,this,e]
theorem SL.below{H:bw}(h:SL W l w)(m:Has (.mem H) l)(hH:(bw.of W).le H):Below W.heap.size W w:=by
 obtain⟨k,s,x⟩:=h.out
 obtain⟨h1,rfl,le⟩:=m.heap s
 have hk:∀b,b<W.heap.size->w.heap[b]?=W.heap[b]?:=λb hb=>by
  have e:W.heap[b]?=some (W.heap[b]):=Array.getElem?_eq_getElem hb
  rw[e];exact x b _ (le b _ (hH b _ e))
 refine⟨h.os,h.tape,h.output,?_,hk⟩
 rcases Nat.eq_zero_or_pos W.heap.size with h0|h0
 ·omega
 ·have e:=hk (W.heap.size-1) (by omega)
  have e2:W.heap[W.heap.size-1]?=some (W.heap[W.heap.size-1]):=Array.getElem?_eq_getElem (by omega)
  rw[e2]at e
  have:=(Array.getElem?_eq_some_iff.1 e).1
  omega
end
section
variable {W w:World} {l l':List Chunk}
theorem bIv{a:Addr}{K:Value->Prop}(h:K (.pointer (some a))):YX (.pointer (some a)) K:=⟨a,rfl,h⟩
theorem zR{b o off:Nat}{K:Value->Prop}(h:K (.pointer (some ⟨b,o+off,none⟩))):zr off (.pointer (some ⟨b,o,none⟩)) K:=by
 refine⟨_,rfl,?_⟩
 rw[Addr.add_lit];exact h
theorem zX{b o:Nat}{cs:List Value}{t:TypeId}{v:Value}{K:Value->Prop}(hS:SL W l w)(m:Has (.pt b cs t) l)(hv:cs[o]?=some v)(h:K v):b6 (.pointer (some ⟨b,o,none⟩)) w K:=
 ⟨_,v,rfl,hS.cell m hv,h⟩
theorem ZJ{H:bw}{b o:Nat}{v:Value}{K:Value->Prop}(hS:SL W l w)(m:Has (.mem H) l)(hv:H.cell b o=some v)(h:K v):b6 (.pointer (some ⟨b,o,none⟩)) w K:=
 ⟨_,v,rfl,hS.HW m hv,h⟩
theorem Z3{b o n:Nat}{cs vs:List Value}{t:TypeId}{K:Value->Prop}(hS:SL W l w)(m:Has (.pt b cs t) l)(hn:vs.length=n)(hv:∀j v,vs[j]?=some v->cs[o+j]?=some v)(h:K (.agg vs.toArray)):zj n (.pointer (some ⟨b,o,none⟩)) w K:=
 ⟨_,vs,rfl,hn,λj v e=>by rw[Addr.add_lit];exact hS.cell m (hv j v e),h⟩
theorem yj{b n:Nat}{cs:List Value}{t:TypeId}{K:Value->Prop}(hS:SL W l w)(m:Has (.pt b cs t) l)(hn:cs.length=n)(h:K (.agg cs.toArray)):zj n (.pointer (some ⟨b,0,none⟩)) w K:=
 Z3 hS m hn (λj v e=>by rw[Nat.zero_add];exact e) h
theorem bIj{H:bw}{b o n:Nat}{vs:List Value}{K:Value->Prop}(hS:SL W l w)(m:Has (.mem H) l)(hn:vs.length=n)(hv:∀j v,vs[j]?=some v->H.cell b (o+j)=some v)(h:K (.agg vs.toArray)):zj n (.pointer (some ⟨b,o,none⟩)) w K:=
 ⟨_,vs,rfl,hn,λj v e=>by rw[Addr.add_lit];exact hS.HW m (hv j v e),h⟩
theorem Zb{b o:Nat}{cs:List Value}{t:TypeId}{v u:Value}{K:World->Prop}(hS:SL W l w)(m:kr (.pt b cs t) (.pt b (cs.set o v) t) l l')(hu:cs[o]?=some u)(h1:v.oneCell'=true)(h:∀w',SL W l' w'->K w'):
  jG (.pointer (some ⟨b,o,none⟩)) v w K:=by
 have hm:Has (.pt b cs t) l:=by
  clear hS h
  generalize hd:Chunk.pt b (cs.set o v) t=d at m
  induction m with
  | hd=>exact .hd
  | tl _ ih=>exact .tl ih
 exact⟨_,u,rfl,h1,hS.cell hm hu,hS.frozen hm hu,h _ (hS.store m hu)⟩
def sd(cs:List Value)(o:Nat):List Value->List Value
 | []=>cs
 | v::r=>sd (cs.set o v) (o+1) r
theorem kr.has{c d:Chunk}(u:kr c d l l'):Has c l:=by
 induction u with
 | hd=>exact .hd
 | tl _ ih=>exact .tl ih
theorem kr.other{c d:Chunk}(u:kr c d l l')(e:Chunk):∃l2,kr c e l l2/\kr e d l2 l':=by
 induction u with
 | hd=>exact⟨_,.hd,.hd⟩
 | tl _ ih=>obtain⟨l2,p,q⟩:=ih;exact⟨_,.tl p,.tl q⟩
theorem Bd{b:Nat}{t:TypeId}{K:World->Prop}:∀(vs:List Value) (o i:Nat) (cs:List Value) (w:World) (l l':List Chunk),SL W l w->kr (.pt b cs t) (.pt b (sd cs (o+i) vs) t) l l'->o+i+vs.length<=cs.length->(∀v∈vs,v.oneCell'=true) ->
  (∀w',SL W l' w'->K w')->uF ⟨b,o,none⟩ i vs w K
 | [],o,i,cs,w,l,l',hS,u,hl,h1,h=>by
  refine h w ?_
  simp only[sd]at u
  have:l=l':=by
   clear hS h
   generalize hc:Chunk.pt b cs t=c at u
   revert hc
   induction u with
   | hd=>intro;rfl
   | tl _ ih=>intro hc;rw[ih hc]
  rw[<- this];exact hS
 | v::r,o,i,cs,w,l,l',hS,u,hl,h1,h=>by
  simp only[List.length_cons]at hl
  have hc:cs[o+i]?=some (cs[o+i]'(by omega)):=List.getElem?_eq_getElem (by omega)
  obtain⟨l2,p,q⟩:=u.other (.pt b (cs.set (o+i) v) t)
  refine⟨h1 v (by simp),⟨_,by rw[Addr.add_lit];exact hS.cell u.has hc⟩,by rw[Addr.add_lit];exact hS.frozen u.has hc,?_⟩
  rw[Addr.add_lit]
  exact Bd r o (i+1) _ _ l2 l' (hS.store p hc) (by simpa [sd,Nat.add_assoc] using q) (by simp;omega) (λv hv=>h1 v (by simp[hv])) h
theorem A3:∀(vs cs:List Value) (o:Nat),o+vs.length<=cs.length->sd cs o vs=cs.take o++vs++cs.drop (o+vs.length)
 | [],cs,o,_=>by simp[sd]
 | v::r,cs,o,h=>by
  simp only[List.length_cons]at h
  obtain⟨A,x,B,rfl,hA⟩:∃A x B,cs=A++x::B/\A.length=o:=by
   refine⟨cs.take o,cs[o]'(by omega),cs.drop (o+1),?_,by simp;omega⟩
   rw[<- List.drop_eq_getElem_cons,List.take_append_drop]
  subst hA
  rw[sd,A3 r _ _ (by simp at h ⊢;omega)]
  have e1:(A++x::B).set A.length v=A++v::B:=by simp
  have e2:(A++v::B).take (A.length+1)=A++[v]:=by rw[List.take_length_add_append];simp
  have e3:(A++v::B).drop (A.length+1+r.length)=B.drop r.length:=by rw[show A.length+1+r.length=A.length+(r.length+1) by omega,List.drop_length_add_append];simp
  have e5:(A++x::B).drop (A.length+(r.length+1))=B.drop r.length:=by rw[List.drop_length_add_append];simp
  simp only[List.length_cons]at *
  rw[e1,e2,e3,e5]
  simp
theorem zD{b n:Nat}{cs vs:List Value}{t:TypeId}{K:World->Prop}(hS:SL W l w)(m:kr (.pt b cs t) (.pt b vs t) l l')(hn:vs.length=n)(hc:cs.length=n)(h1:∀v∈vs,v.oneCell'=true)(h:∀w',SL W l' w'->K w'):
  zl n (.pointer (some ⟨b,0,none⟩)) (.agg vs.toArray) w K:=by
 refine⟨_,vs,rfl,rfl,hn,Bd (t:=t) vs 0 0 cs w l l' hS ?_ (by omega) h1 h⟩
 rw[A3 _ _ _ (by omega)]
 have:cs.drop (0+0+vs.length)=[]:=List.drop_eq_nil_of_le (by omega)
 rw[this];simpa using m
theorem QJ{b o n:Nat}{cs vs:List Value}{t:TypeId}{K:World->Prop}(hS:SL W l w)(m:kr (.pt b cs t) (.pt b (cs.take o++vs++cs.drop (o+n)) t) l l')(hn:vs.length=n)(hc:o+n<=cs.length)(h1:∀v∈vs,v.oneCell'=true)(h:∀w',SL W l' w'->K w'):
  zl n (.pointer (some ⟨b,o,none⟩)) (.agg vs.toArray) w K:=by
 refine⟨_,vs,rfl,rfl,hn,Bd (t:=t) vs o 0 cs w l l' hS ?_ (by omega) h1 h⟩
 rw[Nat.add_zero,A3 _ _ _ (by omega),hn]
 exact m
theorem zJ{cs:List Value}{t:TypeId}{K:Value->World->Prop}(hS:SL W l w)(h:∀b w',SL W (.pt b cs t::l) w'->K (.pointer (some ⟨b,0,none⟩)) w'):zk cs t w K:=h _ _ hS.new
theorem bF4{a b:Value}{K:Value->Prop}(h:K a):zf 0 (.tuple #[a,b]) K:=⟨_,a,rfl,rfl,h⟩
theorem bF5{a b:Value}{K:Value->Prop}(h:K b):zf 1 (.tuple #[a,b]) K:=⟨_,b,rfl,rfl,h⟩
theorem bF6{a b c:Value}{K:Value->Prop}(h:K a):zf 0 (.tuple #[a,b,c]) K:=⟨_,a,rfl,rfl,h⟩
theorem bF7{a b c:Value}{K:Value->Prop}(h:K b):zf 1 (.tuple #[a,b,c]) K:=⟨_,b,rfl,rfl,h⟩
theorem bF8{a b c:Value}{K:Value->Prop}(h:K c):zf 2 (.tuple #[a,b,c]) K:=⟨_,c,rfl,rfl,h⟩
theorem bF9{a b c d:Value}{K:Value->Prop}(h:K a):zf 0 (.tuple #[a,b,c,d]) K:=⟨_,a,rfl,rfl,h⟩
theorem bIa{a b c d:Value}{K:Value->Prop}(h:K b):zf 1 (.tuple #[a,b,c,d]) K:=⟨_,b,rfl,rfl,h⟩
theorem bIb{a b c d:Value}{K:Value->Prop}(h:K c):zf 2 (.tuple #[a,b,c,d]) K:=⟨_,c,rfl,rfl,h⟩
theorem bIc{a b c d:Value}{K:Value->Prop}(h:K d):zf 3 (.tuple #[a,b,c,d]) K:=⟨_,d,rfl,rfl,h⟩
theorem yo{a:Option Addr}{n c:Nat}{K:Value->Prop}(h:K (.int .i64 n)):zd (.slice a n c) K:=⟨a,n,c,rfl,h⟩
theorem bIl{s:ByteArray}{K:Value->Prop}(h:K (.int .i64 s.size)):zT (.string s) K:=⟨s,rfl,h⟩
theorem zB{b o len cap sz j:Nat}{k:IntKind}{K:Value->Prop}(hj:j<len)(h:K (.pointer (some ⟨b,o+j*sz,none⟩))):ze sz (.slice (some ⟨b,o,none⟩) len cap) (.int k (j:Int)) K:=
 ⟨_,len,cap,k,j,rfl,rfl,hj,by rw[Addr.add_lit];exact h⟩
theorem y3{b:Bool}{A B:Prop}(h1:b=true->A)(h2:b=false->B):ic (.bool b) A B:=⟨b,rfl,h1,h2⟩
theorem za{p:Prop}[Decidable p]{A B:Prop}(h1:p->A)(h2:¬p->B):ic (.bool (decide p)) A B:=⟨_,rfl,λe=>h1 (of_decide_eq_true e),λe=>h2 (of_decide_eq_false e)⟩
theorem zw{A B:Prop}(h:A):ic (.bool true) A B:=⟨_,rfl,λ_=>h,λe=>by cases e⟩
theorem zq{A B:Prop}(h:B):ic (.bool false) A B:=⟨_,rfl,(λe=>(by cases e)),λ_=>h⟩
theorem zA{A B:Prop}{b:Bool}(h1:b=false->A)(h2:b=true->B):ic (.bool !b) A B:=⟨_,rfl,(λe=>h1 (by simpa using e)),(λe=>h2 (by simpa using e))⟩
theorem IL{a b:Int}{K:Value->Prop}(hr : -9223372036854775808<=a+b/\a+b<=9223372036854775807)(h:K (.int .i64 (a+b))):zc .add (.int .i64 a) (.int .i64 b) K:=
 ⟨_,rfl,by rw[IntWalk.i64_in _ hr];exact h⟩
theorem bI6{a b:Int}{K:Value->Prop}(hr : -9223372036854775808<=a-b/\a-b<=9223372036854775807)(h:K (.int .i64 (a-b))):zc .sub (.int .i64 a) (.int .i64 b) K:=
 ⟨_,rfl,by rw[IntWalk.i64_in _ hr];exact h⟩
theorem TO{a b:Int}{K:Value->Prop}(hr : -9223372036854775808<=a*b/\a*b<=9223372036854775807)(h:K (.int .i64 (a*b))):zc .mul (.int .i64 a) (.int .i64 b) K:=
 ⟨_,rfl,by rw[IntWalk.i64_in _ hr];exact h⟩
theorem ye{a b:Nat}{K:Value->Prop}(hr:a+b<=9223372036854775807)(h:K (.int .i64 ((a+b:Nat):Int))):zc .add (.int .i64 (a:Int)) (.int .i64 (b:Int)) K:=
 IL (by omega) (by rw[show (a:Int)+(b:Int)=((a+b:Nat):Int) by omega];exact h)
theorem bFw{a:Nat}{K:Value->Prop}(hr:a+1<=9223372036854775807)(h:K (.int .i64 ((a+1:Nat):Int))):zc .add (.int .i64 (a:Int)) (.int .i64 1) K:=
 IL (by omega) (by rw[show (a:Int)+1=((a+1:Nat):Int) by omega];exact h)
theorem QG{k:IntKind}{a b:Int}{K:Value->Prop}(hb:b≠0)(h:K (.int k (a.tmod b))):zc .rem (.int k a) (.int k b) K:=
 ⟨.int k (a.tmod b),by simp[mr,hb],h⟩
theorem bIx{a b:Int}{K:Value->Prop}(hb:b≠0)(hr : -9223372036854775808<=a.tdiv b/\a.tdiv b<=9223372036854775807)(h:K (.int .i64 (a.tdiv b))):zc .quo (.int .i64 a) (.int .i64 b) K:=
 ⟨.int .i64 (a.tdiv b),by simp[mr,hb,IntWalk.i64_in _ hr],h⟩
theorem bIy{k:IntKind}{a b:Nat}{K:Value->Prop}(hb:0<b)(h:K (.int k ((a % b:Nat):Int))):zc .rem (.int k (a:Int)) (.int k (b:Int)) K:=
 QG (by omega) (by rw[Int.tmod_eq_emod_of_nonneg (by omega)];exact h)
theorem IN{k:IntKind}{a b:Int}{K:Value->Prop}(h:K (.bool (decide (a=b)))):zc .eql (.int k a) (.int k b) K:=⟨.bool (decide (a=b)),by simp[mr];rfl,h⟩
theorem TP{k:IntKind}{a b:Int}{K:Value->Prop}(h:K (.bool (decide (a≠b)))):zc .neq (.int k a) (.int k b) K:=⟨.bool (decide (a≠b)),by simp[mr,bne];rfl,h⟩
theorem TN{k:IntKind}{a b:Int}{K:Value->Prop}(h:K (.bool (decide (a<b)))):zc .lss (.int k a) (.int k b) K:=⟨_,by simp[mr],h⟩
theorem bIk{k:IntKind}{a b:Int}{K:Value->Prop}(h:K (.bool (decide (a<=b)))):zc .leq (.int k a) (.int k b) K:=⟨_,by simp[mr],h⟩
theorem bIf{k:IntKind}{a b:Int}{K:Value->Prop}(h:K (.bool (decide (b<a)))):zc .gtr (.int k a) (.int k b) K:=⟨_,by simp[mr],h⟩
theorem bId{k:IntKind}{a b:Int}{K:Value->Prop}(h:K (.bool (decide (b<=a)))):zc .geq (.int k a) (.int k b) K:=⟨_,by simp[mr],h⟩
theorem str_inj{s t:ByteArray}(h:s.toList=t.toList):s=t:=by
 rw[ByteArray.toList_eq,ByteArray.toList_eq]at h
 cases s;cases t;congr 1;exact Array.toList_inj.1 h
theorem bF3{a b:ByteArray}{K:Value->Prop}(h:K (.bool (decide (a=b)))):zc .eql (.string a) (.string b) K:=by
 refine⟨.bool (decide (a=b)),?_,h⟩
 by_cases e:a=b
 ·subst e;simp[mr]
 ·have:¬a.toList=b.toList:=λx=>e (str_inj x)
  simp[mr,e,this]
theorem bIu{a b:ByteArray}{K:Value->Prop}(h:K (.bool (decide (a≠b)))):zc .neq (.string a) (.string b) K:=by
 refine⟨.bool (decide (a≠b)),?_,h⟩
 by_cases e:a=b
 ·subst e;simp[mr]
 ·have:¬a.toList=b.toList:=λx=>e (str_inj x)
  simp[mr,e,this]
theorem bF2{a b:Bool}{K:Value->Prop}(h:K (.bool (decide (a=b)))):HEq .bool false (.bool a) (.bool b) K:=⟨a == b,rfl,by cases a<;>cases b<;>simpa using h⟩
theorem bIt{a b:Bool}{K:Value->Prop}(h:K (.bool (decide (a≠b)))):HEq .bool true (.bool a) (.bool b) K:=⟨a == b,rfl,by cases a<;>cases b<;>simpa using h⟩
theorem Z2{t:TypeId}{a:Option Addr}{K:Value->Prop}(h:K (.bool a.isNone)):HEq (.pointer t) false (.pointer a) (.pointer none) K:=⟨a.isNone,by cases a<;>rfl,h⟩
theorem IP{t:TypeId}{a:Option Addr}{K:Value->Prop}(h:K (.bool a.isSome)):HEq (.pointer t) true (.pointer a) (.pointer none) K:=⟨a.isNone,by cases a<;>rfl,by cases a<;>exact h⟩
theorem zP{b:Bool}{K:Value->Prop}(h:K (.bool !b)):Zj (.bool b) K:=⟨b,rfl,h⟩
theorem zL{j:IntKind}{n:Int}{k:IntKind}{K:Value->Prop}(h:K (.int k (k.wrap n))):zG k (.int j n) K:=⟨j,n,rfl,h⟩
theorem yn{j:IntKind}{n:Int}{K:Value->Prop}(hr : -9223372036854775808<=n/\n<=9223372036854775807)(h:K (.int .i64 n)):zG .i64 (.int j n) K:=⟨j,n,rfl,by rw[IntWalk.i64_in _ hr];exact h⟩
theorem bIs{k:IntKind}{a b:Int}{K:Value->Prop}(h:K (.int k (min a b))):YW (.int k a) (.int k b) K:=
 ⟨k,a,b,rfl,rfl,by rw[show (if b<a then b else a)=min a b by split<;>omega];exact h⟩
theorem bIr{k:IntKind}{a b:Int}{K:Value->Prop}(h:K (.int k (max a b))):QM (.int k a) (.int k b) K:=
 ⟨k,a,b,rfl,rfl,by rw[show (if b>a then b else a)=max a b by split<;>omega];exact h⟩
theorem yx{z cells:List Value}{ps:List (Nat × Nat × Value)}{K:Value->Prop}(hc:lx z ps=some cells)(h:K (.agg cells.toArray)):zn z ps K:=⟨cells,hc,h⟩
theorem zz{z cells:List Value}{ps:List (Nat × Nat × Value)}{e:TypeId}{n:Nat}{K:Value->World->Prop}(hS:SL W l w)(hc:lx z ps=some cells)
  (h:∀b w',SL W (.pt b cells e::l) w'->K (.slice (some ⟨b,0,none⟩) n n) w'):zm z ps e n w K:=⟨cells,hc,h _ _ hS.new⟩
theorem EP{z:List Value}{lD n c:Nat}{e:TypeId}{kl kc:IntKind}{K:Value->World->Prop}(hS:SL W l w)(h1:n<=c)(h2:lD*c<=281474976710656)(h3:c<9223372036854775808)
  (h:∀b w',SL W (.pt b (b_ z c) e::l) w'->K (.slice (some ⟨b,0,none⟩) n c) w'):wF z lD e (.int kl (n:Int)) (.int kc (c:Int)) w K:=⟨n,c,kl,kc,rfl,rfl,h1,h2,h3,h _ _ hS.new⟩
theorem yR{K:World->Prop}(hS:SL W l w)(h:∀w',SL W l w'->K w'):zi w K:=h _ hS.drew
def app:List Chunk->List Chunk->List Chunk
 | [],F=>F
 | c::r,F=>c::app r F
theorem By:∀(p F:List Chunk),app p F=p++F
 | [],_=>rfl
 | c::r,F=>by rw[app,By r F];rfl
theorem SL.take{p F:List Chunk}(h:SL W l w)(k:ky p l F):SL W (app p F) w:=by rw[By];exact h.pick k
def Spec(P:Program)(f:FuncId)(args:List Value)(pre:List Chunk)(Q:Value->List Chunk->Prop):Prop:=
 ∀W F w,SL W (app pre F) w->zU P f args w λv w'=>∃post,Q v post/\SL W (app post F) w'
theorem yI{P:Program}{f:FuncId}{args:List Value}{pre F:List Chunk}{Q:Value->List Chunk->Prop}{K:Value->World->Prop}(c:Spec P f args pre Q)(hS:SL W l w)(p:ky pre l F)
  (h:∀v post,Q v post->∀w',SL W (app post F) w'->K v w'):zU P f args w K:=
 (c W F w (hS.take p)).mono λv w' ⟨post,hq,hs⟩=>h v post hq w' hs
theorem QE{P:Program}{T:List Bool}{f:FuncId}{first captured:Array Value}{args args':List Value}{pre F:List Chunk}{Q:Value->List Chunk->Prop}{K:Value->World->Prop}(hT:T.getD f false=true)(c:Spec P f args' pre Q)
  (ha:first.toList++args++captured.toList=args') (hS:SL W l w) (p:ky pre l F)
  (h:∀v post,Q v post->∀w',SL W (app post F) w'->K v w'):yM P T (.func (.func f) first captured) args w K:=
 ⟨f,first,captured,rfl,hT,by rw[ha];exact yI c hS p h⟩
def dW(u:Value)(q:List Chunk):Value->List Chunk->Prop:=λv post=>v=u/\post=q
inductive ml:List Chunk->List Chunk->Prop where
 | refl {l:List Chunk}:ml l l
 | cons {c:Chunk} {t l l':List Chunk} (h:kL c l l') (k:ml t l'):ml (c::t) l
 | drop {d:Chunk} {t l:List Chunk} (k:ml t l):ml t (d::l)
theorem ml.spec{t l:List Chunk}(k:ml t l):∃r,l.Perm (t++r):=by
 induction k with
 | refl=>exact⟨[],by simp⟩
 | cons h _ ih=>obtain⟨r,p⟩:=ih;exact⟨r,h.perm.trans (p.cons _)⟩
 | @drop d t l _ ih=>obtain⟨r,p⟩:=ih;exact⟨d::r,(p.cons d).trans List.perm_middle.symm⟩
theorem SL.OG:∀{r t:List Chunk} {w:World},SL W (t++r) w->SL W t w
 | [],t,w,h=>by simpa using h
 | c::r,t,w,h=>SL.OG (r:=r) (SL.drop (c:=c) (h.perm List.perm_middle))
theorem SL.b4{t:List Chunk}(h:SL W l w)(k:ml t l):SL W t w:=by
 obtain⟨r,p⟩:=k.spec
 exact (h.perm p).OG
theorem YP{α:Type}{a:α}{p:Prop}(h:p):a=a/\p:=⟨rfl,h⟩
end
class lq (P:Prop) (Q:outParam Prop):Prop where
 h:Q->P
theorem Q0{P Q:Prop}[i:lq P Q](h:Q):P:=i.h h
section
variable {K:Value->Prop}
instance {a:Addr}:lq (YX (.pointer (some a)) K) (K (.pointer (some a))):=⟨bIv⟩
instance {a b:Value}:lq (zf 0 (.tuple #[a,b]) K) (K a):=⟨bF4⟩
instance {a b:Value}:lq (zf 1 (.tuple #[a,b]) K) (K b):=⟨bF5⟩
instance {a b c:Value}:lq (zf 0 (.tuple #[a,b,c]) K) (K a):=⟨bF6⟩
instance {a b c:Value}:lq (zf 1 (.tuple #[a,b,c]) K) (K b):=⟨bF7⟩
instance {a b c:Value}:lq (zf 2 (.tuple #[a,b,c]) K) (K c):=⟨bF8⟩
instance {a b c d:Value}:lq (zf 0 (.tuple #[a,b,c,d]) K) (K a):=⟨bF9⟩
instance {a b c d:Value}:lq (zf 1 (.tuple #[a,b,c,d]) K) (K b):=⟨bIa⟩
instance {a b c d:Value}:lq (zf 2 (.tuple #[a,b,c,d]) K) (K c):=⟨bIb⟩
instance {a b c d:Value}:lq (zf 3 (.tuple #[a,b,c,d]) K) (K d):=⟨bIc⟩
instance {b o off:Nat}:lq (zr off (.pointer (some ⟨b,o,none⟩)) K) (K (.pointer (some ⟨b,o+off,none⟩))):=⟨zR⟩
instance {a:Option Addr} {n c:Nat}:lq (zd (.slice a n c) K) (K (.int .i64 n)):=⟨yo⟩
instance {s:ByteArray}:lq (zT (.string s) K) (K (.int .i64 s.size)):=⟨bIl⟩
instance {k:IntKind} {a b:Int}:lq (zc .eql (.int k a) (.int k b) K) (K (.bool (decide (a=b)))):=⟨IN⟩
instance {k:IntKind} {a b:Int}:lq (zc .neq (.int k a) (.int k b) K) (K (.bool (decide (a≠b)))):=⟨TP⟩
instance {k:IntKind} {a b:Int}:lq (zc .lss (.int k a) (.int k b) K) (K (.bool (decide (a<b)))):=⟨TN⟩
instance {k:IntKind} {a b:Int}:lq (zc .leq (.int k a) (.int k b) K) (K (.bool (decide (a<=b)))):=⟨bIk⟩
instance {k:IntKind} {a b:Int}:lq (zc .gtr (.int k a) (.int k b) K) (K (.bool (decide (b<a)))):=⟨bIf⟩
instance {k:IntKind} {a b:Int}:lq (zc .geq (.int k a) (.int k b) K) (K (.bool (decide (b<=a)))):=⟨bId⟩
instance {a b:ByteArray}:lq (zc .eql (.string a) (.string b) K) (K (.bool (decide (a=b)))):=⟨bF3⟩
instance {a b:ByteArray}:lq (zc .neq (.string a) (.string b) K) (K (.bool (decide (a≠b)))):=⟨bIu⟩
instance {a b:Bool}:lq (HEq .bool false (.bool a) (.bool b) K) (K (.bool (decide (a=b)))):=⟨bF2⟩
instance {a b:Bool}:lq (HEq .bool true (.bool a) (.bool b) K) (K (.bool (decide (a≠b)))):=⟨bIt⟩
instance {t:TypeId} {a:Option Addr}:lq (HEq (.pointer t) false (.pointer a) (.pointer none) K) (K (.bool a.isNone)):=⟨Z2⟩
instance {t:TypeId} {a:Option Addr}:lq (HEq (.pointer t) true (.pointer a) (.pointer none) K) (K (.bool a.isSome)):=⟨IP⟩
instance {b:Bool}:lq (Zj (.bool b) K) (K (.bool !b)):=⟨zP⟩
instance {k:IntKind} {a b:Int}:lq (YW (.int k a) (.int k b) K) (K (.int k (min a b))):=⟨bIs⟩
instance {k:IntKind} {a b:Int}:lq (QM (.int k a) (.int k b) K) (K (.int k (max a b))):=⟨bIr⟩
instance {A B:Prop}:lq (ic (.bool true) A B) A:=⟨zw⟩
instance {A B:Prop}:lq (ic (.bool false) A B) B:=⟨zq⟩
instance {α:Type} {a:α} {p:Prop}:lq (a=a/\p) p:=⟨YP⟩
end
class x8 (op:BinOp) (x y:Value) (z:outParam Value) (c:outParam Prop):Prop where
 h:∀{K:Value->Prop},c->K z->zc op x y K
instance (priority:=high) {a:Nat}:x8 .add (.int .i64 (a:Int)) (.int .i64 1) (.int .i64 ((a+1:Nat):Int)) (a+1<=9223372036854775807):=⟨bFw⟩
instance {a b:Nat}:x8 .add (.int .i64 (a:Int)) (.int .i64 (b:Int)) (.int .i64 ((a+b:Nat):Int)) (a+b<=9223372036854775807):=⟨ye⟩
instance (priority:=low) {a b:Int}:x8 .add (.int .i64 a) (.int .i64 b) (.int .i64 (a+b)) (-9223372036854775808<=a+b/\a+b<=9223372036854775807):=⟨IL⟩
instance {k:IntKind} {a b:Nat}:x8 .rem (.int k (a:Int)) (.int k (b:Int)) (.int k ((a % b:Nat):Int)) (0<b):=⟨bIy⟩
instance {a b:Int}:x8 .sub (.int .i64 a) (.int .i64 b) (.int .i64 (a-b)) (-9223372036854775808<=a-b/\a-b<=9223372036854775807):=⟨bI6⟩
section
variable {W w:World} {l l' p F:List Chunk} {c d:Chunk}
theorem Qb{op:BinOp}{x y z:Value}{c:Prop}{K:Value->Prop}[i:x8 op x y z c](h:K z)(hc:c:=by omega):zc op x y K:=i.h hc h
theorem Xh(h:Has c l:=by (repeat (first|exact Has.hd|apply Has.tl))):Has c l:=h
theorem Xu(h:kr c d l l':=by (repeat (first|exact kr.hd|apply kr.tl))):kr c d l l':=h
theorem Xr(h:kL c l l':=by (repeat (first|exact kL.hd|apply kL.tl))):kL c l l':=h
theorem Xp(h:ky p l F:=by (repeat (first|(with_reducible exact ky.nil)|((with_reducible apply ky.cons);(focus ((repeat (first|(with_reducible exact kL.hd)|(with_reducible apply kL.tl)));done)))))):ky p l F:=h
theorem Xi(h:ml p l:=by ((try simp only[app]);repeat (first|(with_reducible exact ml.refl)|((with_reducible apply ml.cons);(focus ((repeat (first|(with_reducible exact kL.hd)|(with_reducible apply kL.tl)));done)))|(with_reducible apply ml.drop)))):ml p l:=h
theorem aR{W w:World}{p l:List Chunk}(x:SL W l w)(h:ml p l:=by ((try simp only[app]);repeat (first|(with_reducible exact ml.refl)|((with_reducible apply ml.cons);(focus ((repeat (first|(with_reducible exact kL.hd)|(with_reducible apply kL.tl)));done)))|(with_reducible apply ml.drop)))):SL W p w:=SL.b4 x h
theorem eF{W w:World}{u:Value}{q l F:List Chunk}(x:SL W l w)(h:ml (app q F) l:=by ((try simp only[app]);repeat (first|(with_reducible exact ml.refl)|((with_reducible apply ml.cons);(focus ((repeat (first|(with_reducible exact kL.hd)|(with_reducible apply kL.tl)));done)))|(with_reducible apply ml.drop)))):∃y,dW u q u y/\SL W (app y F) w:=⟨_,⟨rfl,rfl⟩,SL.b4 x h⟩
theorem Qa{b o:Nat}{cs:List Value}{t:TypeId}{v:Value}{K:Value->Prop}(hS:SL W l w)(h:K v)(m:Has (.pt b cs t) l:=by (with_unfolding_all (repeat (first|exact Has.hd|apply Has.tl))))(hv:cs[o]?=some v:=by (with_unfolding_all rfl)):b6 (.pointer (some ⟨b,o,none⟩)) w K:=zX hS m hv h
theorem Qc{b n:Nat}{cs:List Value}{t:TypeId}{K:Value->Prop}(hS:SL W l w)(h:K (.agg cs.toArray))(m:Has (.pt b cs t) l:=by (with_unfolding_all (repeat (first|exact Has.hd|apply Has.tl))))(hn:cs.length=n:=by (with_unfolding_all rfl)):zj n (.pointer (some ⟨b,0,none⟩)) w K:=yj hS m hn h
theorem Qd{z cells:List Value}{ps:List (Nat × Nat × Value)}{K:Value->Prop}(h:K (.agg cells.toArray))(hc:lx z ps=some cells:=by (with_unfolding_all (simp[lx,Value.cells];rfl))):zn z ps K:=yx hc h
theorem Qe{b o:Nat}{cs:List Value}{t:TypeId}{v u:Value}{K:World->Prop}(hS:SL W l w)(h:∀w',SL W l' w'->K w')(m:kr (.pt b cs t) (.pt b (cs.set o v) t) l l':=by (with_unfolding_all (repeat (first|exact kr.hd|apply kr.tl))))(hu:cs[o]?=some u:=by (with_unfolding_all rfl))(h1:v.oneCell'=true:=by (with_unfolding_all (first|rfl|assumption))):
  jG (.pointer (some ⟨b,o,none⟩)) v w K:=Zb hS m hu h1 h
theorem Qf{b n:Nat}{cs vs:List Value}{t:TypeId}{K:World->Prop}(hS:SL W l w)(h:∀w',SL W l' w'->K w')(m:kr (.pt b cs t) (.pt b vs t) l l':=by (with_unfolding_all (repeat (first|exact kr.hd|apply kr.tl))))(hn:vs.length=n:=by (with_unfolding_all rfl))(hc:cs.length=n:=by (with_unfolding_all rfl))(h1:vs.all Value.oneCell'=true:=by (with_unfolding_all rfl)):
  zl n (.pointer (some ⟨b,0,none⟩)) (.agg vs.toArray) w K:=zD hS m hn hc (List.all_eq_true.1 h1) h
theorem O6{z cs:List Value}{n:Nat}(hc:cs.length=n)(hz:z.length=n):lx (b_ z 1) [(0,n,.agg cs.toArray)]=some cs:=by
 subst hc
 simp[lx,b_,Value.cells,hz]
theorem Qh{z cs:List Value}{e:TypeId}{n:Nat}{K:Value->World->Prop}(hS:SL W l w)
  (h:∀b w',SL W (.pt b cs e::l) w'->K (.slice (some ⟨b,0,none⟩) 1 1) w') (hc:cs.length=n:=by (with_unfolding_all rfl)) (hz:z.length=n:=by (with_unfolding_all rfl)):zm (b_ z 1) [(0,n,.agg cs.toArray)] e 1 w K:=zz hS (O6 hc hz) h
theorem Qg{z cells:List Value}{ps:List (Nat × Nat × Value)}{e:TypeId}{n:Nat}{K:Value->World->Prop}(hS:SL W l w)
  (h:∀b w',SL W (.pt b cells e::l) w'->K (.slice (some ⟨b,0,none⟩) n n) w') (hc:lx z ps=some cells:=by (with_unfolding_all (simp[lx,Value.cells,b_];rfl))):zm z ps e n w K:=zz hS hc h
end
structure Wr(Q:Prop):Prop where
 h:Q
theorem Gp{P Q:Prop}(k:Q) (h:Wr Q->P:=by
 intro kk
 (with_reducible first|apply Q0|refine Qa hS ?_|refine Qb ?_|refine Qc hS ?_|refine Qd ?_)
 repeat (with_reducible first|apply Q0|refine Qa hS ?_|refine Qb ?_|refine Qc hS ?_|refine Qd ?_)
 exact kk.h):P:=h ⟨k⟩
theorem bW{P p A B:Prop}{i:Decidable p}(x:p->A)(y:¬p->B)(h:Wr (ic (.bool (decide p)) A B)->P:=by
 intro kk
 (with_reducible first|apply Q0|refine Qa hS ?_|refine Qb ?_|refine Qc hS ?_|refine Qd ?_)
 repeat (with_reducible first|apply Q0|refine Qa hS ?_|refine Qb ?_|refine Qc hS ?_|refine Qd ?_)
 exact kk.h):P:=h (.mk (za x y))
theorem Gw{W:World}{l:List Chunk}{P:Prop}{G:World->Prop}(k:∀w,SL W l w->G w) (h:(∀w,SL W l w->G w)->P:=by
 intro kk
 first
  | ((with_reducible refine Qe hS ?_);intro w hS;simp only[List.set]at hS)
  | ((with_reducible first|refine yR hS ?_|refine Qf hS ?_);intro w hS)
 repeat (first
  | (with_reducible first|apply Q0|refine Qa hS ?_|refine Qb ?_|refine Qc hS ?_|refine Qd ?_)
  | ((with_reducible refine Qe hS ?_);intro w hS;simp only[List.set]at hS)
  | ((with_reducible first|refine yR hS ?_|refine Qf hS ?_);intro w hS))
 exact kk w hS):P:=h k
theorem Gb{W:World}{l:Nat->List Chunk}{P:Prop}{G:Nat->World->Prop}(k:∀b w,SL W (l b) w->G b w) (h:(∀b w,SL W (l b) w->G b w)->P:=by
 intro kk
 (with_reducible first|refine zJ hS ?_|refine Qh hS ?_|refine Qg hS ?_)
 intro b w hS
 repeat (first
  | (with_reducible first|apply Q0|refine Qa hS ?_|refine Qb ?_|refine Qc hS ?_|refine Qd ?_)
  | ((with_reducible refine Qe hS ?_);intro w hS;simp only[List.set]at hS)
  | ((with_reducible first|refine yR hS ?_|refine Qf hS ?_);intro w hS))
 exact kk b w hS):P:=h k
theorem Gn{W:World}{l:List Chunk}{P:Prop}{G:World->Prop}(k:∀w,SL W l w->G w) (h:(∀w,SL W l w->G w)->P:=by
 intro kk
 try simp only[app]at hS
 repeat (first
  | (with_reducible first|apply Q0|refine Qa hS ?_|refine Qb ?_|refine Qc hS ?_|refine Qd ?_)
  | ((with_reducible refine Qe hS ?_);intro w hS;simp only[List.set]at hS)
  | ((with_reducible first|refine yR hS ?_|refine Qf hS ?_);intro w hS))
 exact kk w hS):P:=h k
theorem Gm{W:World}{l:Nat->List Chunk}{P:Prop}{G:Nat->World->Prop}(k:∀b w,SL W (l b) w->G b w) (h:(∀b w,SL W (l b) w->G b w)->P:=by
 intro kk
 try simp only[app]at hS
 repeat (first
  | (with_reducible first|apply Q0|refine Qa hS ?_|refine Qb ?_|refine Qc hS ?_|refine Qd ?_)
  | ((with_reducible refine Qe hS ?_);intro w hS;simp only[List.set]at hS)
  | ((with_reducible first|refine yR hS ?_|refine Qf hS ?_);intro w hS))
 (with_reducible first|refine zJ hS ?_|refine Qh hS ?_|refine Qg hS ?_)
 intro b w hS
 repeat (first
  | (with_reducible first|apply Q0|refine Qa hS ?_|refine Qb ?_|refine Qc hS ?_|refine Qd ?_)
  | ((with_reducible refine Qe hS ?_);intro w hS;simp only[List.set]at hS)
  | ((with_reducible first|refine yR hS ?_|refine Qf hS ?_);intro w hS))
 exact kk b w hS):P:=h k
theorem Cc{W w:World}{l pre F:List Chunk}{P:Program}{f:FuncId}{args:List Value}{Q:Value->List Chunk->Prop}{K:Value->World->Prop}(c:Spec P f args pre Q)(h:∀v post,Q v post->∀w',SL W (app post F) w'->K v w')
  (hs:SL W l w:=by exact hS) (p:ky pre l F:=by (repeat (first|(with_reducible exact ky.nil)|((with_reducible apply ky.cons);(focus ((repeat (first|(with_reducible exact kL.hd)|(with_reducible apply kL.tl)));done)))))):zU P f args w K:=yI c hs p h
theorem Cg{W w:World}{l l' pre q F:List Chunk}{P:Program}{f:FuncId}{args:List Value}{u:Value}{K:Value->World->Prop}{G:World->Prop}(c:Spec P f args pre (dW u q))(k:∀w,SL W l' w->G w)
  (hs:SL W l w:=by exact hS) (p:ky pre l F:=by (repeat (first|(with_reducible exact ky.nil)|((with_reducible apply ky.cons);(focus ((repeat (first|(with_reducible exact kL.hd)|(with_reducible apply kL.tl)));done))))))
  (e:(∀w,SL W l' w->G w)->∀w,SL W (app q F) w->K u w:=by
   intro kk w hS
   try simp only[app]at hS
   repeat (first
    | (with_reducible first|apply Q0|refine Qa hS ?_|refine Qb ?_|refine Qc hS ?_|refine Qd ?_)
    | ((with_reducible refine Qe hS ?_);intro w hS;simp only[List.set]at hS)
    | ((with_reducible first|refine yR hS ?_|refine Qf hS ?_);intro w hS))
   exact kk w hS):zU P f args w K:=yI c hs p λv post ⟨h1,h2⟩ w' hw=>by subst h1 h2;exact e k w' hw
def a_(v:Value)(t:TypeId)(sz n:Nat)(cells:List Value):zC:=mX λx:Option (Nat × Nat × List Value)=>match x with
 | none=>zQ ((∃a,v= .slice a 0 0)/\n=0/\cells=[]) []
 | some (b,cap,rest)=>zQ (v= .slice (some ⟨b,0,none⟩) n cap/\n<=cap/\cells.length=n*sz/\rest.length=(cap-n)*sz) [.pt b (cells++rest) t]
section
variable {W w:World} {l:List Chunk}
theorem a_.open{v:Value}{t:TypeId}{sz n:Nat}{cells:List Value}(h:SL W (.ob (a_ v t sz n cells)::l) w):
  ((∃a,v= .slice a 0 0)/\n=0/\cells=[]/\SL W l w)\/∃b cap rest,v= .slice (some ⟨b,0,none⟩) n cap/\n<=cap/\cells.length=n*sz/\rest.length=(cap-n)*sz/\SL W (.pt b (cells++rest) t::l) w:=by
 unfold a_ at h
 obtain⟨x,h⟩:=SL.ex.1 h
 match x,h with
 | none,h=>
  obtain⟨⟨h1,h2,h3⟩,h⟩:=SL.fact.1 h
  exact .inl ⟨h1,h2,h3,h⟩
 | some (b,cap,rest),h=>
  obtain⟨⟨h1,h2,h3,h4⟩,h⟩:=SL.fact.1 h
  exact .inr ⟨b,cap,rest,h1,h2,h3,h4,h⟩
theorem a_.nil{t:TypeId}{sz:Nat}(h:SL W l w):SL W (.ob (a_ (.slice none 0 0) t sz 0 [])::l) w:=by
 unfold a_
 exact SL.ex.2 ⟨none,SL.fact.2 ⟨⟨⟨_,rfl⟩,rfl,rfl⟩,h⟩⟩
theorem a_.r9{a:Option Addr}{t:TypeId}{sz:Nat}(h:SL W l w):SL W (.ob (a_ (.slice a 0 0) t sz 0 [])::l) w:=by
 unfold a_
 exact SL.ex.2 ⟨none,SL.fact.2 ⟨⟨⟨_,rfl⟩,rfl,rfl⟩,h⟩⟩
theorem a_.mk{b n cap:Nat}{t:TypeId}{sz:Nat}{cells rest:List Value}(h1:n<=cap)(h2:cells.length=n*sz)(h3:rest.length=(cap-n)*sz)(h:SL W (.pt b (cells++rest) t::l) w):
  SL W (.ob (a_ (.slice (some ⟨b,0,none⟩) n cap) t sz n cells)::l) w:=by
 unfold a_
 exact SL.ex.2 ⟨some (b,cap,rest),SL.fact.2 ⟨⟨rfl,h1,h2,h3⟩,h⟩⟩
theorem a_.full{b n:Nat}{t:TypeId}{sz:Nat}{cells:List Value}(h2:cells.length=n*sz)(h:SL W (.pt b cells t::l) w):SL W (.ob (a_ (.slice (some ⟨b,0,none⟩) n n) t sz n cells)::l) w:=
 a_.mk (rest:=[]) (Nat.le_refl _) h2 (by simp) (by simpa using h)
theorem T9{b o m cap sz:Nat}{cs rQ:List Value}{t:TypeId}(hS:SL W l w)(hm:Has (.pt b rQ t) l)(hl:cs.length=m*sz)(hc:∀j v,cs[j]?=some v->rQ[o+j]?=some v):mN w sz (.slice (some ⟨b,o,none⟩) m cap) m cs:=
 ⟨rfl,hl,λj v e=>by rw[Addr.add_lit];exact hS.cell hm (hc j v e)⟩
theorem lP{b m cap sz:Nat}{cs:List Value}{t:TypeId}(hS:SL W l w)(hm:Has (.pt b cs t) l)(hl:cs.length=m*sz):mN w sz (.slice (some ⟨b,0,none⟩) m cap) m cs:=
 T9 hS hm hl λj v e=>by rw[Nat.zero_add];exact e
theorem T'{s:ByteArray}:mN w 1 (.string s) s.size (s.data.toList.map λb=>.int .u8 b.toNat):=⟨rfl,rfl⟩
theorem Tg{cells rest cs:List Value}:cs.length<=rest.length->sd (cells++rest) cells.length cs=cells++cs++rest.drop cs.length:=λh=>by
 rw[A3 _ _ _ (by simp;omega)]
 simp
theorem zx{x y:Value}{t:TypeId}{sz lD n m:Nat}{z cells cs:List Value}{F:List Chunk}{K:Value->World->Prop}(hS:SL W l w)(hr:kL (.ob (a_ x t sz n cells)) l F)(ld:mN w sz y m cs)
  (hl:cs.length=m*sz) (hz:z.length=sz) (h1:∀v∈cs,v.oneCell'=true) (hb:(n+m)*lD<=140737488355328) (hn:n+m<=140737488355328)
  (h:∀v' w',SL W (.ob (a_ v' t sz (n+m) (cells++cs))::F) w'->K v' w'):zu sz lD z t x y w K:=by
 rcases a_.open (hS.perm hr.perm) with ⟨⟨a,rfl⟩,rfl,rfl,kA⟩|⟨b,cap,rest,rfl,hc,hlen,nc,kA⟩
 ·refine⟨a,0,0,m,cs,rfl,ld,hb,hn,λh0=>?_,λh0=>⟨[],(by cases a with|none=>exact⟨rfl,rfl⟩|some p=>exact⟨rfl,by simp,λj v e=>by simp at e⟩),λc kj nu=>?_⟩⟩
  ·have hm:m=0:=by omega
   subst hm
   have:cs=[]:=List.eq_nil_of_length_eq_zero (by simpa using hl)
   subst this
   cases a with
   | none=>exact h _ _ (a_.r9 kA)
   | some p=>exact h _ _ (a_.r9 kA)
  ·refine h _ _ ?_
   have:=a_.mk (sz:=sz) (n:=0+m) (cells:=cs) (rest:=b_ z (c-(0+m))) (cap:=c) kj (by simpa using hl) (by rw[nO,hz]) (SL.new (cs:=cs++b_ z (c-(0+m))) (t:=t) (kA.drew))
   simpa using this
 ·refine⟨some ⟨b,0,none⟩,n,cap,m,cs,rfl,ld,hb,hn,λh0=>?_,λh0=>?_⟩
  ·have rX:cs.length<=rest.length:=by
    rw[hl,nc];exact Nat.mul_le_mul_right _ (by omega)
   show uF (Addr.add ⟨b,0,none⟩ (n*sz)) 0 cs w _
   rw[Addr.add_lit]
   refine Bd (t:=t) cs (0+n*sz) 0 (cells++rest) w (.pt b (cells++rest) t::F) _ kA .hd (by simp[hlen];omega) h1 (λw' rV=>h _ _ ?_)
   have e:sd (cells++rest) (0+n*sz+0) cs=cells++cs++rest.drop cs.length:=by
    rw[show 0+n*sz+0=cells.length by omega];exact Tg rX
   rw[e]at rV
   exact a_.mk (n:=n+m) (cells:=cells++cs) (rest:=rest.drop cs.length) h0 (by simp[hlen,hl,Nat.add_mul]) (by
    rw[List.length_drop,nc,hl,<- Nat.mul_sub_right_distrib];congr 1;omega) rV
  ·refine⟨cells,⟨rfl,hlen,λj v e=>?_⟩,λc kj nu=>h _ _ ?_⟩
   ·rw[Addr.add_lit]
    refine kA.cell .hd ?_
    rw[Nat.zero_add]
    rw[List.getElem?_append_left (List.getElem?_eq_some_iff.1 e).1];exact e
   ·exact a_.mk (n:=n+m) (cells:=cells++cs) (rest:=b_ z (c-(n+m))) kj (by simp[hlen,hl,Nat.add_mul]) (by rw[nO,hz]) (SL.new (kA.drop.drew))
def gi(H:bw)(sz:Nat)(v:Value)(n:Nat)(cells:List Value):Prop:=
 cells.length=n*sz/\∃a cap,v= .slice a n cap/\n<=cap/\(n=0\/∃b o,a=some ⟨b,o,none⟩/\∀j u,cells[j]?=some u->H.cell b (o+j)=some u)
theorem gi.mono{H H':bw}(hh:H.le H'){sz n:Nat}{v:Value}{cells:List Value}(h:gi H sz v n cells):gi H' sz v n cells:=by
 obtain⟨h1,a,cap,h2,h3,h4⟩:=h
 refine⟨h1,a,cap,h2,h3,h4.imp id ?_⟩
 rintro ⟨b,o,h5,h6⟩
 exact⟨b,o,h5,λj u hu=>bw.VX hh (h6 j u hu)⟩
theorem gi.nil(H:bw)(sz:Nat):gi H sz (.slice none 0 0) 0 []:=⟨by simp,none,0,rfl,Nat.le_refl _,.inl rfl⟩
theorem a_.freeze{H:bw}{v:Value}{t:TypeId}{sz n:Nat}{cells:List Value}(h:SL W (.mem H::.ob (a_ v t sz n cells)::l) w):∃H',H.le H'/\gi H' sz v n cells/\SL W (.mem H'::l) w:=by
 rcases a_.open (h.perm (.swap _ _ _)) with ⟨⟨a,rfl⟩,rfl,rfl,hS⟩|⟨b,cap,rest,rfl,hc,hlen,nc,hS⟩
 ·exact⟨H,bw.le_refl H,⟨by simp,a,0,rfl,Nat.le_refl _,.inl rfl⟩,hS⟩
 ·obtain⟨H',h1,h2,h3⟩:=SL.freeze (hS.perm (.swap _ _ _))
  refine⟨H',h1,⟨hlen,_,cap,rfl,hc,.inr ⟨b,0,rfl,λj u hu=>?_⟩⟩,h3⟩
  rw[Nat.zero_add]
  refine h2 j u ?_
  rw[List.getElem?_append_left (List.getElem?_eq_some_iff.1 hu).1];exact hu
theorem gi.one{H:bw}{sz n:Nat}{v:Value}{cells:List Value}(h:gi H sz v n cells):v.oneCell'=true:=by
 obtain⟨_,a,cap,rfl,_,_⟩:=h;rfl
theorem si{H:bw}{y:Value}{sz m:Nat}{cs:List Value}(hS:SL W l w)(hm:Has (.mem H) l)(h:gi H sz y m cs):mN w sz y m cs:=by
 obtain⟨h1,a,cap,rfl,h3,h4⟩:=h
 cases a with
 | none=>
  rcases h4 with rfl|⟨b,o,h5,_⟩
  ·exact⟨rfl,List.eq_nil_of_length_eq_zero (by simpa using h1)⟩
  ·cases h5
 | some p=>
  refine⟨rfl,h1,λj v e=>?_⟩
  rcases h4 with rfl|⟨b,o,h5,h6⟩
  ·have:cs=[]:=List.eq_nil_of_length_eq_zero (by simpa using h1)
   subst this;simp at e
  ·cases h5
   rw[Addr.add_lit]
   exact hS.HW hm (h6 j v e)
theorem zo{H:bw}{v:Value}{sz n:Nat}{cells:List Value}{K:Value->Prop}(h:gi H sz v n cells)(k:K (.int .i64 n)):zd v K:=by
 obtain⟨_,a,cap,rfl,_,_⟩:=h
 exact yo k
theorem ZB{H:bw}{v:Value}{sz n j:Nat}{k:IntKind}{cells:List Value}{K:Value->Prop}(h:gi H sz v n cells)(hj:j<n)
  (hK:∀b o,(∀i u,i<sz->cells[j*sz+i]?=some u->H.cell b (o+i)=some u)->K (.pointer (some ⟨b,o,none⟩))):ze sz v (.int k (j:Int)) K:=by
 obtain⟨_,a,cap,rfl,_,h4⟩:=h
 rcases h4 with rfl|⟨b,o,rfl,h6⟩
 ·omega
 ·refine zB hj (hK b (o+j*sz) λi u hi hu=>?_)
  have:=h6 _ u hu
  rwa [<- Nat.add_assoc]at this
theorem yS{H:bw}{v u:Value}{n j:Nat}{k:IntKind}{cells:List Value}{K:Value->Prop}(hS:SL W l w)(hm:Has (.mem H) l)(h:gi H 1 v n cells)(hj:j<n)(hu:cells[j]?=some u)(hK:K u):
  ze 1 v (.int k (j:Int)) λp=>b6 p w K:=
 ZB h hj λb o hb=>ZJ hS hm (hb 0 u (by omega) (by simpa using hu)) hK
theorem gi.drop{H:bw}{a:Option Addr}{sz n cap k:Nat}{cells:List Value}(h:gi H sz (.slice a n cap) n cells)(hk:k<=n):gi H sz (.slice (if cap=k then a else a.map (·.add (k*sz))) (n-k) (cap-k)) (n-k) (cells.drop (k*sz)):=by
 obtain⟨h1,a',uS,h2,h3,h4⟩:=h
 cases h2
 refine⟨by rw[List.length_drop,h1,Nat.mul_sub_right_distrib],_,_,rfl,by omega,?_⟩
 rcases h4 with rfl|⟨b,o,rfl,h6⟩
 ·exact .inl (by omega)
 ·by_cases hc:cap=k
  ·exact .inl (by omega)
  ·refine .inr ⟨b,o+k*sz,by simp[hc,Addr.add_lit],λj u hu=>?_⟩
   rw[List.getElem?_drop]at hu
   have:=h6 _ u hu
   rwa [<- Nat.add_assoc]at this
theorem QI{H:bw}{v:Value}{sz n k:Nat}{kk:IntKind}{cells:List Value}{K:Value->Prop}(h:gi H sz v n cells)(hk:k<=n)(hK:∀v',gi H sz v' (n-k) (cells.drop (k*sz))->K v'):iL sz v (some (.int kk (k:Int))) none none K:=by
 have h':=h
 obtain⟨_,a,cap,rfl,h3,_⟩:=h
 exact⟨a,n,cap,k,n,cap,rfl,rfl,rfl,⟨kk,rfl⟩,hk,h3,Nat.le_refl _,hK _ (gi.drop h' hk)⟩
end
end Go.Proofs.YtfenmffiidchcaaGreat
