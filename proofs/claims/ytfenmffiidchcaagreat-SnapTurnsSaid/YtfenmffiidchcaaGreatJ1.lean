/-
  Texts of the proof, joined: Sl1, Sl2, Sl3.
-/
import Derived.Test.YtfenmffiidchcaaGreatQEng10
namespace Go.Proofs.YtfenmffiidchcaaGreat
set_option linter.unusedVariables false
open Go.RowKit
abbrev aW:=Nat->Option Obj
abbrev zC:=aW->Prop
def aW.emp:aW:=λ_=>none
def aW.one(b:Nat)(o:Obj):aW:=λk=>if k=b then some o else none
def Sep(h h1 h2:aW):Prop:=∀b,(h1 b=none/\h b=h2 b)\/(h2 b=none/\h b=h1 b)
def aW.le(h k:aW):Prop:=∀b o,h b=some o->k b=some o
theorem Sep.symm{h h1 h2:aW}(s:Sep h h1 h2):Sep h h2 h1:=λb=>(s b).symm
theorem Sep.left{h h1 h2:aW}(s:Sep h h1 h2):h1.le h:=λb o e=>by
 rcases s b with ⟨a,c⟩|⟨a,c⟩
 ·rw[a]at e;cases e
 ·rw[c,e]
theorem Sep.right{h h1 h2:aW}(s:Sep h h1 h2):h2.le h:=s.symm.left
theorem Sep.emp(h:aW):Sep h aW.emp h:=λb=>.inl ⟨rfl,rfl⟩
theorem Sep.aw3{h h1:aW}(s:Sep h aW.emp h1):h=h1:=funext λb=>by
 rcases s b with ⟨_,c⟩|⟨a,c⟩
 ·exact c
 ·rw[c,a];rfl
theorem Sep.swap{h h1 h2 h3 h4:aW}(s:Sep h h1 h2)(t:Sep h2 h3 h4):∃k,Sep h h3 k/\Sep k h1 h4:=by
 refine⟨λb=>(h1 b).or (h4 b),λb=>?_,λb=>?_⟩
 ·rcases s b with ⟨a,c⟩|⟨a,c⟩<;>rcases t b with ⟨d,e⟩|⟨d,e⟩<;>simp_all
 ·rcases s b with ⟨a,c⟩|⟨a,c⟩<;>rcases t b with ⟨d,e⟩|⟨d,e⟩<;>simp_all
theorem Sep.assoc{h h1 h2 h3 h4:aW}(s:Sep h h1 h2)(t:Sep h1 h3 h4):∃k,Sep h h3 k/\Sep k h4 h2:=by
 obtain⟨k,a,b⟩:=s.symm.swap t
 exact⟨k,a,b.symm⟩
theorem Sep.join{h h1 h2 h3 k:aW}(s:Sep h h3 k)(t:Sep k h1 h2):∃k',Sep h k' h2/\Sep k' h3 h1:=by
 obtain⟨k',a,b⟩:=s.swap t.symm
 exact⟨k',a.symm,b⟩
inductive Chunk where
 | pt (b:Nat) (cs:List Value) (t:TypeId)
 | mp (b:Nat) (es:List MapEntry) (clock:Nat)
 | mem (H:aW)
 | ob (A:zC)
def S0(n:Nat)(f:Nat × Nat):Prop:=f.1=f.2\/n<=f.1
def Chunk.holds:Chunk->zC
 | .pt b cs t=>λh=>∃f,S0 cs.length f/\h=aW.one b (.cells cs.toArray t f)
 | .mp b es c=>λh=>h=aW.one b (.map es.toArray c)
 | .mem H=>λh=>h=H
 | .ob A=>A
def star:List Chunk->zC
 | [],h=>h=aW.emp
 | c::l,h=>∃h1 h2,Sep h h1 h2/\c.holds h1/\star l h2
structure SL(W:World)(l:List Chunk)(w:World):Prop where
 os:w.os=W.os
 tape:w.tape=W.tape
 output:w.output=W.output
 out:∃h:aW,star l h/\∀b o,h b=some o->w.heap[b]?=some o
theorem a73{A B:Chunk}{l:List Chunk}{h:aW}(s:star (A::B::l) h):star (B::A::l) h:=by
 obtain⟨h1,h2,s1,a,h3,h4,s2,b,r⟩:=s
 obtain⟨k,x,y⟩:=s1.swap s2
 exact⟨h3,k,x,b,h1,h4,y,a,r⟩
theorem a72{l l':List Chunk}(p:l.Perm l'):∀{h:aW},star l h->star l' h:=by
 induction p with
 | nil=>exact λs=>s
 | cons x _ ih=>rintro h ⟨h1,h2,s,a,r⟩;exact⟨h1,h2,s,a,ih r⟩
 | swap x y l=>exact λs=>a73 s
 | trans _ _ i j=>exact λs=>j (i s)
theorem SL.perm{W:World}{l l':List Chunk}{w:World}(h:SL W l w)(p:l.Perm l'):SL W l' w:=
 ⟨h.os,h.tape,h.output,let ⟨k,s,m⟩:=h.out;⟨k,a72 p s,m⟩⟩
theorem SB{l l':List Chunk}:∀{h:aW},star (l++l') h↔∃h1 h2,Sep h h1 h2/\star l h1/\star l' h2:=by
 induction l with
 | nil=>
  intro h
  constructor
  ·intro s;exact⟨aW.emp,h,Sep.emp h,rfl,s⟩
  ·rintro ⟨h1,h2,s,rfl,t⟩;rw[s.aw3];exact t
 | cons c l ih=>
  intro h
  constructor
  ·rintro ⟨h1,h2,s,a,r⟩
   obtain⟨h3,h4,t,b,d⟩:=ih.1 r
   obtain⟨k,x,y⟩:=s.join t
   exact⟨k,h4,x,⟨h1,h3,y,a,b⟩,d⟩
  ·rintro ⟨h1,h2,s,⟨h3,h4,t,a,b⟩,d⟩
   obtain⟨k,x,y⟩:=s.assoc t
   exact⟨h3,k,x,a,ih.2 ⟨h4,h2,y,b,d⟩⟩
section
variable {W w:World} {l:List Chunk}
theorem SL.drop{c:Chunk}(h:SL W (c::l) w):SL W l w:=
 ⟨h.os,h.tape,h.output,let ⟨k,⟨h1,h2,s,a,r⟩,m⟩:=h.out;⟨h2,r,λb o e=>m b o (s.right b o e)⟩⟩
theorem SL.conv{c:Chunk}{l1:List Chunk}(h:SL W (c::l) w)(f:∀k,c.holds k->star l1 k):SL W (l1++l) w:=
 ⟨h.os,h.tape,h.output,let ⟨k,⟨h1,h2,s,a,r⟩,m⟩:=h.out;⟨k,SB.2 ⟨h1,h2,s,f _ a,r⟩,m⟩⟩
theorem SL.fold{c:Chunk}{l1:List Chunk}(h:SL W (l1++l) w)(f:∀k,star l1 k->c.holds k):SL W (c::l) w:=
 ⟨h.os,h.tape,h.output,let ⟨k,s,m⟩:=h.out;let ⟨h1,h2,s,a,r⟩:=SB.1 s;⟨k,⟨h1,h2,s,f _ a,r⟩,m⟩⟩
def jQ{α:Type}(A:α->zC):zC:=λh=>∃x,A x h
def zP(p:Prop)(l:List Chunk):zC:=λh=>p/\star l h
theorem SL.ex{α:Type}{A:α->zC}:SL W (.ob (jQ A)::l) w↔∃x,SL W (.ob (A x)::l) w:=by
 constructor
 ·rintro ⟨a,b,c,k,⟨h1,h2,s,⟨x,hx⟩,r⟩,m⟩
  exact⟨x,a,b,c,k,⟨h1,h2,s,hx,r⟩,m⟩
 ·rintro ⟨x,a,b,c,k,⟨h1,h2,s,hx,r⟩,m⟩
  exact⟨a,b,c,k,⟨h1,h2,s,⟨x,hx⟩,r⟩,m⟩
theorem SL.fact{p:Prop}{l1:List Chunk}:SL W (.ob (zP p l1)::l) w↔p/\SL W (l1++l) w:=by
 constructor
 ·intro h
  obtain⟨k,⟨h1,h2,s,⟨hp,hx⟩,r⟩,m⟩:=h.out
  exact⟨hp,h.conv (λ_ s=>s.2)⟩
 ·rintro ⟨hp,h⟩
  exact h.fold (λ_ s=>⟨hp,s⟩)
inductive Has (c:Chunk):List Chunk->Prop where
 | hd {l:List Chunk}:Has c (c::l)
 | tl {d:Chunk} {l:List Chunk} (h:Has c l):Has c (d::l)
theorem Has.heap{c:Chunk}{l:List Chunk}(h:Has c l):∀{k:aW},star l k->∃h1,c.holds h1/\h1.le k:=by
 induction h with
 | hd=>rintro k ⟨h1,h2,s,a,r⟩;exact⟨h1,a,s.left⟩
 | tl _ ih=>
  rintro k ⟨h1,h2,s,a,r⟩
  obtain⟨h3,b,e⟩:=ih r
  exact⟨h3,b,λx o y=>s.right x o (e x o y)⟩
inductive gh (c d:Chunk):List Chunk->List Chunk->Prop where
 | hd {l:List Chunk}:gh c d (c::l) (d::l)
 | tl {e:Chunk} {l l':List Chunk} (h:gh c d l l'):gh c d (e::l) (e::l')
inductive gB (c:Chunk):List Chunk->List Chunk->Prop where
 | hd {l:List Chunk}:gB c (c::l) l
 | tl {d:Chunk} {l l':List Chunk} (h:gB c l l'):gB c (d::l) (d::l')
inductive gq:List Chunk->List Chunk->List Chunk->Prop where
 | nil {l:List Chunk}:gq [] l l
 | cons {c:Chunk} {p l l' F:List Chunk} (h:gB c l l') (k:gq p l' F):gq (c::p) l F
theorem gB.perm{c:Chunk}{l l':List Chunk}(h:gB c l l'):l.Perm (c::l'):=by
 induction h with
 | hd=>exact .refl _
 | tl _ ih=>exact (ih.cons _).trans (.swap _ _ _)
theorem gq.perm{p l F:List Chunk}(h:gq p l F):l.Perm (p++F):=by
 induction h with
 | nil=>exact .refl _
 | cons r _ ih=>exact r.perm.trans (ih.cons _)
theorem SL.pick{p F:List Chunk}(h:SL W l w)(k:gq p l F):SL W (p++F) w:=h.perm k.perm
theorem SL.rF{b:Nat}{cs:List Value}{t:TypeId}(h:SL W l w)(m:Has (.pt b cs t) l):∃f,S0 cs.length f/\w.heap[b]?=some (.cells cs.toArray t f):=by
 obtain⟨k,s,x⟩:=h.out
 obtain⟨h1,⟨f,hf,rfl⟩,le⟩:=m.heap s
 exact⟨f,hf,x b _ (le b _ (by simp[aW.one]))⟩
theorem SL.cell{b o:Nat}{cs:List Value}{t:TypeId}{v:Value}(h:SL W l w)(m:Has (.pt b cs t) l)(hv:cs[o]?=some v):w.cell? ⟨b,o,none⟩=some v:=by
 obtain⟨f,_,e⟩:=h.rF m
 simp[World.cell?,e,hv]
theorem SL.frozen{b o:Nat}{cs:List Value}{t:TypeId}{v:Value}(h:SL W l w)(m:Has (.pt b cs t) l)(hv:cs[o]?=some v):w.frozen? ⟨b,o,none⟩=false:=by
 obtain⟨f,hf,e⟩:=h.rF m
 have dZ:=(List.getElem?_eq_some_iff.1 hv).1
 obtain⟨x,y⟩:=f
 simp only[World.frozen?,e]
 rcases hf with hf|hf
 ·simp only[Bool.and_eq_false_iff,decide_eq_false_iff_not];simp only at hf;omega
 ·simp only[Bool.and_eq_false_iff,decide_eq_false_iff_not];simp only at hf;omega
def aW.cell(H:aW)(b o:Nat):Option Value:=match H b with
 | some (.cells c _ _)=>c[o]?
 | _=>none
theorem SL.F6{H:aW}{b o:Nat}{v:Value}(h:SL W l w)(m:Has (.mem H) l)(hv:H.cell b o=some v):w.cell? ⟨b,o,none⟩=some v:=by
 obtain⟨k,s,x⟩:=h.out
 obtain⟨h1,rfl,le⟩:=m.heap s
 unfold aW.cell at hv
 split at hv
 ·rename_i c t f e
  have:=x b _ (le b _ e)
  simp[World.cell?,this,hv]
 ·cases hv
theorem gh.perm{c d:Chunk}{l l':List Chunk}(u:gh c d l l'):∃r,l.Perm (c::r)/\l'.Perm (d::r):=by
 induction u with
 | hd=>exact⟨_,.refl _,.refl _⟩
 | tl _ ih=>
  obtain⟨r,p,q⟩:=ih
  exact⟨_::r,(p.cons _).trans (.swap _ _ _),(q.cons _).trans (.swap _ _ _)⟩
theorem SL.rr{l':List Chunk}{c d:Chunk}{w':World}{b:Nat}{o':Obj}(h:SL W l w)(u:gh c d l l')(hc:∀k,c.holds k->∃o,k=aW.one b o)(hd:d.holds (aW.one b o'))
  (hw:w'.heap[b]?=some o') (hk:∀x,x≠b->w'.heap[x]?=w.heap[x]?) (e1:w'.os=w.os) (e2:w'.tape=w.tape) (e3:w'.output=w.output):SL W l' w':=by
 obtain⟨r,p,q⟩:=u.perm
 obtain⟨a1,a2,a3,k,⟨h1,h2,s,a,t⟩,m⟩:=h.perm p
 obtain⟨o,rfl⟩:=hc _ a
 have hb:h2 b=none:=by
  rcases s b with ⟨x,_⟩|⟨x,_⟩
  ·simp[aW.one]at x
  ·exact x
 suffices hs:SL W (d::r) w' from hs.perm q.symm
 refine⟨e1.trans a1,e2.trans a2,e3.trans a3,λx=>if x=b then some o' else h2 x,⟨aW.one b o',h2,λx=>?_,hd,t⟩,λx y e=>?_⟩
 ·by_cases hx:x=b
  ·subst hx;exact .inr ⟨hb,by simp[aW.one]⟩
  ·exact .inl ⟨by simp[aW.one,hx],by simp[hx]⟩
 ·by_cases hx:x=b
  ·subst hx;simp at e;rw[hw,e]
  ·simp[hx]at e
   rw[hk x hx]
   exact m x y (s.right x y e)
theorem SL.store{l':List Chunk}{b o:Nat}{cs:List Value}{t:TypeId}{v u:Value}(h:SL W l w)(m:gh (.pt b cs t) (.pt b (cs.set o v) t) l l')(hu:cs[o]?=some u):SL W l' (w.setCell ⟨b,o,none⟩ v):=by
 have hm:Has (.pt b cs t) l:=by
  clear h
  generalize hd:Chunk.pt b (cs.set o v) t=d at m
  induction m with
  | hd=>exact .hd
  | tl _ ih=>exact .tl ih
 obtain⟨f,hf,e⟩:=h.rF hm
 refine h.rr (b:=b) (o':=.cells (cs.set o v).toArray t f) m ?_ ⟨f,by simpa using hf,rfl⟩ ?_ ?_ rfl rfl rfl
 ·rintro k ⟨f,_,rfl⟩;exact⟨_,rfl⟩
 ·show (w.heap.modify b _)[b]?=_
  rw[Array.getElem?_modify]
  simp[e]
 ·intro x hx
  exact Below.heap_setCell w ⟨b,o,none⟩ v x hx
theorem SL.alloc{o:Obj}{c:Chunk}(h:SL W l w)(hc:c.holds (aW.one w.heap.size o)):SL W (c::l) (w.alloc o):=by
 obtain⟨a1,a2,a3,k,s,m⟩:=h
 have hb:k w.heap.size=none:=by
  cases hx:k w.heap.size with
  | none=>rfl
  | some y=>have:=m _ _ hx;simp at this
 refine⟨a1,a2,a3,λx=>if x=w.heap.size then some o else k x,⟨aW.one w.heap.size o,k,λx=>?_,hc,s⟩,λx y e=>?_⟩
 ·by_cases hx:x=w.heap.size
  ·subst hx;exact .inr ⟨hb,by simp[aW.one]⟩
  ·exact .inl ⟨by simp[aW.one,hx],by simp[hx]⟩
 ·by_cases hx:x=w.heap.size
  ·subst hx;simp at e;subst e;exact heap_alloc_new w o
  ·simp[hx]at e
   have:=m x y e
   have dZ:x<w.heap.size:=(Array.getElem?_eq_some_iff.1 this).1
   rw[Below.heap_alloc w o x dZ];exact this
theorem SL.new{cs:List Value}{t:TypeId}(h:SL W l w):SL W (.pt w.heap.size cs t::l) (w.alloc (.cells cs.toArray t)):=
 h.alloc ⟨(0,0),.inl rfl,rfl⟩
theorem SL.drew(h:SL W l w):SL W l w.drew:=⟨h.os,h.tape,h.output,h.out⟩
def aW.of(w:World):aW:=λb=>w.heap[b]?
theorem SL.init(w:World):SL w [.mem (aW.of w)] w:=by
 refine⟨rfl,rfl,rfl,aW.of w,⟨aW.of w,aW.emp,λb=>.inr ⟨rfl,rfl⟩,rfl,rfl⟩,λb o e=>e⟩
theorem aW.le_refl(H:aW):H.le H:=λ_ _ e=>e
theorem aW.le_trans{H K L:aW}(h:H.le K)(k:K.le L):H.le L:=λb o e=>k b o (h b o e)
theorem aW.Up{H K:aW}(h:H.le K){b o:Nat}{v:Value}(e:H.cell b o=some v):K.cell b o=some v:=by
 unfold aW.cell at *
 split at e
 ·rename_i c t f he;rw[h _ _ he];exact e
 ·cases e
theorem SL.freeze{H:aW}{b:Nat}{cs:List Value}{t:TypeId}(h:SL W (.mem H::.pt b cs t::l) w):∃H',H.le H'/\(∀o v,cs[o]?=some v->H'.cell b o=some v)/\SL W (.mem H'::l) w:=by
 obtain⟨a1,a2,a3,k,⟨h1,h2,s,rfl,h3,h4,s',⟨f,hf,rfl⟩,r⟩,m⟩:=h
 obtain⟨k',x,y⟩:=s.join s'
 refine⟨k',λb o e=>?_,λo v e=>?_,a1,a2,a3,k,⟨k',h4,x,rfl,r⟩,m⟩
 ·exact y.left b o e
 ·have:k' b=some (.cells cs.toArray t f):=y.right b _ (by simp[aW.one])
  simp[aW.cell,this,e]
theorem SL.below{H:aW}(h:SL W l w)(m:Has (.mem H) l)(hH:(aW.of W).le H):Below W.heap.size W w:=by
 obtain⟨k,s,x⟩:=h.out
 obtain⟨h1,rfl,le⟩:=m.heap s
 have hk:∀b,b<W.heap.size->w.heap[b]?=W.heap[b]?:=λb hb=>by
  have e:W.heap[b]?=some (W.heap[b]):=Array.getElem?_eq_getElem hb
  rw[e];exact x b _ (le b _ (hH b _ e))
 refine⟨h.os,h.tape,h.output,?_,hk⟩
 rcases Nat.eq_zero_or_pos W.heap.size with h0|h0
 ·omega
 ·have e:=hk (W.heap.size-1) (by omega)
  have e2:W.heap[W.heap.size-1]?=some (W.heap[W.heap.size-1]):=Array.getElem?_eq_getElem (by omega)
  rw[e2]at e
  have:=(Array.getElem?_eq_some_iff.1 e).1
  omega
end
section
variable {W w:World} {l l':List Chunk}
theorem aW8{a:Addr}{K:Value->Prop}(h:K (.pointer (some a))):YW (.pointer (some a)) K:=⟨a,rfl,h⟩
theorem zQ{b o off:Nat}{K:Value->Prop}(h:K (.pointer (some ⟨b,o+off,none⟩))):zu off (.pointer (some ⟨b,o,none⟩)) K:=by
 refine⟨_,rfl,?_⟩
 rw[Addr.add_lit];exact h
theorem zX{b o:Nat}{cs:List Value}{t:TypeId}{v:Value}{K:Value->Prop}(hS:SL W l w)(m:Has (.pt b cs t) l)(hv:cs[o]?=some v)(h:K v):cR (.pointer (some ⟨b,o,none⟩)) w K:=
 ⟨_,v,rfl,hS.cell m hv,h⟩
theorem ZJ{H:aW}{b o:Nat}{v:Value}{K:Value->Prop}(hS:SL W l w)(m:Has (.mem H) l)(hv:H.cell b o=some v)(h:K v):cR (.pointer (some ⟨b,o,none⟩)) w K:=
 ⟨_,v,rfl,hS.F6 m hv,h⟩
theorem Z8{b o n:Nat}{cs vs:List Value}{t:TypeId}{K:Value->Prop}(hS:SL W l w)(m:Has (.pt b cs t) l)(hn:vs.length=n)(hv:∀j v,vs[j]?=some v->cs[o+j]?=some v)(h:K (.agg vs.toArray)):zj n (.pointer (some ⟨b,o,none⟩)) w K:=
 ⟨_,vs,rfl,hn,λj v e=>by rw[Addr.add_lit];exact hS.cell m (hv j v e),h⟩
theorem yy{b n:Nat}{cs:List Value}{t:TypeId}{K:Value->Prop}(hS:SL W l w)(m:Has (.pt b cs t) l)(hn:cs.length=n)(h:K (.agg cs.toArray)):zj n (.pointer (some ⟨b,0,none⟩)) w K:=
 Z8 hS m hn (λj v e=>by rw[Nat.zero_add];exact e) h
theorem aWx{H:aW}{b o n:Nat}{vs:List Value}{K:Value->Prop}(hS:SL W l w)(m:Has (.mem H) l)(hn:vs.length=n)(hv:∀j v,vs[j]?=some v->H.cell b (o+j)=some v)(h:K (.agg vs.toArray)):zj n (.pointer (some ⟨b,o,none⟩)) w K:=
 ⟨_,vs,rfl,hn,λj v e=>by rw[Addr.add_lit];exact hS.F6 m (hv j v e),h⟩
theorem y2{b o:Nat}{cs:List Value}{t:TypeId}{v u:Value}{K:World->Prop}(hS:SL W l w)(m:gh (.pt b cs t) (.pt b (cs.set o v) t) l l')(hu:cs[o]?=some u)(h1:v.oneCell'=true)(h:∀w',SL W l' w'->K w'):
  fH (.pointer (some ⟨b,o,none⟩)) v w K:=by
 have hm:Has (.pt b cs t) l:=by
  clear hS h
  generalize hd:Chunk.pt b (cs.set o v) t=d at m
  induction m with
  | hd=>exact .hd
  | tl _ ih=>exact .tl ih
 exact⟨_,u,rfl,h1,hS.cell hm hu,hS.frozen hm hu,h _ (hS.store m hu)⟩
def nM(cs:List Value)(o:Nat):List Value->List Value
 | []=>cs
 | v::r=>nM (cs.set o v) (o+1) r
theorem gh.has{c d:Chunk}(u:gh c d l l'):Has c l:=by
 induction u with
 | hd=>exact .hd
 | tl _ ih=>exact .tl ih
theorem gh.other{c d:Chunk}(u:gh c d l l')(e:Chunk):∃l2,gh c e l l2/\gh e d l2 l':=by
 induction u with
 | hd=>exact⟨_,.hd,.hd⟩
 | tl _ ih=>obtain⟨l2,p,q⟩:=ih;exact⟨_,.tl p,.tl q⟩
theorem wF{b:Nat}{t:TypeId}{K:World->Prop}:∀(vs:List Value) (o i:Nat) (cs:List Value) (w:World) (l l':List Chunk),SL W l w->gh (.pt b cs t) (.pt b (nM cs (o+i) vs) t) l l'->o+i+vs.length<=cs.length->(∀v∈vs,v.oneCell'=true) ->
  (∀w',SL W l' w'->K w')->rm ⟨b,o,none⟩ i vs w K
 | [],o,i,cs,w,l,l',hS,u,hl,h1,h=>by
  refine h w ?_
  simp only[nM]at u
  have:l=l':=by
   clear hS h
   generalize hc:Chunk.pt b cs t=c at u
   revert hc
   induction u with
   | hd=>intro;rfl
   | tl _ ih=>intro hc;rw[ih hc]
  rw[<- this];exact hS
 | v::r,o,i,cs,w,l,l',hS,u,hl,h1,h=>by
  simp only[List.length_cons]at hl
  have hc:cs[o+i]?=some (cs[o+i]'(by omega)):=List.getElem?_eq_getElem (by omega)
  obtain⟨l2,p,q⟩:=u.other (.pt b (cs.set (o+i) v) t)
  refine⟨h1 v (by simp),⟨_,by rw[Addr.add_lit];exact hS.cell u.has hc⟩,by rw[Addr.add_lit];exact hS.frozen u.has hc,?_⟩
  rw[Addr.add_lit]
  exact wF r o (i+1) _ _ l2 l' (hS.store p hc) (by simpa [nM,Nat.add_assoc] using q) (by simp;omega) (λv hv=>h1 v (by simp[hv])) h
theorem wu:∀(vs cs:List Value) (o:Nat),o+vs.length<=cs.length->nM cs o vs=cs.take o++vs++cs.drop (o+vs.length)
 | [],cs,o,_=>by simp[nM]
 | v::r,cs,o,h=>by
  simp only[List.length_cons]at h
  obtain⟨A,x,B,rfl,hA⟩:∃A x B,cs=A++x::B/\A.length=o:=by
   refine⟨cs.take o,cs[o]'(by omega),cs.drop (o+1),?_,by simp;omega⟩
   rw[<- List.drop_eq_getElem_cons,List.take_append_drop]
  subst hA
  rw[nM,wu r _ _ (by simp at h ⊢;omega)]
  have e1:(A++x::B).set A.length v=A++v::B:=by simp
  have e2:(A++v::B).take (A.length+1)=A++[v]:=by rw[List.take_length_add_append];simp
  have e3:(A++v::B).drop (A.length+1+r.length)=B.drop r.length:=by rw[show A.length+1+r.length=A.length+(r.length+1) by omega,List.drop_length_add_append];simp
  have e5:(A++x::B).drop (A.length+(r.length+1))=B.drop r.length:=by rw[List.drop_length_add_append];simp
  simp only[List.length_cons]at *
  rw[e1,e2,e3,e5]
  simp
theorem zz{b n:Nat}{cs vs:List Value}{t:TypeId}{K:World->Prop}(hS:SL W l w)(m:gh (.pt b cs t) (.pt b vs t) l l')(hn:vs.length=n)(hc:cs.length=n)(h1:∀v∈vs,v.oneCell'=true)(h:∀w',SL W l' w'->K w'):
  zl n (.pointer (some ⟨b,0,none⟩)) (.agg vs.toArray) w K:=by
 refine⟨_,vs,rfl,rfl,hn,wF (t:=t) vs 0 0 cs w l l' hS ?_ (by omega) h1 h⟩
 rw[wu _ _ _ (by omega)]
 have:cs.drop (0+0+vs.length)=[]:=List.drop_eq_nil_of_le (by omega)
 rw[this];simpa using m
theorem QB{b o n:Nat}{cs vs:List Value}{t:TypeId}{K:World->Prop}(hS:SL W l w)(m:gh (.pt b cs t) (.pt b (cs.take o++vs++cs.drop (o+n)) t) l l')(hn:vs.length=n)(hc:o+n<=cs.length)(h1:∀v∈vs,v.oneCell'=true)(h:∀w',SL W l' w'->K w'):
  zl n (.pointer (some ⟨b,o,none⟩)) (.agg vs.toArray) w K:=by
 refine⟨_,vs,rfl,rfl,hn,wF (t:=t) vs o 0 cs w l l' hS ?_ (by omega) h1 h⟩
 rw[Nat.add_zero,wu _ _ _ (by omega),hn]
 exact m
theorem zI{cs:List Value}{t:TypeId}{K:Value->World->Prop}(hS:SL W l w)(h:∀b w',SL W (.pt b cs t::l) w'->K (.pointer (some ⟨b,0,none⟩)) w'):zk cs t w K:=h _ _ hS.new
theorem aWj{a b:Value}{K:Value->Prop}(h:K a):ze 0 (.tuple #[a,b]) K:=⟨_,a,rfl,rfl,h⟩
theorem aWk{a b:Value}{K:Value->Prop}(h:K b):ze 1 (.tuple #[a,b]) K:=⟨_,b,rfl,rfl,h⟩
theorem aWl{a b c:Value}{K:Value->Prop}(h:K a):ze 0 (.tuple #[a,b,c]) K:=⟨_,a,rfl,rfl,h⟩
theorem aWm{a b c:Value}{K:Value->Prop}(h:K b):ze 1 (.tuple #[a,b,c]) K:=⟨_,b,rfl,rfl,h⟩
theorem aWn{a b c:Value}{K:Value->Prop}(h:K c):ze 2 (.tuple #[a,b,c]) K:=⟨_,c,rfl,rfl,h⟩
theorem aWo{a b c d:Value}{K:Value->Prop}(h:K a):ze 0 (.tuple #[a,b,c,d]) K:=⟨_,a,rfl,rfl,h⟩
theorem aWp{a b c d:Value}{K:Value->Prop}(h:K b):ze 1 (.tuple #[a,b,c,d]) K:=⟨_,b,rfl,rfl,h⟩
theorem aWq{a b c d:Value}{K:Value->Prop}(h:K c):ze 2 (.tuple #[a,b,c,d]) K:=⟨_,c,rfl,rfl,h⟩
theorem aWr{a b c d:Value}{K:Value->Prop}(h:K d):ze 3 (.tuple #[a,b,c,d]) K:=⟨_,d,rfl,rfl,h⟩
theorem yk{a:Option Addr}{n c:Nat}{K:Value->Prop}(h:K (.int .i64 n)):zd (.slice a n c) K:=⟨a,n,c,rfl,h⟩
theorem aWz{s:ByteArray}{K:Value->Prop}(h:K (.int .i64 s.size)):zR (.string s) K:=⟨s,rfl,h⟩
theorem zB{b o len cap sz j:Nat}{k:IntKind}{K:Value->Prop}(hj:j<len)(h:K (.pointer (some ⟨b,o+j*sz,none⟩))):zh sz (.slice (some ⟨b,o,none⟩) len cap) (.int k (j:Int)) K:=
 ⟨_,len,cap,k,j,rfl,rfl,hj,by rw[Addr.add_lit];exact h⟩
theorem y0{b:Bool}{A B:Prop}(h1:b=true->A)(h2:b=false->B):dO (.bool b) A B:=⟨b,rfl,h1,h2⟩
theorem za{p:Prop}[Decidable p]{A B:Prop}(h1:p->A)(h2:¬p->B):dO (.bool (decide p)) A B:=⟨_,rfl,λe=>h1 (of_decide_eq_true e),λe=>h2 (of_decide_eq_false e)⟩
theorem zw{A B:Prop}(h:A):dO (.bool true) A B:=⟨_,rfl,λ_=>h,λe=>by cases e⟩
theorem zq{A B:Prop}(h:B):dO (.bool false) A B:=⟨_,rfl,(λe=>(by cases e)),λ_=>h⟩
theorem zA{A B:Prop}{b:Bool}(h1:b=false->A)(h2:b=true->B):dO (.bool !b) A B:=⟨_,rfl,(λe=>h1 (by simpa using e)),(λe=>h2 (by simpa using e))⟩
theorem GS{a b:Int}{K:Value->Prop}(hr : -9223372036854775808<=a+b/\a+b<=9223372036854775807)(h:K (.int .i64 (a+b))):zc .add (.int .i64 a) (.int .i64 b) K:=
 ⟨_,rfl,by rw[IntWalk.i64_in _ hr];exact h⟩
theorem a7i{a b:Int}{K:Value->Prop}(hr : -9223372036854775808<=a-b/\a-b<=9223372036854775807)(h:K (.int .i64 (a-b))):zc .sub (.int .i64 a) (.int .i64 b) K:=
 ⟨_,rfl,by rw[IntWalk.i64_in _ hr];exact h⟩
theorem GV{a b:Int}{K:Value->Prop}(hr : -9223372036854775808<=a*b/\a*b<=9223372036854775807)(h:K (.int .i64 (a*b))):zc .mul (.int .i64 a) (.int .i64 b) K:=
 ⟨_,rfl,by rw[IntWalk.i64_in _ hr];exact h⟩
theorem yd{a b:Nat}{K:Value->Prop}(hr:a+b<=9223372036854775807)(h:K (.int .i64 ((a+b:Nat):Int))):zc .add (.int .i64 (a:Int)) (.int .i64 (b:Int)) K:=
 GS (by omega) (by rw[show (a:Int)+(b:Int)=((a+b:Nat):Int) by omega];exact h)
theorem aWb{a:Nat}{K:Value->Prop}(hr:a+1<=9223372036854775807)(h:K (.int .i64 ((a+1:Nat):Int))):zc .add (.int .i64 (a:Int)) (.int .i64 1) K:=
 GS (by omega) (by rw[show (a:Int)+1=((a+1:Nat):Int) by omega];exact h)
theorem Se{k:IntKind}{a b:Int}{K:Value->Prop}(hb:b≠0)(h:K (.int k (a.tmod b))):zc .rem (.int k a) (.int k b) K:=
 ⟨.int k (a.tmod b),by simp[jk,hb],h⟩
theorem a7a{k:IntKind}{a b:Nat}{K:Value->Prop}(hb:0<b)(h:K (.int k ((a % b:Nat):Int))):zc .rem (.int k (a:Int)) (.int k (b:Int)) K:=
 Se (by omega) (by rw[Int.tmod_eq_emod_of_nonneg (by omega)];exact h)
theorem GU{k:IntKind}{a b:Int}{K:Value->Prop}(h:K (.bool (decide (a=b)))):zc .eql (.int k a) (.int k b) K:=⟨.bool (decide (a=b)),by simp[jk];rfl,h⟩
theorem Sd{k:IntKind}{a b:Int}{K:Value->Prop}(h:K (.bool (decide (a≠b)))):zc .neq (.int k a) (.int k b) K:=⟨.bool (decide (a≠b)),by simp[jk,bne];rfl,h⟩
theorem Sc{k:IntKind}{a b:Int}{K:Value->Prop}(h:K (.bool (decide (a<b)))):zc .lss (.int k a) (.int k b) K:=⟨_,by simp[jk],h⟩
theorem aWy{k:IntKind}{a b:Int}{K:Value->Prop}(h:K (.bool (decide (a<=b)))):zc .leq (.int k a) (.int k b) K:=⟨_,by simp[jk],h⟩
theorem aWu{k:IntKind}{a b:Int}{K:Value->Prop}(h:K (.bool (decide (b<a)))):zc .gtr (.int k a) (.int k b) K:=⟨_,by simp[jk],h⟩
theorem aWs{k:IntKind}{a b:Int}{K:Value->Prop}(h:K (.bool (decide (b<=a)))):zc .geq (.int k a) (.int k b) K:=⟨_,by simp[jk],h⟩
theorem str_inj{s t:ByteArray}(h:s.toList=t.toList):s=t:=by
 rw[ByteArray.toList_eq,ByteArray.toList_eq]at h
 cases s;cases t;congr 1;exact Array.toList_inj.1 h
theorem aWi{a b:ByteArray}{K:Value->Prop}(h:K (.bool (decide (a=b)))):zc .eql (.string a) (.string b) K:=by
 refine⟨.bool (decide (a=b)),?_,h⟩
 by_cases e:a=b
 ·subst e;simp[jk]
 ·have:¬a.toList=b.toList:=λx=>e (str_inj x)
  simp[jk,e,this]
theorem aW7{a b:ByteArray}{K:Value->Prop}(h:K (.bool (decide (a≠b)))):zc .neq (.string a) (.string b) K:=by
 refine⟨.bool (decide (a≠b)),?_,h⟩
 by_cases e:a=b
 ·subst e;simp[jk]
 ·have:¬a.toList=b.toList:=λx=>e (str_inj x)
  simp[jk,e,this]
theorem aWh{a b:Bool}{K:Value->Prop}(h:K (.bool (decide (a=b)))):HEq .bool false (.bool a) (.bool b) K:=⟨a == b,rfl,by cases a<;>cases b<;>simpa using h⟩
theorem aW6{a b:Bool}{K:Value->Prop}(h:K (.bool (decide (a≠b)))):HEq .bool true (.bool a) (.bool b) K:=⟨a == b,rfl,by cases a<;>cases b<;>simpa using h⟩
theorem Z7{t:TypeId}{a:Option Addr}{K:Value->Prop}(h:K (.bool a.isNone)):HEq (.pointer t) false (.pointer a) (.pointer none) K:=⟨a.isNone,by cases a<;>rfl,h⟩
theorem GW{t:TypeId}{a:Option Addr}{K:Value->Prop}(h:K (.bool a.isSome)):HEq (.pointer t) true (.pointer a) (.pointer none) K:=⟨a.isNone,by cases a<;>rfl,by cases a<;>exact h⟩
theorem zO{b:Bool}{K:Value->Prop}(h:K (.bool !b)):Zi (.bool b) K:=⟨b,rfl,h⟩
theorem zM{j:IntKind}{n:Int}{k:IntKind}{K:Value->Prop}(h:K (.int k (k.wrap n))):zG k (.int j n) K:=⟨j,n,rfl,h⟩
theorem yx{j:IntKind}{n:Int}{K:Value->Prop}(hr : -9223372036854775808<=n/\n<=9223372036854775807)(h:K (.int .i64 n)):zG .i64 (.int j n) K:=⟨j,n,rfl,by rw[IntWalk.i64_in _ hr];exact h⟩
theorem aW5{k:IntKind}{a b:Int}{K:Value->Prop}(h:K (.int k (min a b))):YV (.int k a) (.int k b) K:=
 ⟨k,a,b,rfl,rfl,by rw[show (if b<a then b else a)=min a b by split<;>omega];exact h⟩
theorem aW4{k:IntKind}{a b:Int}{K:Value->Prop}(h:K (.int k (max a b))):QC (.int k a) (.int k b) K:=
 ⟨k,a,b,rfl,rfl,by rw[show (if b>a then b else a)=max a b by split<;>omega];exact h⟩
theorem yr{z cells:List Value}{ps:List (Nat × Nat × Value)}{K:Value->Prop}(hc:iw z ps=some cells)(h:K (.agg cells.toArray)):zo z ps K:=⟨cells,hc,h⟩
theorem zy{z cells:List Value}{ps:List (Nat × Nat × Value)}{e:TypeId}{n:Nat}{K:Value->World->Prop}(hS:SL W l w)(hc:iw z ps=some cells)
  (h:∀b w',SL W (.pt b cells e::l) w'->K (.slice (some ⟨b,0,none⟩) n n) w'):zn z ps e n w K:=⟨cells,hc,h _ _ hS.new⟩
theorem AM{z:List Value}{iC n c:Nat}{e:TypeId}{kl kc:IntKind}{K:Value->World->Prop}(hS:SL W l w)(h1:n<=c)(h2:iC*c<=281474976710656)(h3:c<9223372036854775808)
  (h:∀b w',SL W (.pt b (db z c) e::l) w'->K (.slice (some ⟨b,0,none⟩) n c) w'):sA z iC e (.int kl (n:Int)) (.int kc (c:Int)) w K:=⟨n,c,kl,kc,rfl,rfl,h1,h2,h3,h _ _ hS.new⟩
theorem yZ{K:World->Prop}(hS:SL W l w)(h:∀w',SL W l w'->K w'):zi w K:=h _ hS.drew
def app:List Chunk->List Chunk->List Chunk
 | [],F=>F
 | c::r,F=>c::app r F
theorem w7:∀(p F:List Chunk),app p F=p++F
 | [],_=>rfl
 | c::r,F=>by rw[app,w7 r F];rfl
theorem SL.take{p F:List Chunk}(h:SL W l w)(k:gq p l F):SL W (app p F) w:=by rw[w7];exact h.pick k
def Spec(P:Program)(f:FuncId)(args:List Value)(pre:List Chunk)(Q:Value->List Chunk->Prop):Prop:=
 ∀W F w,SL W (app pre F) w->zU P f args w λv w'=>∃post,Q v post/\SL W (app post F) w'
theorem yP{P:Program}{f:FuncId}{args:List Value}{pre F:List Chunk}{Q:Value->List Chunk->Prop}{K:Value->World->Prop}(c:Spec P f args pre Q)(hS:SL W l w)(p:gq pre l F)
  (h:∀v post,Q v post->∀w',SL W (app post F) w'->K v w'):zU P f args w K:=
 (c W F w (hS.take p)).mono λv w' ⟨post,hq,hs⟩=>h v post hq w' hs
theorem Qx{P:Program}{T:List Bool}{f:FuncId}{first captured:Array Value}{args args':List Value}{pre F:List Chunk}{Q:Value->List Chunk->Prop}{K:Value->World->Prop}(hT:T.getD f false=true)(c:Spec P f args' pre Q)
  (ha:first.toList++args++captured.toList=args') (hS:SL W l w) (p:gq pre l F)
  (h:∀v post,Q v post->∀w',SL W (app post F) w'->K v w'):yK P T (.func (.func f) first captured) args w K:=
 ⟨f,first,captured,rfl,hT,by rw[ha];exact yP c hS p h⟩
theorem Spec.mono{P:Program}{f:FuncId}{args:List Value}{pre:List Chunk}{Q Q':Value->List Chunk->Prop}(h:Spec P f args pre Q)(hq:∀v post,Q v post->Q' v post):Spec P f args pre Q':=
 λW F w hS=>(h W F w hS).mono λv w' ⟨post,hp,hs⟩=>⟨post,hq v post hp,hs⟩
def dj(u:Value)(q:List Chunk):Value->List Chunk->Prop:=λv post=>v=u/\post=q
inductive Drop (F:List Chunk):List Chunk->Prop where
 | nil:Drop F F
 | tl {d:Chunk} {l:List Chunk} (h:Drop F l):Drop F (d::l)
theorem Drop.mono{post F l:List Chunk}(d:Drop F l):∀{w:World},SL W (post++l) w->SL W (post++F) w:=by
 induction d with
 | nil=>exact λh=>h
 | @tl d l' _ ih=>
  intro w h
  exact ih (SL.drop (c:=d) (h.perm List.perm_middle))
inductive je:List Chunk->List Chunk->Prop where
 | refl {l:List Chunk}:je l l
 | cons {c:Chunk} {t l l':List Chunk} (h:gB c l l') (k:je t l'):je (c::t) l
 | drop {d:Chunk} {t l:List Chunk} (k:je t l):je t (d::l)
theorem je.spec{t l:List Chunk}(k:je t l):∃r,l.Perm (t++r):=by
 induction k with
 | refl=>exact⟨[],by simp⟩
 | cons h _ ih=>obtain⟨r,p⟩:=ih;exact⟨r,h.perm.trans (p.cons _)⟩
 | @drop d t l _ ih=>obtain⟨r,p⟩:=ih;exact⟨d::r,(p.cons d).trans List.perm_middle.symm⟩
theorem SL.MU:∀{r t:List Chunk} {w:World},SL W (t++r) w->SL W t w
 | [],t,w,h=>by simpa using h
 | c::r,t,w,h=>SL.MU (r:=r) (SL.drop (c:=c) (h.perm List.perm_middle))
theorem SL.b6{t:List Chunk}(h:SL W l w)(k:je t l):SL W t w:=by
 obtain⟨r,p⟩:=k.spec
 exact (h.perm p).MU
theorem YO{α:Type}{a:α}{p:Prop}(h:p):a=a/\p:=⟨rfl,h⟩
end
class hU (P:Prop) (Q:outParam Prop):Prop where
 h:Q->P
theorem Q0{P Q:Prop}[i:hU P Q](h:Q):P:=i.h h
section
variable {K:Value->Prop}
instance {a:Addr}:hU (YW (.pointer (some a)) K) (K (.pointer (some a))):=⟨aW8⟩
instance {a b:Value}:hU (ze 0 (.tuple #[a,b]) K) (K a):=⟨aWj⟩
instance {a b:Value}:hU (ze 1 (.tuple #[a,b]) K) (K b):=⟨aWk⟩
instance {a b c:Value}:hU (ze 0 (.tuple #[a,b,c]) K) (K a):=⟨aWl⟩
instance {a b c:Value}:hU (ze 1 (.tuple #[a,b,c]) K) (K b):=⟨aWm⟩
instance {a b c:Value}:hU (ze 2 (.tuple #[a,b,c]) K) (K c):=⟨aWn⟩
instance {a b c d:Value}:hU (ze 0 (.tuple #[a,b,c,d]) K) (K a):=⟨aWo⟩
instance {a b c d:Value}:hU (ze 1 (.tuple #[a,b,c,d]) K) (K b):=⟨aWp⟩
instance {a b c d:Value}:hU (ze 2 (.tuple #[a,b,c,d]) K) (K c):=⟨aWq⟩
instance {a b c d:Value}:hU (ze 3 (.tuple #[a,b,c,d]) K) (K d):=⟨aWr⟩
instance {b o off:Nat}:hU (zu off (.pointer (some ⟨b,o,none⟩)) K) (K (.pointer (some ⟨b,o+off,none⟩))):=⟨zQ⟩
instance {a:Option Addr} {n c:Nat}:hU (zd (.slice a n c) K) (K (.int .i64 n)):=⟨yk⟩
instance {s:ByteArray}:hU (zR (.string s) K) (K (.int .i64 s.size)):=⟨aWz⟩
instance {k:IntKind} {a b:Int}:hU (zc .eql (.int k a) (.int k b) K) (K (.bool (decide (a=b)))):=⟨GU⟩
instance {k:IntKind} {a b:Int}:hU (zc .neq (.int k a) (.int k b) K) (K (.bool (decide (a≠b)))):=⟨Sd⟩
instance {k:IntKind} {a b:Int}:hU (zc .lss (.int k a) (.int k b) K) (K (.bool (decide (a<b)))):=⟨Sc⟩
instance {k:IntKind} {a b:Int}:hU (zc .leq (.int k a) (.int k b) K) (K (.bool (decide (a<=b)))):=⟨aWy⟩
instance {k:IntKind} {a b:Int}:hU (zc .gtr (.int k a) (.int k b) K) (K (.bool (decide (b<a)))):=⟨aWu⟩
instance {k:IntKind} {a b:Int}:hU (zc .geq (.int k a) (.int k b) K) (K (.bool (decide (b<=a)))):=⟨aWs⟩
instance {a b:ByteArray}:hU (zc .eql (.string a) (.string b) K) (K (.bool (decide (a=b)))):=⟨aWi⟩
instance {a b:ByteArray}:hU (zc .neq (.string a) (.string b) K) (K (.bool (decide (a≠b)))):=⟨aW7⟩
instance {a b:Bool}:hU (HEq .bool false (.bool a) (.bool b) K) (K (.bool (decide (a=b)))):=⟨aWh⟩
instance {a b:Bool}:hU (HEq .bool true (.bool a) (.bool b) K) (K (.bool (decide (a≠b)))):=⟨aW6⟩
instance {t:TypeId} {a:Option Addr}:hU (HEq (.pointer t) false (.pointer a) (.pointer none) K) (K (.bool a.isNone)):=⟨Z7⟩
instance {t:TypeId} {a:Option Addr}:hU (HEq (.pointer t) true (.pointer a) (.pointer none) K) (K (.bool a.isSome)):=⟨GW⟩
instance {b:Bool}:hU (Zi (.bool b) K) (K (.bool !b)):=⟨zO⟩
instance {k:IntKind} {a b:Int}:hU (YV (.int k a) (.int k b) K) (K (.int k (min a b))):=⟨aW5⟩
instance {k:IntKind} {a b:Int}:hU (QC (.int k a) (.int k b) K) (K (.int k (max a b))):=⟨aW4⟩
instance {A B:Prop}:hU (dO (.bool true) A B) A:=⟨zw⟩
instance {A B:Prop}:hU (dO (.bool false) A B) B:=⟨zq⟩
instance {α:Type} {a:α} {p:Prop}:hU (a=a/\p) p:=⟨YO⟩
end
class ve (op:BinOp) (x y:Value) (z:outParam Value) (c:outParam Prop):Prop where
 h:∀{K:Value->Prop},c->K z->zc op x y K
instance (priority:=high) {a:Nat}:ve .add (.int .i64 (a:Int)) (.int .i64 1) (.int .i64 ((a+1:Nat):Int)) (a+1<=9223372036854775807):=⟨aWb⟩
instance {a b:Nat}:ve .add (.int .i64 (a:Int)) (.int .i64 (b:Int)) (.int .i64 ((a+b:Nat):Int)) (a+b<=9223372036854775807):=⟨yd⟩
instance (priority:=low) {a b:Int}:ve .add (.int .i64 a) (.int .i64 b) (.int .i64 (a+b)) (-9223372036854775808<=a+b/\a+b<=9223372036854775807):=⟨GS⟩
instance {k:IntKind} {a b:Nat}:ve .rem (.int k (a:Int)) (.int k (b:Int)) (.int k ((a % b:Nat):Int)) (0<b):=⟨a7a⟩
instance {a b:Int}:ve .sub (.int .i64 a) (.int .i64 b) (.int .i64 (a-b)) (-9223372036854775808<=a-b/\a-b<=9223372036854775807):=⟨a7i⟩
section
variable {W w:World} {l l' p F:List Chunk} {c d:Chunk}
theorem Qb{op:BinOp}{x y z:Value}{c:Prop}{K:Value->Prop}[i:ve op x y z c](h:K z)(hc:c:=by omega):zc op x y K:=i.h hc h
theorem Xh(h:Has c l:=by (repeat (first|exact Has.hd|apply Has.tl))):Has c l:=h
theorem Xu(h:gh c d l l':=by (repeat (first|exact gh.hd|apply gh.tl))):gh c d l l':=h
theorem Xr(h:gB c l l':=by (repeat (first|exact gB.hd|apply gB.tl))):gB c l l':=h
theorem Xp(h:gq p l F:=by (repeat (first|(with_reducible exact gq.nil)|((with_reducible apply gq.cons);(focus ((repeat (first|(with_reducible exact gB.hd)|(with_reducible apply gB.tl)));done)))))):gq p l F:=h
theorem Xi(h:je p l:=by ((try simp only[app]);repeat (first|(with_reducible exact je.refl)|((with_reducible apply je.cons);(focus ((repeat (first|(with_reducible exact gB.hd)|(with_reducible apply gB.tl)));done)))|(with_reducible apply je.drop)))):je p l:=h
theorem aR{W w:World}{p l:List Chunk}(x:SL W l w)(h:je p l:=by ((try simp only[app]);repeat (first|(with_reducible exact je.refl)|((with_reducible apply je.cons);(focus ((repeat (first|(with_reducible exact gB.hd)|(with_reducible apply gB.tl)));done)))|(with_reducible apply je.drop)))):SL W p w:=SL.b6 x h
theorem dq{W w:World}{u:Value}{q l F:List Chunk}(x:SL W l w)(h:je (app q F) l:=by ((try simp only[app]);repeat (first|(with_reducible exact je.refl)|((with_reducible apply je.cons);(focus ((repeat (first|(with_reducible exact gB.hd)|(with_reducible apply gB.tl)));done)))|(with_reducible apply je.drop)))):∃y,dj u q u y/\SL W (app y F) w:=⟨_,⟨rfl,rfl⟩,SL.b6 x h⟩
theorem Qa{b o:Nat}{cs:List Value}{t:TypeId}{v:Value}{K:Value->Prop}(hS:SL W l w)(h:K v)(m:Has (.pt b cs t) l:=by (with_unfolding_all (repeat (first|exact Has.hd|apply Has.tl))))(hv:cs[o]?=some v:=by (with_unfolding_all rfl)):cR (.pointer (some ⟨b,o,none⟩)) w K:=zX hS m hv h
theorem Qc{b n:Nat}{cs:List Value}{t:TypeId}{K:Value->Prop}(hS:SL W l w)(h:K (.agg cs.toArray))(m:Has (.pt b cs t) l:=by (with_unfolding_all (repeat (first|exact Has.hd|apply Has.tl))))(hn:cs.length=n:=by (with_unfolding_all rfl)):zj n (.pointer (some ⟨b,0,none⟩)) w K:=yy hS m hn h
theorem Qd{z cells:List Value}{ps:List (Nat × Nat × Value)}{K:Value->Prop}(h:K (.agg cells.toArray))(hc:iw z ps=some cells:=by (with_unfolding_all (simp[iw,Value.cells];rfl))):zo z ps K:=yr hc h
theorem Qe{b o:Nat}{cs:List Value}{t:TypeId}{v u:Value}{K:World->Prop}(hS:SL W l w)(h:∀w',SL W l' w'->K w')(m:gh (.pt b cs t) (.pt b (cs.set o v) t) l l':=by (with_unfolding_all (repeat (first|exact gh.hd|apply gh.tl))))(hu:cs[o]?=some u:=by (with_unfolding_all rfl))(h1:v.oneCell'=true:=by (with_unfolding_all (first|rfl|assumption))):
  fH (.pointer (some ⟨b,o,none⟩)) v w K:=y2 hS m hu h1 h
theorem Qf{b n:Nat}{cs vs:List Value}{t:TypeId}{K:World->Prop}(hS:SL W l w)(h:∀w',SL W l' w'->K w')(m:gh (.pt b cs t) (.pt b vs t) l l':=by (with_unfolding_all (repeat (first|exact gh.hd|apply gh.tl))))(hn:vs.length=n:=by (with_unfolding_all rfl))(hc:cs.length=n:=by (with_unfolding_all rfl))(h1:vs.all Value.oneCell'=true:=by (with_unfolding_all rfl)):
  zl n (.pointer (some ⟨b,0,none⟩)) (.agg vs.toArray) w K:=zz hS m hn hc (List.all_eq_true.1 h1) h
theorem Nl{z cs:List Value}{n:Nat}(hc:cs.length=n)(hz:z.length=n):iw (db z 1) [(0,n,.agg cs.toArray)]=some cs:=by
 subst hc
 simp[iw,db,Value.cells,hz]
theorem Qh{z cs:List Value}{e:TypeId}{n:Nat}{K:Value->World->Prop}(hS:SL W l w)
  (h:∀b w',SL W (.pt b cs e::l) w'->K (.slice (some ⟨b,0,none⟩) 1 1) w') (hc:cs.length=n:=by (with_unfolding_all rfl)) (hz:z.length=n:=by (with_unfolding_all rfl)):zn (db z 1) [(0,n,.agg cs.toArray)] e 1 w K:=zy hS (Nl hc hz) h
theorem Qg{z cells:List Value}{ps:List (Nat × Nat × Value)}{e:TypeId}{n:Nat}{K:Value->World->Prop}(hS:SL W l w)
  (h:∀b w',SL W (.pt b cells e::l) w'->K (.slice (some ⟨b,0,none⟩) n n) w') (hc:iw z ps=some cells:=by (with_unfolding_all (simp[iw,Value.cells,db];rfl))):zn z ps e n w K:=zy hS hc h
end
structure Wr(Q:Prop):Prop where
 h:Q
theorem Gp{P Q:Prop}(k:Q) (h:Wr Q->P:=by
 intro kk
 (with_reducible first|apply Q0|refine Qa hS ?_|refine Qb ?_|refine Qc hS ?_|refine Qd ?_)
 repeat (with_reducible first|apply Q0|refine Qa hS ?_|refine Qb ?_|refine Qc hS ?_|refine Qd ?_)
 exact kk.h):P:=h ⟨k⟩
theorem bR{P p A B:Prop}{i:Decidable p}(x:p->A)(y:¬p->B)(h:Wr (dO (.bool (decide p)) A B)->P:=by
 intro kk
 (with_reducible first|apply Q0|refine Qa hS ?_|refine Qb ?_|refine Qc hS ?_|refine Qd ?_)
 repeat (with_reducible first|apply Q0|refine Qa hS ?_|refine Qb ?_|refine Qc hS ?_|refine Qd ?_)
 exact kk.h):P:=h (.mk (za x y))
theorem Gw{W:World}{l:List Chunk}{P:Prop}{G:World->Prop}(k:∀w,SL W l w->G w) (h:(∀w,SL W l w->G w)->P:=by
 intro kk
 first
  | ((with_reducible refine Qe hS ?_);intro w hS;simp only[List.set]at hS)
  | ((with_reducible first|refine yZ hS ?_|refine Qf hS ?_);intro w hS)
 repeat (first
  | (with_reducible first|apply Q0|refine Qa hS ?_|refine Qb ?_|refine Qc hS ?_|refine Qd ?_)
  | ((with_reducible refine Qe hS ?_);intro w hS;simp only[List.set]at hS)
  | ((with_reducible first|refine yZ hS ?_|refine Qf hS ?_);intro w hS))
 exact kk w hS):P:=h k
theorem Gb{W:World}{l:Nat->List Chunk}{P:Prop}{G:Nat->World->Prop}(k:∀b w,SL W (l b) w->G b w) (h:(∀b w,SL W (l b) w->G b w)->P:=by
 intro kk
 (with_reducible first|refine zI hS ?_|refine Qh hS ?_|refine Qg hS ?_)
 intro b w hS
 repeat (first
  | (with_reducible first|apply Q0|refine Qa hS ?_|refine Qb ?_|refine Qc hS ?_|refine Qd ?_)
  | ((with_reducible refine Qe hS ?_);intro w hS;simp only[List.set]at hS)
  | ((with_reducible first|refine yZ hS ?_|refine Qf hS ?_);intro w hS))
 exact kk b w hS):P:=h k
theorem Gn{W:World}{l:List Chunk}{P:Prop}{G:World->Prop}(k:∀w,SL W l w->G w) (h:(∀w,SL W l w->G w)->P:=by
 intro kk
 try simp only[app]at hS
 repeat (first
  | (with_reducible first|apply Q0|refine Qa hS ?_|refine Qb ?_|refine Qc hS ?_|refine Qd ?_)
  | ((with_reducible refine Qe hS ?_);intro w hS;simp only[List.set]at hS)
  | ((with_reducible first|refine yZ hS ?_|refine Qf hS ?_);intro w hS))
 exact kk w hS):P:=h k
theorem Gm{W:World}{l:Nat->List Chunk}{P:Prop}{G:Nat->World->Prop}(k:∀b w,SL W (l b) w->G b w) (h:(∀b w,SL W (l b) w->G b w)->P:=by
 intro kk
 try simp only[app]at hS
 repeat (first
  | (with_reducible first|apply Q0|refine Qa hS ?_|refine Qb ?_|refine Qc hS ?_|refine Qd ?_)
  | ((with_reducible refine Qe hS ?_);intro w hS;simp only[List.set]at hS)
  | ((with_reducible first|refine yZ hS ?_|refine Qf hS ?_);intro w hS))
 (with_reducible first|refine zI hS ?_|refine Qh hS ?_|refine Qg hS ?_)
 intro b w hS
 repeat (first
  | (with_reducible first|apply Q0|refine Qa hS ?_|refine Qb ?_|refine Qc hS ?_|refine Qd ?_)
  | ((with_reducible refine Qe hS ?_);intro w hS;simp only[List.set]at hS)
  | ((with_reducible first|refine yZ hS ?_|refine Qf hS ?_);intro w hS))
 exact kk b w hS):P:=h k
theorem Cc{W w:World}{l pre F:List Chunk}{P:Program}{f:FuncId}{args:List Value}{Q:Value->List Chunk->Prop}{K:Value->World->Prop}(c:Spec P f args pre Q)(h:∀v post,Q v post->∀w',SL W (app post F) w'->K v w')
  (hs:SL W l w:=by exact hS) (p:gq pre l F:=by (repeat (first|(with_reducible exact gq.nil)|((with_reducible apply gq.cons);(focus ((repeat (first|(with_reducible exact gB.hd)|(with_reducible apply gB.tl)));done)))))):zU P f args w K:=yP c hs p h
theorem Cg{W w:World}{l l' pre q F:List Chunk}{P:Program}{f:FuncId}{args:List Value}{u:Value}{K:Value->World->Prop}{G:World->Prop}(c:Spec P f args pre (dj u q))(k:∀w,SL W l' w->G w)
  (hs:SL W l w:=by exact hS) (p:gq pre l F:=by (repeat (first|(with_reducible exact gq.nil)|((with_reducible apply gq.cons);(focus ((repeat (first|(with_reducible exact gB.hd)|(with_reducible apply gB.tl)));done))))))
  (e:(∀w,SL W l' w->G w)->∀w,SL W (app q F) w->K u w:=by
   intro kk w hS
   try simp only[app]at hS
   repeat (first
    | (with_reducible first|apply Q0|refine Qa hS ?_|refine Qb ?_|refine Qc hS ?_|refine Qd ?_)
    | ((with_reducible refine Qe hS ?_);intro w hS;simp only[List.set]at hS)
    | ((with_reducible first|refine yZ hS ?_|refine Qf hS ?_);intro w hS))
   exact kk w hS):zU P f args w K:=yP c hs p λv post ⟨h1,h2⟩ w' hw=>by subst h1 h2;exact e k w' hw
def a7(v:Value)(t:TypeId)(sz n:Nat)(cells:List Value):zC:=jQ λx:Option (Nat × Nat × List Value)=>match x with
 | none=>zP ((∃a,v= .slice a 0 0)/\n=0/\cells=[]) []
 | some (b,cap,rest)=>zP (v= .slice (some ⟨b,0,none⟩) n cap/\n<=cap/\cells.length=n*sz/\rest.length=(cap-n)*sz) [.pt b (cells++rest) t]
section
variable {W w:World} {l:List Chunk}
theorem a7.open{v:Value}{t:TypeId}{sz n:Nat}{cells:List Value}(h:SL W (.ob (a7 v t sz n cells)::l) w):
  ((∃a,v= .slice a 0 0)/\n=0/\cells=[]/\SL W l w)\/∃b cap rest,v= .slice (some ⟨b,0,none⟩) n cap/\n<=cap/\cells.length=n*sz/\rest.length=(cap-n)*sz/\SL W (.pt b (cells++rest) t::l) w:=by
 unfold a7 at h
 obtain⟨x,h⟩:=SL.ex.1 h
 match x,h with
 | none,h=>
  obtain⟨⟨h1,h2,h3⟩,h⟩:=SL.fact.1 h
  exact .inl ⟨h1,h2,h3,h⟩
 | some (b,cap,rest),h=>
  obtain⟨⟨h1,h2,h3,h4⟩,h⟩:=SL.fact.1 h
  exact .inr ⟨b,cap,rest,h1,h2,h3,h4,h⟩
theorem a7.nil{t:TypeId}{sz:Nat}(h:SL W l w):SL W (.ob (a7 (.slice none 0 0) t sz 0 [])::l) w:=by
 unfold a7
 exact SL.ex.2 ⟨none,SL.fact.2 ⟨⟨⟨_,rfl⟩,rfl,rfl⟩,h⟩⟩
theorem a7.nK{a:Option Addr}{t:TypeId}{sz:Nat}(h:SL W l w):SL W (.ob (a7 (.slice a 0 0) t sz 0 [])::l) w:=by
 unfold a7
 exact SL.ex.2 ⟨none,SL.fact.2 ⟨⟨⟨_,rfl⟩,rfl,rfl⟩,h⟩⟩
theorem a7.mk{b n cap:Nat}{t:TypeId}{sz:Nat}{cells rest:List Value}(h1:n<=cap)(h2:cells.length=n*sz)(h3:rest.length=(cap-n)*sz)(h:SL W (.pt b (cells++rest) t::l) w):
  SL W (.ob (a7 (.slice (some ⟨b,0,none⟩) n cap) t sz n cells)::l) w:=by
 unfold a7
 exact SL.ex.2 ⟨some (b,cap,rest),SL.fact.2 ⟨⟨rfl,h1,h2,h3⟩,h⟩⟩
theorem a7.full{b n:Nat}{t:TypeId}{sz:Nat}{cells:List Value}(h2:cells.length=n*sz)(h:SL W (.pt b cells t::l) w):SL W (.ob (a7 (.slice (some ⟨b,0,none⟩) n n) t sz n cells)::l) w:=
 a7.mk (rest:=[]) (Nat.le_refl _) h2 (by simp) (by simpa using h)
theorem Sz{b o m cap sz:Nat}{cs ny:List Value}{t:TypeId}(hS:SL W l w)(hm:Has (.pt b ny t) l)(hl:cs.length=m*sz)(hc:∀j v,cs[j]?=some v->ny[o+j]?=some v):jy w sz (.slice (some ⟨b,o,none⟩) m cap) m cs:=
 ⟨rfl,hl,λj v e=>by rw[Addr.add_lit];exact hS.cell hm (hc j v e)⟩
theorem iP{b m cap sz:Nat}{cs:List Value}{t:TypeId}(hS:SL W l w)(hm:Has (.pt b cs t) l)(hl:cs.length=m*sz):jy w sz (.slice (some ⟨b,0,none⟩) m cap) m cs:=
 Sz hS hm hl λj v e=>by rw[Nat.zero_add];exact e
theorem SA{s:ByteArray}:jy w 1 (.string s) s.size (s.data.toList.map λb=>.int .u8 b.toNat):=⟨rfl,rfl⟩
theorem RJ{cells rest cs:List Value}:cs.length<=rest.length->nM (cells++rest) cells.length cs=cells++cs++rest.drop cs.length:=λh=>by
 rw[wu _ _ _ (by simp;omega)]
 simp
theorem zx{x y:Value}{t:TypeId}{sz iC n m:Nat}{z cells cs:List Value}{F:List Chunk}{K:Value->World->Prop}(hS:SL W l w)(hr:gB (.ob (a7 x t sz n cells)) l F)(g7:jy w sz y m cs)
  (hl:cs.length=m*sz) (hz:z.length=sz) (h1:∀v∈cs,v.oneCell'=true) (hb:(n+m)*iC<=140737488355328) (hn:n+m<=140737488355328)
  (h:∀v' w',SL W (.ob (a7 v' t sz (n+m) (cells++cs))::F) w'->K v' w'):zt sz iC z t x y w K:=by
 rcases a7.open (hS.perm hr.perm) with ⟨⟨a,rfl⟩,rfl,rfl,gx⟩|⟨b,cap,rest,rfl,hc,hlen,jW,gx⟩
 ·refine⟨a,0,0,m,cs,rfl,g7,hb,hn,λh0=>?_,λh0=>⟨[],(by cases a with|none=>exact⟨rfl,rfl⟩|some p=>exact⟨rfl,by simp,λj v e=>by simp at e⟩),λc fW jl=>?_⟩⟩
  ·have hm:m=0:=by omega
   subst hm
   have:cs=[]:=List.eq_nil_of_length_eq_zero (by simpa using hl)
   subst this
   cases a with
   | none=>exact h _ _ (a7.nK gx)
   | some p=>exact h _ _ (a7.nK gx)
  ·refine h _ _ ?_
   have:=a7.mk (sz:=sz) (n:=0+m) (cells:=cs) (rest:=db z (c-(0+m))) (cap:=c) fW (by simpa using hl) (by rw[ku,hz]) (SL.new (cs:=cs++db z (c-(0+m))) (t:=t) (gx.drew))
   simpa using this
 ·refine⟨some ⟨b,0,none⟩,n,cap,m,cs,rfl,g7,hb,hn,λh0=>?_,λh0=>?_⟩
  ·have nE:cs.length<=rest.length:=by
    rw[hl,jW];exact Nat.mul_le_mul_right _ (by omega)
   show rm (Addr.add ⟨b,0,none⟩ (n*sz)) 0 cs w _
   rw[Addr.add_lit]
   refine wF (t:=t) cs (0+n*sz) 0 (cells++rest) w (.pt b (cells++rest) t::F) _ gx .hd (by simp[hlen];omega) h1 (λw' nB=>h _ _ ?_)
   have e:nM (cells++rest) (0+n*sz+0) cs=cells++cs++rest.drop cs.length:=by
    rw[show 0+n*sz+0=cells.length by omega];exact RJ nE
   rw[e]at nB
   exact a7.mk (n:=n+m) (cells:=cells++cs) (rest:=rest.drop cs.length) h0 (by simp[hlen,hl,Nat.add_mul]) (by
    rw[List.length_drop,jW,hl,<- Nat.mul_sub_right_distrib];congr 1;omega) nB
  ·refine⟨cells,⟨rfl,hlen,λj v e=>?_⟩,λc fW jl=>h _ _ ?_⟩
   ·rw[Addr.add_lit]
    refine gx.cell .hd ?_
    rw[Nat.zero_add]
    rw[List.getElem?_append_left (List.getElem?_eq_some_iff.1 e).1];exact e
   ·exact a7.mk (n:=n+m) (cells:=cells++cs) (rest:=db z (c-(n+m))) fW (by simp[hlen,hl,Nat.add_mul]) (by rw[ku,hz]) (SL.new (gx.drop.drew))
def dy(H:aW)(sz:Nat)(v:Value)(n:Nat)(cells:List Value):Prop:=
 cells.length=n*sz/\∃a cap,v= .slice a n cap/\n<=cap/\(n=0\/∃b o,a=some ⟨b,o,none⟩/\∀j u,cells[j]?=some u->H.cell b (o+j)=some u)
theorem dy.mono{H H':aW}(hh:H.le H'){sz n:Nat}{v:Value}{cells:List Value}(h:dy H sz v n cells):dy H' sz v n cells:=by
 obtain⟨h1,a,cap,h2,h3,h4⟩:=h
 refine⟨h1,a,cap,h2,h3,h4.imp id ?_⟩
 rintro ⟨b,o,h5,h6⟩
 exact⟨b,o,h5,λj u hu=>aW.Up hh (h6 j u hu)⟩
theorem dy.nil(H:aW)(sz:Nat):dy H sz (.slice none 0 0) 0 []:=⟨by simp,none,0,rfl,Nat.le_refl _,.inl rfl⟩
theorem a7.freeze{H:aW}{v:Value}{t:TypeId}{sz n:Nat}{cells:List Value}(h:SL W (.mem H::.ob (a7 v t sz n cells)::l) w):∃H',H.le H'/\dy H' sz v n cells/\SL W (.mem H'::l) w:=by
 rcases a7.open (h.perm (.swap _ _ _)) with ⟨⟨a,rfl⟩,rfl,rfl,hS⟩|⟨b,cap,rest,rfl,hc,hlen,jW,hS⟩
 ·exact⟨H,aW.le_refl H,⟨by simp,a,0,rfl,Nat.le_refl _,.inl rfl⟩,hS⟩
 ·obtain⟨H',h1,h2,h3⟩:=SL.freeze (hS.perm (.swap _ _ _))
  refine⟨H',h1,⟨hlen,_,cap,rfl,hc,.inr ⟨b,0,rfl,λj u hu=>?_⟩⟩,h3⟩
  rw[Nat.zero_add]
  refine h2 j u ?_
  rw[List.getElem?_append_left (List.getElem?_eq_some_iff.1 hu).1];exact hu
theorem dy.one{H:aW}{sz n:Nat}{v:Value}{cells:List Value}(h:dy H sz v n cells):v.oneCell'=true:=by
 obtain⟨_,a,cap,rfl,_,_⟩:=h;rfl
theorem nQ{H:aW}{y:Value}{sz m:Nat}{cs:List Value}(hS:SL W l w)(hm:Has (.mem H) l)(h:dy H sz y m cs):jy w sz y m cs:=by
 obtain⟨h1,a,cap,rfl,h3,h4⟩:=h
 cases a with
 | none=>
  rcases h4 with rfl|⟨b,o,h5,_⟩
  ·exact⟨rfl,List.eq_nil_of_length_eq_zero (by simpa using h1)⟩
  ·cases h5
 | some p=>
  refine⟨rfl,h1,λj v e=>?_⟩
  rcases h4 with rfl|⟨b,o,h5,h6⟩
  ·have:cs=[]:=List.eq_nil_of_length_eq_zero (by simpa using h1)
   subst this;simp at e
  ·cases h5
   rw[Addr.add_lit]
   exact hS.F6 hm (h6 j v e)
theorem zm{H:aW}{v:Value}{sz n:Nat}{cells:List Value}{K:Value->Prop}(h:dy H sz v n cells)(k:K (.int .i64 n)):zd v K:=by
 obtain⟨_,a,cap,rfl,_,_⟩:=h
 exact yk k
theorem ZC{H:aW}{v:Value}{sz n j:Nat}{k:IntKind}{cells:List Value}{K:Value->Prop}(h:dy H sz v n cells)(hj:j<n)
  (hK:∀b o,(∀i u,i<sz->cells[j*sz+i]?=some u->H.cell b (o+i)=some u)->K (.pointer (some ⟨b,o,none⟩))):zh sz v (.int k (j:Int)) K:=by
 obtain⟨_,a,cap,rfl,_,h4⟩:=h
 rcases h4 with rfl|⟨b,o,rfl,h6⟩
 ·omega
 ·refine zB hj (hK b (o+j*sz) λi u hi hu=>?_)
  have:=h6 _ u hu
  rwa [<- Nat.add_assoc]at this
theorem yH{H:aW}{v u:Value}{n j:Nat}{k:IntKind}{cells:List Value}{K:Value->Prop}(hS:SL W l w)(hm:Has (.mem H) l)(h:dy H 1 v n cells)(hj:j<n)(hu:cells[j]?=some u)(hK:K u):
  zh 1 v (.int k (j:Int)) λp=>cR p w K:=
 ZC h hj λb o hb=>ZJ hS hm (hb 0 u (by omega) (by simpa using hu)) hK
theorem dy.drop{H:aW}{a:Option Addr}{sz n cap k:Nat}{cells:List Value}(h:dy H sz (.slice a n cap) n cells)(hk:k<=n):dy H sz (.slice (if cap=k then a else a.map (·.add (k*sz))) (n-k) (cap-k)) (n-k) (cells.drop (k*sz)):=by
 obtain⟨h1,a',pM,h2,h3,h4⟩:=h
 cases h2
 refine⟨by rw[List.length_drop,h1,Nat.mul_sub_right_distrib],_,_,rfl,by omega,?_⟩
 rcases h4 with rfl|⟨b,o,rfl,h6⟩
 ·exact .inl (by omega)
 ·by_cases hc:cap=k
  ·exact .inl (by omega)
  ·refine .inr ⟨b,o+k*sz,by simp[hc,Addr.add_lit],λj u hu=>?_⟩
   rw[List.getElem?_drop]at hu
   have:=h6 _ u hu
   rwa [<- Nat.add_assoc]at this
theorem QA{H:aW}{v:Value}{sz n k:Nat}{kk:IntKind}{cells:List Value}{K:Value->Prop}(h:dy H sz v n cells)(hk:k<=n)(hK:∀v',dy H sz v' (n-k) (cells.drop (k*sz))->K v'):eG sz v (some (.int kk (k:Int))) none none K:=by
 have h':=h
 obtain⟨_,a,cap,rfl,h3,_⟩:=h
 exact⟨a,n,cap,k,n,cap,rfl,rfl,rfl,⟨kk,rfl⟩,hk,h3,Nat.le_refl _,hK _ (dy.drop h' hk)⟩
end
end Go.Proofs.YtfenmffiidchcaaGreat
