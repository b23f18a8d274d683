/- Part. -/
import Derived.Test.YthohmpdacdmclaaGreatDoorQEng10
namespace Go.Proofs.YthohmpdacdmclaaGreatDoor
set_option linter.all false
open Go.RowKit
def zz9:=@Addr.add_lit
def vvy:=@Nat.add_assoc
def zzt:=@of_decide_eq_true
def yyu:=@of_decide_eq_false
def xx4:=@Int.tmod_eq_emod_of_nonneg
def vvv:=@List.perm_middle
def yy3:=@Nat.mul_le_mul_right
def zzq:=@List.length_drop
def wwo:=@Nat.mul_sub_right_distrib
abbrev a_:=Nat->Option Obj
abbrev zC:=a_->Prop
def a_.emp:a_:=λ_=>none
def a_.one(b:Nat)(o:Obj):a_:=λk=>if k=b then some o else none
def Sep(h h1 h2:a_):Prop:=∀b,(h1 b=none/\h b=h2 b)\/(h2 b=none/\h b=h1 b)
def a_.le(h k:a_):Prop:=∀b o,h b=some o->k b=some o
def Sep.symm{h h1 h2:a_}(s:Sep h h1 h2):Sep h h2 h1:=λb=>(s b).symm
def Sep.left{h h1 h2:a_}(s:Sep h h1 h2):h1.le h:=λb o e=>by
 rcases s b with ⟨a,c⟩|⟨a,c⟩
 ·grind
 rw[c,e]
def Sep.right{h h1 h2:a_}(s:Sep h h1 h2):h2.le h:=s.symm.left
def Sep.emp(h:a_):Sep h a_.emp h:=λb=>.inl ⟨rfl,rfl⟩
def Sep.bq8{h h1:a_}(s:Sep h a_.emp h1):h=h1:=funext λb=>by
 rcases s b with ⟨_,c⟩|⟨a,c⟩
 ·exact c
 rw[c,a];rfl
def Sep.swap{h h1 h2 h3 h4:a_}(s:Sep h h1 h2)(t:Sep h2 h3 h4):∃k,Sep h h3 k/\Sep k h1 h4:=by
 refine⟨λb=>(h1 b).or (h4 b),λb=>?_,λb=>?_⟩
 ·rcases s b with ⟨a,c⟩|⟨a,c⟩<;>rcases t b with ⟨d,e⟩|⟨d,e⟩<;>simp_all
 rcases s b with ⟨a,c⟩|⟨a,c⟩<;>rcases t b with ⟨d,e⟩|⟨d,e⟩<;>simp_all
def Sep.assoc{h h1 h2 h3 h4:a_}(s:Sep h h1 h2)(t:Sep h1 h3 h4):∃k,Sep h h3 k/\Sep k h4 h2:=by
 obtain⟨k,a,b⟩:=s.symm.swap t;exact⟨k,a,b.symm⟩
def Sep.join{h h1 h2 h3 k:a_}(s:Sep h h3 k)(t:Sep k h1 h2):∃k',Sep h k' h2/\Sep k' h3 h1:=by
 obtain⟨k',a,b⟩:=s.swap t.symm;exact⟨k',a.symm,b⟩
inductive Chunk where
 | pt (b:Nat) (cs:Ξ) (t:Ι)
 | mp (b:Nat) (es:List MapEntry) (clock:Nat)
 | mem (H:a_)
 | ob (A:zC)
def XK(n:Nat)(f:Nat × Nat):Prop:=f.1=f.2\/n<=f.1
def Chunk.holds:Chunk->zC
 | .pt b cs t=>λh=>∃f,XK cs.length f/\h=a_.one b (.cells cs.toArray t f)
 | .mp b es c=>λh=>h=a_.one b (.map es.toArray c)
 | .mem H=>λh=>h=H
 | .ob A=>A
def star:List Chunk->zC
 | [],h=>h=a_.emp
 | c::l,h=>∃h1 h2,Sep h h1 h2/\c.holds h1/\star l h2
structure SL(W:Ζ)(l:List Chunk)(w:Ζ):Prop where
 os:w.os=W.os
 tape:w.tape=W.tape
 output:w.output=W.output
 out:∃h:a_,star l h/\∀b o,h b=some o->w.heap[b]?=some o
def bz3{A B:Chunk}{l:List Chunk}{h:a_}(s:star (A::B::l) h):star (B::A::l) h:=by
 obtain⟨h1,h2,s1,a,h3,h4,s2,b,r⟩:=s;obtain⟨k,x,y⟩:=s1.swap s2;exact⟨h3,k,x,b,h1,h4,y,a,r⟩
def bz2{l l':List Chunk}(p:l.Perm l'):∀{h:a_},star l h->star l' h:=by
 induction p with
 | nil=>exact λs=>s
 | cons x _ ih=>rintro h ⟨h1,h2,s,a,r⟩;exact⟨h1,h2,s,a,ih r⟩
 | swap x y l=>exact λs=>bz3 s
 | trans _ _ i j=>exact λs=>j (i s)
def SL.perm{W:Ζ}{l l':List Chunk}{w:Ζ}(h:SL W l w)(p:l.Perm l'):SL W l' w:=
 ⟨h.os,h.tape,h.output,let ⟨k,s,m⟩:=h.out;⟨k,bz2 p s,m⟩⟩
def Xk{l l':List Chunk}:∀{h:a_},star (l++l') h↔∃h1 h2,Sep h h1 h2/\star l h1/\star l' h2:=by
 induction l with
 | nil=>
  intro h;constructor
  ·intro s;exact⟨a_.emp,h,Sep.emp h,rfl,s⟩
  rintro ⟨h1,h2,s,rfl,t⟩;rw[s.bq8];exact t
 | cons c l ih=>
  intro h;constructor
  ·rintro ⟨h1,h2,s,a,r⟩;obtain⟨h3,h4,t,b,d⟩:=ih.1 r;obtain⟨k,x,y⟩:=s.join t;exact⟨k,h4,x,⟨h1,h3,y,a,b⟩,d⟩
  rintro ⟨h1,h2,s,⟨h3,h4,t,a,b⟩,d⟩;obtain⟨k,x,y⟩:=s.assoc t;exact⟨h3,k,x,a,ih.2 ⟨h4,h2,y,b,d⟩⟩
section
variable {W w:Ζ} {l:List Chunk}
def SL.drop{c:Chunk}(h:SL W (c::l) w):SL W l w:=
 ⟨h.os,h.tape,h.output,let ⟨k,⟨h1,h2,s,a,r⟩,m⟩:=h.out;⟨h2,r,λb o e=>m b o (s.right b o e)⟩⟩
def SL.conv{c:Chunk}{l1:List Chunk}(h:SL W (c::l) w)(f:∀k,c.holds k->star l1 k):SL W (l1++l) w:=
 ⟨h.os,h.tape,h.output,let ⟨k,⟨h1,h2,s,a,r⟩,m⟩:=h.out;⟨k,Xk.2 ⟨h1,h2,s,f _ a,r⟩,m⟩⟩
def SL.fold{c:Chunk}{l1:List Chunk}(h:SL W (l1++l) w)(f:∀k,star l1 k->c.holds k):SL W (c::l) w:=
 ⟨h.os,h.tape,h.output,let ⟨k,s,m⟩:=h.out;let ⟨h1,h2,s,a,r⟩:=Xk.1 s;⟨k,⟨h1,h2,s,f _ a,r⟩,m⟩⟩
def iX{α:Type}(A:α->zC):zC:=λh=>∃x,A x h
def zF(p:Prop)(l:List Chunk):zC:=λh=>p/\star l h
def SL.ex{α:Type}{A:α->zC}:SL W (.ob (iX A)::l) w↔∃x,SL W (.ob (A x)::l) w:=by
 constructor
 ·rintro ⟨a,b,c,k,⟨h1,h2,s,⟨x,hx⟩,r⟩,m⟩;exact⟨x,a,b,c,k,⟨h1,h2,s,hx,r⟩,m⟩
 rintro ⟨x,a,b,c,k,⟨h1,h2,s,hx,r⟩,m⟩;exact⟨a,b,c,k,⟨h1,h2,s,⟨x,hx⟩,r⟩,m⟩
def SL.fact{p:Prop}{l1:List Chunk}:SL W (.ob (zF p l1)::l) w↔p/\SL W (l1++l) w:=by
 constructor
 ·intro h;obtain⟨k,⟨h1,h2,s,⟨hp,hx⟩,r⟩,m⟩:=h.out;exact⟨hp,h.conv (λ_ s=>s.2)⟩
 rintro ⟨hp,h⟩;exact h.fold (λ_ s=>⟨hp,s⟩)
inductive Has (c:Chunk):List Chunk->Prop where
 | hd {l:List Chunk}:Has c (c::l)
 | tl {d:Chunk} {l:List Chunk} (h:Has c l):Has c (d::l)
def Has.heap{c:Chunk}{l:List Chunk}(h:Has c l):∀{k:a_},star l k->∃h1,c.holds h1/\h1.le k:=by
 induction h with
 | hd=>rintro k ⟨h1,h2,s,a,r⟩;exact⟨h1,a,s.left⟩
 | tl _ ih=>
  rintro k ⟨h1,h2,s,a,r⟩;obtain⟨h3,b,e⟩:=ih r;exact⟨h3,b,λx o y=>s.right x o (e x o y)⟩
inductive fg (c d:Chunk):List Chunk->List Chunk->Prop where
 | hd {l:List Chunk}:fg c d (c::l) (d::l)
 | tl {e:Chunk} {l l':List Chunk} (h:fg c d l l'):fg c d (e::l) (e::l')
inductive eW (c:Chunk):List Chunk->List Chunk->Prop where
 | hd {l:List Chunk}:eW c (c::l) l
 | tl {d:Chunk} {l l':List Chunk} (h:eW c l l'):eW c (d::l) (d::l')
inductive fK:List Chunk->List Chunk->List Chunk->Prop where
 | nil {l:List Chunk}:fK [] l l
 | cons {c:Chunk} {p l l' F:List Chunk} (h:eW c l l') (k:fK p l' F):fK (c::p) l F
def eW.perm{c:Chunk}{l l':List Chunk}(h:eW c l l'):l.Perm (c::l'):=by
 induction h with
 | hd=>exact .refl _
 | tl _ ih=>exact (ih.cons _).trans (.swap _ _ _)
def fK.perm{p l F:List Chunk}(h:fK p l F):l.Perm (p++F):=by
 induction h with
 | nil=>exact .refl _
 | cons r _ ih=>exact r.perm.trans (ih.cons _)
def SL.pick{p F:List Chunk}(h:SL W l w)(k:fK p l F):SL W (p++F) w:=h.perm k.perm
def SL.pD{b:Nat}{cs:Ξ}{t:Ι}(h:SL W l w)(m:Has (.pt b cs t) l):∃f,XK cs.length f/\w.heap[b]?=some (.cells cs.toArray t f):=by
 obtain⟨k,s,x⟩:=h.out;obtain⟨h1,⟨f,hf,rfl⟩,le⟩:=m.heap s;exact⟨f,hf,x b _ (le b _ (by simp[a_.one]))⟩
def SL.cell{b o:Nat}{cs:Ξ}{t:Ι}{v:Ε}(h:SL W l w)(m:Has (.pt b cs t) l)(hv:cs[o]?=some v):w.cell? ⟨b,o,none⟩=some v:=by
 obtain⟨f,_,e⟩:=h.pD m;simp[World.cell?,e,hv]
def SL.frozen{b o:Nat}{cs:Ξ}{t:Ι}{v:Ε}(h:SL W l w)(m:Has (.pt b cs t) l)(hv:cs[o]?=some v):w.frozen? ⟨b,o,none⟩=false:=by
 obtain⟨f,hf,e⟩:=h.pD m;have b9:=(zzh.1 hv).1;obtain⟨x,y⟩:=f;simp only[World.frozen?,e];rcases hf with hf|hf
 ·grind
 grind
def a_.cell(H:a_)(b o:Nat):Option Ε:=match H b with
 | some (.cells c _ _)=>c[o]?
 | _=>none
def SL.JB{H:a_}{b o:Nat}{v:Ε}(h:SL W l w)(m:Has (.mem H) l)(hv:H.cell b o=some v):w.cell? ⟨b,o,none⟩=some v:=by
 obtain⟨k,s,x⟩:=h.out;obtain⟨h1,rfl,le⟩:=m.heap s;unfold a_.cell at hv;split at hv
 ·rename_i c t f e;have:=x b _ (le b _ e);simp[World.cell?,this,hv]
 cases hv
def fg.perm{c d:Chunk}{l l':List Chunk}(u:fg c d l l'):∃r,l.Perm (c::r)/\l'.Perm (d::r):=by
 induction u with
 | hd=>exact⟨_,.refl _,.refl _⟩
 | tl _ ih=>
  obtain⟨r,p,q⟩:=ih;exact⟨_::r,(p.cons _).trans (.swap _ _ _),(q.cons _).trans (.swap _ _ _)⟩
def SL.ri{l':List Chunk}{c d:Chunk}{w':Ζ}{b:Nat}{o':Obj}(h:SL W l w)(u:fg c d l l')(hc:∀k,c.holds k->∃o,k=a_.one b o)(hd:d.holds (a_.one b o'))
  (hw:w'.heap[b]?=some o') (hk:∀x,x≠b->w'.heap[x]?=w.heap[x]?) (e1:w'.os=w.os) (e2:w'.tape=w.tape) (e3:w'.output=w.output):SL W l' w':=by
 obtain⟨r,p,q⟩:=u.perm;obtain⟨a1,a2,a3,k,⟨h1,h2,s,a,t⟩,m⟩:=h.perm p;obtain⟨o,rfl⟩:=hc _ a;have hb:h2 b=none:=by
  rcases s b with ⟨x,_⟩|⟨x,_⟩
  ·simp[a_.one]at x
  exact x
 suffices hs:SL W (d::r) w' from hs.perm q.symm
 refine⟨e1.trans a1,e2.trans a2,e3.trans a3,λx=>if x=b then some o' else h2 x,⟨a_.one b o',h2,λx=>?_,hd,t⟩,λx y e=>?_⟩
 ·grind [a_.one]
 by_cases hx:x=b
 ·grind
 simp[hx]at e
 rw[hk x hx];exact m x y (s.right x y e)
def SL.store{l':List Chunk}{b o:Nat}{cs:Ξ}{t:Ι}{v u:Ε}(h:SL W l w)(m:fg (.pt b cs t) (.pt b (cs.set o v) t) l l')(hu:cs[o]?=some u):SL W l' (w.setCell ⟨b,o,none⟩ v):=by
 have hm:Has (.pt b cs t) l:=by
  clear h;generalize hd:Chunk.pt b (cs.set o v) t=d at m;induction m with
  | hd=>exact .hd
  | tl _ ih=>exact .tl ih
 obtain⟨f,hf,e⟩:=h.pD hm;refine h.ri (b:=b) (o':=.cells (cs.set o v).toArray t f) m ?_ ⟨f,by simpa using hf,rfl⟩ ?_ ?_ rfl rfl rfl
 ·rintro k ⟨f,_,rfl⟩;exact⟨_,rfl⟩
 ·show (w.heap.modify b _)[b]?=_
  grind
 intro x hx;exact Below.heap_setCell w ⟨b,o,none⟩ v x hx
def SL.alloc{o:Obj}{c:Chunk}(h:SL W l w)(hc:c.holds (a_.one w.heap.size o)):SL W (c::l) (w.alloc o):=by
 obtain⟨a1,a2,a3,k,s,m⟩:=h;have hb:k w.heap.size=none:=by
  cases hx:k w.heap.size with
  | none=>rfl
  | some y=>have:=m _ _ hx;simp at this
 refine⟨a1,a2,a3,λx=>if x=w.heap.size then some o else k x,⟨a_.one w.heap.size o,k,λx=>?_,hc,s⟩,λx y e=>?_⟩
 ·grind [a_.one]
 by_cases hx:x=w.heap.size
 ·subst hx;simp at e;subst e;exact heap_alloc_new w o
 simp[hx]at e
 have:=m x y e;have b9:x<w.heap.size:=(xxe.1 this).1;rw[Below.heap_alloc w o x b9];exact this
def SL.new{cs:Ξ}{t:Ι}(h:SL W l w):SL W (.pt w.heap.size cs t::l) (w.alloc (.cells cs.toArray t)):=
 h.alloc ⟨(0,0),.inl rfl,rfl⟩
def SL.drew(h:SL W l w):SL W l w.drew:=⟨h.os,h.tape,h.output,h.out⟩
def SL.drewN(h:SL W l w)(n:Nat):SL W l (w.drewN n):=⟨h.os,h.tape,h.output,h.out⟩
def a_.of(w:Ζ):a_:=λb=>w.heap[b]?
def SL.init(w:Ζ):SL w [.mem (a_.of w)] w:=by
 refine⟨rfl,rfl,rfl,a_.of w,⟨a_.of w,a_.emp,λb=>.inr ⟨rfl,rfl⟩,rfl,rfl⟩,λb o e=>e⟩
def a_.le_refl(H:a_):H.le H:=λ_ _ e=>e
def a_.le_trans{H K L:a_}(h:H.le K)(k:K.le L):H.le L:=λb o e=>k b o (h b o e)
theorem a_.aWh{H K:a_}(h:H.le K){b o:Nat}{v:Ε}(e:H.cell b o=some v):K.cell b o=some v:=by
 unfold a_.cell at *
 split at e
 ·rename_i c t f he;rw[h _ _ he];exact e
 cases e
def SL.freeze{H:a_}{b:Nat}{cs:Ξ}{t:Ι}(h:SL W (.mem H::.pt b cs t::l) w):∃H',H.le H'/\(∀o v,cs[o]?=some v->H'.cell b o=some v)/\SL W (.mem H'::l) w:=by
 obtain⟨a1,a2,a3,k,⟨h1,h2,s,rfl,h3,h4,s',⟨f,hf,rfl⟩,r⟩,m⟩:=h;obtain⟨k',x,y⟩:=s.join s';refine⟨k',λb o e=>?_,λo v e=>?_,a1,a2,a3,k,⟨k',h4,x,rfl,r⟩,m⟩
 ·exact y.left b o e
 have:k' b=some (.cells cs.toArray t f):=y.right b _ (by simp[a_.one])
 grind [a_.cell]
def SL.below{H:a_}(h:SL W l w)(m:Has (.mem H) l)(hH:(a_.of W).le H):Below W.heap.size W w:=by
 obtain⟨k,s,x⟩:=h.out;obtain⟨h1,rfl,le⟩:=m.heap s;have hk:∀b,b<W.heap.size->w.heap[b]?=W.heap[b]?:=λb hb=>by
  have e:W.heap[b]?=some (W.heap[b]):=ww7 hb;rw[e];exact x b _ (le b _ (hH b _ e))
 refine⟨h.os,h.tape,h.output,?_,hk⟩
 grind
end
section
variable {W w:Ζ} {l l':List Chunk}
def bxr{a:Addr}{K:Ε->Prop}(h:K (.pointer (some a))):qd (.pointer (some a)) K:=⟨a,rfl,h⟩
def yI{b o off:Nat}{K:Ε->Prop}(h:K (.pointer (some ⟨b,o+off,none⟩))):zk off (.pointer (some ⟨b,o,none⟩)) K:=by
 refine⟨_,rfl,?_⟩;rw[zz9];exact h
def zV{b o:Nat}{cs:Ξ}{t:Ι}{v:Ε}{K:Ε->Prop}(hS:SL W l w)(m:Has (.pt b cs t) l)(hv:cs[o]?=some v)(h:K v):bu (.pointer (some ⟨b,o,none⟩)) w K:=
 ⟨_,v,rfl,hS.cell m hv,h⟩
def F7{H:a_}{b o:Nat}{v:Ε}{K:Ε->Prop}(hS:SL W l w)(m:Has (.mem H) l)(hv:H.cell b o=some v)(h:K v):bu (.pointer (some ⟨b,o,none⟩)) w K:=
 ⟨_,v,rfl,hS.JB m hv,h⟩
def yh{b o n:Nat}{cs vs:Ξ}{t:Ι}{K:Ε->Prop}(hS:SL W l w)(m:Has (.pt b cs t) l)(hn:vs.length=n)(hv:∀j v,vs[j]?=some v->cs[o+j]?=some v)(h:K (.agg vs.toArray)):zf n (.pointer (some ⟨b,o,none⟩)) w K:=
 ⟨_,vs,rfl,hn,λj v e=>by rw[zz9];exact hS.cell m (hv j v e),h⟩
def zz{b n:Nat}{cs:Ξ}{t:Ι}{K:Ε->Prop}(hS:SL W l w)(m:Has (.pt b cs t) l)(hn:cs.length=n)(h:K (.agg cs.toArray)):zf n (Δ b) w K:=
 yh hS m hn (λj v e=>by rw[yyd];exact e) h
def bxg{H:a_}{b o n:Nat}{vs:Ξ}{K:Ε->Prop}(hS:SL W l w)(m:Has (.mem H) l)(hn:vs.length=n)(hv:∀j v,vs[j]?=some v->H.cell b (o+j)=some v)(h:K (.agg vs.toArray)):zf n (.pointer (some ⟨b,o,none⟩)) w K:=
 ⟨_,vs,rfl,hn,λj v e=>by rw[zz9];exact hS.JB m (hv j v e),h⟩
def ZA{b o:Nat}{cs:Ξ}{t:Ι}{v u:Ε}{K:Ζ->Prop}(hS:SL W l w)(m:fg (.pt b cs t) (.pt b (cs.set o v) t) l l')(hu:cs[o]?=some u)(h1:v.oneCell'=true)(h:∀w',SL W l' w'->K w'):
  dj (.pointer (some ⟨b,o,none⟩)) v w K:=by
 have hm:Has (.pt b cs t) l:=by
  clear hS h;generalize hd:Chunk.pt b (cs.set o v) t=d at m;induction m with
  | hd=>exact .hd
  | tl _ ih=>exact .tl ih
 exact⟨_,u,rfl,h1,hS.cell hm hu,hS.frozen hm hu,h _ (hS.store m hu)⟩
def over(cs:Ξ)(o:Nat):Ξ->Ξ
 | []=>cs
 | v::r=>over (cs.set o v) (o+1) r
def fg.has{c d:Chunk}(u:fg c d l l'):Has c l:=by
 induction u with
 | hd=>exact .hd
 | tl _ ih=>exact .tl ih
def fg.other{c d:Chunk}(u:fg c d l l')(e:Chunk):∃l2,fg c e l l2/\fg e d l2 l':=by
 induction u with
 | hd=>exact⟨_,.hd,.hd⟩
 | tl _ ih=>obtain⟨l2,p,q⟩:=ih;exact⟨_,.tl p,.tl q⟩
def Bb{b:Nat}{t:Ι}{K:Ζ->Prop}:∀(vs:Ξ) (o i:Nat) (cs:Ξ) (w:Ζ) (l l':List Chunk),SL W l w->fg (.pt b cs t) (.pt b (over cs (o+i) vs) t) l l'->o+i+vs.length<=cs.length->(∀v∈vs,v.oneCell'=true) ->
  (∀w',SL W l' w'->K w')->tg ⟨b,o,none⟩ i vs w K
 | [],o,i,cs,w,l,l',hS,u,hl,h1,h=>by
  refine h w ?_;simp only[over]at u;have:l=l':=by
   clear hS h;generalize hc:Chunk.pt b cs t=c at u;revert hc;induction u with
   | hd=>intro;rfl
   | tl _ ih=>intro hc;rw[ih hc]
  grind
 | v::r,o,i,cs,w,l,l',hS,u,hl,h1,h=>by
  simp only[zzi]at hl;have hc:cs[o+i]?=some (cs[o+i]'(by omega)):=zzd (by omega);obtain⟨l2,p,q⟩:=u.other (.pt b (cs.set (o+i) v) t);refine⟨h1 v (by simp),⟨_,by rw[zz9];exact hS.cell u.has hc⟩,by rw[zz9];exact hS.frozen u.has hc,?_⟩;rw[zz9];exact Bb r o (i+1) _ _ l2 l' (hS.store p hc) (by simpa [over,vvy] using q) (by simp;omega) (λv hv=>h1 v (by simp[hv])) h
theorem A0:∀(vs cs:Ξ) (o:Nat),o+vs.length<=cs.length->over cs o vs=cs.take o++vs++cs.drop (o+vs.length)
 | [],cs,o,_=>by simp[over]
 | v::r,cs,o,h=>by
  simp only[zzi]at h;obtain⟨A,x,B,rfl,hA⟩:∃A x B,cs=A++x::B/\A.length=o:=by
   refine⟨cs.take o,cs[o]'(by omega),cs.drop (o+1),?_,by simp;omega⟩;rw[<- yyn,yyf]
  subst hA;rw[over,A0 r _ _ (by simp at h ⊢;omega)];have e1:(A++x::B).set A.length v=A++v::B:=by simp
  have e2:(A++v::B).take (A.length+1)=A++[v]:=by rw[yy9];simp
  have e3:(A++v::B).drop (A.length+1+r.length)=B.drop r.length:=by rw[show A.length+1+r.length=A.length+(r.length+1) by omega,xxa];simp
  have e5:(A++x::B).drop (A.length+(r.length+1))=B.drop r.length:=by rw[xxa];simp
  grind
def zr{b n:Nat}{cs vs:Ξ}{t:Ι}{K:Ζ->Prop}(hS:SL W l w)(m:fg (.pt b cs t) (.pt b vs t) l l')(hn:vs.length=n)(hc:cs.length=n)(h1:∀v∈vs,v.oneCell'=true)(h:∀w',SL W l' w'->K w'):
  zj n (Δ b) (.agg vs.toArray) w K:=by
 refine⟨_,vs,rfl,rfl,hn,Bb (t:=t) vs 0 0 cs w l l' hS ?_ (by omega) h1 h⟩
 grind [A0]
def Zn{b o n:Nat}{cs vs:Ξ}{t:Ι}{K:Ζ->Prop}(hS:SL W l w)(m:fg (.pt b cs t) (.pt b (cs.take o++vs++cs.drop (o+n)) t) l l')(hn:vs.length=n)(hc:o+n<=cs.length)(h1:∀v∈vs,v.oneCell'=true)(h:∀w',SL W l' w'->K w'):
  zj n (.pointer (some ⟨b,o,none⟩)) (.agg vs.toArray) w K:=by
 refine⟨_,vs,rfl,rfl,hn,Bb (t:=t) vs o 0 cs w l l' hS ?_ (by omega) h1 h⟩
 grind [A0]
def zD{cs:Ξ}{t:Ι}{K:Ε->Ζ->Prop}(hS:SL W l w)(h:∀b w',SL W (.pt b cs t::l) w'->K (Δ b) w'):zh cs t w K:=h _ _ hS.new
def bw2{a b:Ε}{K:Ε->Prop}(h:K a):ze 0 (.tuple #[a,b]) K:=⟨_,a,rfl,rfl,h⟩
def bw3{a b:Ε}{K:Ε->Prop}(h:K b):ze 1 (.tuple #[a,b]) K:=⟨_,b,rfl,rfl,h⟩
def bw4{a b c:Ε}{K:Ε->Prop}(h:K a):ze 0 (.tuple #[a,b,c]) K:=⟨_,a,rfl,rfl,h⟩
def bw5{a b c:Ε}{K:Ε->Prop}(h:K b):ze 1 (.tuple #[a,b,c]) K:=⟨_,b,rfl,rfl,h⟩
def bw6{a b c:Ε}{K:Ε->Prop}(h:K c):ze 2 (.tuple #[a,b,c]) K:=⟨_,c,rfl,rfl,h⟩
def bw7{a b c d:Ε}{K:Ε->Prop}(h:K a):ze 0 (.tuple #[a,b,c,d]) K:=⟨_,a,rfl,rfl,h⟩
def bw8{a b c d:Ε}{K:Ε->Prop}(h:K b):ze 1 (.tuple #[a,b,c,d]) K:=⟨_,b,rfl,rfl,h⟩
def bw9{a b c d:Ε}{K:Ε->Prop}(h:K c):ze 2 (.tuple #[a,b,c,d]) K:=⟨_,c,rfl,rfl,h⟩
def bxa{a b c d:Ε}{K:Ε->Prop}(h:K d):ze 3 (.tuple #[a,b,c,d]) K:=⟨_,d,rfl,rfl,h⟩
theorem yg{a:Option Addr}{n c:Nat}{K:Ε->Prop}(h:K (Γ n)):zd (.slice a n c) K:=⟨a,n,c,rfl,h⟩
def Y4{s:Η}{K:Ε->Prop}(h:K (Γ s.size)):zS (.string s) K:=⟨s,rfl,h⟩
theorem zI{b o len cap sz j:Nat}{k:IntKind}{K:Ε->Prop}(hj:j<len)(h:K (.pointer (some ⟨b,o+j*sz,none⟩))):zl sz (.slice (some ⟨b,o,none⟩) len cap) (.int k (j:Int)) K:=
 ⟨_,len,cap,k,j,rfl,rfl,hj,by rw[zz9];exact h⟩
def yJ{b:Bool}{A B:Prop}(h1:b=true->A)(h2:b=false->B):cB (.bool b) A B:=⟨b,rfl,h1,h2⟩
def za{p:Prop}[Decidable p]{A B:Prop}(h1:p->A)(h2:¬p->B):cB (.bool (decide p)) A B:=⟨_,rfl,λe=>h1 (zzt e),λe=>h2 (yyu e)⟩
def Χ{p:Prop}[Decidable p]{A B:Prop}(h:B)(n:¬p:=by first|exact λh=>absurd rfl h|omega|decide|(intro h;cases h)):cB (.bool (decide p)) A B:=za (λh=>absurd h n) (λ_=>h)
def Υ{p:Prop}[Decidable p]{A B:Prop}(h:A)(n:p:=by first|exact rfl|omega|decide):cB (.bool (decide p)) A B:=za (λ_=>h) (λh=>absurd n h)
def zu{A B:Prop}(h:A):cB (.bool true) A B:=⟨_,rfl,λ_=>h,λe=>by cases e⟩
def zq{A B:Prop}(h:B):cB (.bool false) A B:=⟨_,rfl,(λe=>(by cases e)),λ_=>h⟩
def zw{A B:Prop}{b:Bool}(h1:b=false->A)(h2:b=true->B):cB (.bool !b) A B:=⟨_,rfl,(λe=>h1 (by simpa using e)),(λe=>h2 (by simpa using e))⟩
def Kf{a b:Int}{K:Ε->Prop}(hr : -9223372036854775808<=a+b/\a+b<=9223372036854775807)(h:K (Γ (a+b))):zc .add (Γ a) (Γ b) K:=
 ⟨_,rfl,by rw[xx3 _ hr];exact h⟩
def bx1{a b:Int}{K:Ε->Prop}(hr : -9223372036854775808<=a-b/\a-b<=9223372036854775807)(h:K (Γ (a-b))):zc .sub (Γ a) (Γ b) K:=
 ⟨_,rfl,by rw[xx3 _ hr];exact h⟩
def bxo{a b:Int}{K:Ε->Prop}(hr : -9223372036854775808<=a*b/\a*b<=9223372036854775807)(h:K (Γ (a*b))):zc .mul (Γ a) (Γ b) K:=
 ⟨_,rfl,by rw[xx3 _ hr];exact h⟩
def Zy{a b:Nat}{K:Ε->Prop}(hr:a+b<=9223372036854775807)(h:K (Γ ((a+b:Nat):Int))):zc .add (Γ (a:Int)) (Γ (b:Int)) K:=
 Kf (by omega) (by rw[show (a:Int)+(b:Int)=((a+b:Nat):Int) by omega];exact h)
def QS{a:Nat}{K:Ε->Prop}(hr:a+1<=9223372036854775807)(h:K (Γ ((a+1:Nat):Int))):zc .add (Γ (a:Int)) (Γ 1) K:=
 Kf (by omega) (by rw[show (a:Int)+1=((a+1:Nat):Int) by omega];exact h)
def ZO{k:IntKind}{a b:Int}{K:Ε->Prop}(hb:b≠0)(h:K (.int k (a.tmod b))):zc .rem (.int k a) (.int k b) K:=
 ⟨.int k (a.tmod b),by simp[iJ,hb],h⟩
def WS{a b:Int}{K:Ε->Prop}(hb:b≠0)(hr : -9223372036854775808<=a.tdiv b/\a.tdiv b<=9223372036854775807)(h:K (Γ (a.tdiv b))):zc .quo (Γ a) (Γ b) K:=
 ⟨Γ (a.tdiv b),by simp[iJ,hb,xx3 _ hr],h⟩
def QW{k:IntKind}{a b:Nat}{K:Ε->Prop}(hb:0<b)(h:K (.int k ((a % b:Nat):Int))):zc .rem (.int k (a:Int)) (.int k (b:Int)) K:=
 ZO (by omega) (by rw[xx4 (by omega)];exact h)
def WO{k:IntKind}{a b:Int}{K:Ε->Prop}(h:K (.bool (decide (a=b)))):zc .eql (.int k a) (.int k b) K:=⟨.bool (decide (a=b)),by simp[iJ];rfl,h⟩
def A9{k:IntKind}{a b:Int}{K:Ε->Prop}(h:K (.bool (decide (a≠b)))):zc .neq (.int k a) (.int k b) K:=⟨.bool (decide (a≠b)),by simp[iJ,bne];rfl,h⟩
def Dt{k:IntKind}{a b:Int}{K:Ε->Prop}(h:K (.bool (decide (a<b)))):zc .lss (.int k a) (.int k b) K:=⟨_,by simp[iJ],h⟩
def bxh{k:IntKind}{a b:Int}{K:Ε->Prop}(h:K (.bool (decide (a<=b)))):zc .leq (.int k a) (.int k b) K:=⟨_,by simp[iJ],h⟩
def Kg{k:IntKind}{a b:Int}{K:Ε->Prop}(h:K (.bool (decide (b<a)))):zc .gtr (.int k a) (.int k b) K:=⟨_,by simp[iJ],h⟩
def bxb{k:IntKind}{a b:Int}{K:Ε->Prop}(h:K (.bool (decide (b<=a)))):zc .geq (.int k a) (.int k b) K:=⟨_,by simp[iJ],h⟩
theorem str_inj{s t:Η}(h:s.toList=t.toList):s=t:=by
 rw[ByteArray.toList_eq,ByteArray.toList_eq]at h
 cases s;cases t;congr 1;exact Array.toList_inj.1 h
def bw1{a b:Η}{K:Ε->Prop}(h:K (.bool (decide (a=b)))):zc .eql (.string a) (.string b) K:=by
 refine⟨.bool (decide (a=b)),?_,h⟩;by_cases e:a=b
 ·grind [iJ]
 grind [str_inj,iJ]
def bxq{a b:Η}{K:Ε->Prop}(h:K (.bool (decide (a≠b)))):zc .neq (.string a) (.string b) K:=by
 refine⟨.bool (decide (a≠b)),?_,h⟩;by_cases e:a=b
 ·grind [iJ]
 grind [str_inj,iJ]
def bw0{a b:Bool}{K:Ε->Prop}(h:K (.bool (decide (a=b)))):HEq .bool false (.bool a) (.bool b) K:=⟨a == b,rfl,by cases a<;>cases b<;>simpa using h⟩
def bxp{a b:Bool}{K:Ε->Prop}(h:K (.bool (decide (a≠b)))):HEq .bool true (.bool a) (.bool b) K:=⟨a == b,rfl,by cases a<;>cases b<;>simpa using h⟩
def Yc{t:Ι}{a:Option Addr}{K:Ε->Prop}(h:K (.bool a.isNone)):HEq (.pointer t) false (.pointer a) (.pointer none) K:=⟨a.isNone,by cases a<;>rfl,h⟩
def Kh{t:Ι}{a:Option Addr}{K:Ε->Prop}(h:K (.bool a.isSome)):HEq (.pointer t) true (.pointer a) (.pointer none) K:=⟨a.isNone,by cases a<;>rfl,by cases a<;>exact h⟩
def z7{b:Bool}{K:Ε->Prop}(h:K (.bool !b)):y7 (.bool b) K:=⟨b,rfl,h⟩
def zT{j:IntKind}{n:Int}{k:IntKind}{K:Ε->Prop}(h:K (.int k (k.wrap n))):zM k (.int j n) K:=⟨j,n,rfl,h⟩
def yz{j:IntKind}{n:Int}{K:Ε->Prop}(hr : -9223372036854775808<=n/\n<=9223372036854775807)(h:K (Γ n)):zM .i64 (.int j n) K:=⟨j,n,rfl,by rw[xx3 _ hr];exact h⟩
def bxn{k:IntKind}{a b:Int}{K:Ε->Prop}(h:K (.int k (min a b))):ZW (.int k a) (.int k b) K:=
 ⟨k,a,b,rfl,rfl,by rw[show (if b<a then b else a)=min a b by split<;>omega];exact h⟩
def bxm{k:IntKind}{a b:Int}{K:Ε->Prop}(h:K (.int k (max a b))):y6 (.int k a) (.int k b) K:=
 ⟨k,a,b,rfl,rfl,by rw[show (if b>a then b else a)=max a b by split<;>omega];exact h⟩
def yW{z cells:Ξ}{ps:List (Nat × Nat × Ε)}{K:Ε->Prop}(hc:gT z ps=some cells)(h:K (.agg cells.toArray)):zo z ps K:=⟨cells,hc,h⟩
def zR{z cells:Ξ}{ps:List (Nat × Nat × Ε)}{e:Ι}{n:Nat}{K:Ε->Ζ->Prop}(hS:SL W l w)(hc:gT z ps=some cells)
  (h:∀b w',SL W (.pt b cells e::l) w'->K (.slice (some ⟨b,0,none⟩) n n) w'):zm z ps e n w K:=⟨cells,hc,h _ _ hS.new⟩
def WR{z:Ξ}{gb n c:Nat}{e:Ι}{kl kc:IntKind}{K:Ε->Ζ->Prop}(hS:SL W l w)(h1:n<=c)(h2:gb*c<=281474976710656)(h3:c<9223372036854775808)
  (h:∀b w',SL W (.pt b (bE z c) e::l) w'->K (.slice (some ⟨b,0,none⟩) n c) w'):Bs z gb e (.int kl (n:Int)) (.int kc (c:Int)) w K:=⟨n,c,kl,kc,rfl,rfl,h1,h2,h3,h _ _ hS.new⟩
def yl{K:Ζ->Prop}(hS:SL W l w)(h:∀w',SL W l w'->K w'):zi w K:=h _ hS.drew
def app:List Chunk->List Chunk->List Chunk
 | [],F=>F
 | c::r,F=>c::app r F
def BN:∀(p F:List Chunk),app p F=p++F
 | [],_=>rfl
 | c::r,F=>by rw[app,BN r F];rfl
def SL.take{p F:List Chunk}(h:SL W l w)(k:fK p l F):SL W (app p F) w:=by rw[BN];exact h.pick k
def Spec(P:Program)(f:FuncId)(args:Ξ)(pre:List Chunk)(Q:Ε->List Chunk->Prop):Prop:=
 ∀W F w,SL W (app pre F) w->zJ P f args w λv w'=>∃post,Q v post/\SL W (app post F) w'
def Enzz{P:Program}{f:FuncId}{args:Ξ}{pre:List Chunk}{Q:Ε->List Chunk->Prop}{l:List Chunk->List Chunk}{G:Ζ->List Chunk->Ζ->Prop}(k:∀W F w,SL W (l F) w->G W F w)(h:(∀W F w,SL W (l F) w->G W F w)->Spec P f args pre Q:=by
 intro kk W F w hS
 (try simp only[app]at hS)
 exact kk W F w hS):Spec P f args pre Q:=h k
def yF{P:Program}{f:FuncId}{args:Ξ}{pre F:List Chunk}{Q:Ε->List Chunk->Prop}{K:Ε->Ζ->Prop}(c:Spec P f args pre Q)(hS:SL W l w)(p:fK pre l F)
  (h:∀v post,Q v post->∀w',SL W (app post F) w'->K v w'):zJ P f args w K:=
 (c W F w (hS.take p)).mono λv w' ⟨post,hq,hs⟩=>h v post hq w' hs
def yE{P:Program}{T:List Bool}{f:FuncId}{first captured:Array Ε}{args args':Ξ}{pre F:List Chunk}{Q:Ε->List Chunk->Prop}{K:Ε->Ζ->Prop}(hT:T.getD f false=true)(c:Spec P f args' pre Q)
  (ha:first.toList++args++captured.toList=args') (hS:SL W l w) (p:fK pre l F)
  (h:∀v post,Q v post->∀w',SL W (app post F) w'->K v w'):zU P T (.func (.func f) first captured) args w K:=
 ⟨f,first,captured,rfl,hT,by rw[ha];exact yF c hS p h⟩
def Spec.mono{P:Program}{f:FuncId}{args:Ξ}{pre:List Chunk}{Q Q':Ε->List Chunk->Prop}(h:Spec P f args pre Q)(hq:∀v post,Q v post->Q' v post):Spec P f args pre Q':=
 λW F w hS=>(h W F w hS).mono λv w' ⟨post,hp,hs⟩=>⟨post,hq v post hp,hs⟩
def bA(u:Ε)(q:List Chunk):Ε->List Chunk->Prop:=λv post=>v=u/\post=q
inductive jk:List Chunk->List Chunk->Prop where
 | refl {l:List Chunk}:jk l l
 | cons {c:Chunk} {t l l':List Chunk} (h:eW c l l') (k:jk t l'):jk (c::t) l
 | drop {d:Chunk} {t l:List Chunk} (k:jk t l):jk t (d::l)
def jk.spec{t l:List Chunk}(k:jk t l):∃r,l.Perm (t++r):=by
 induction k with
 | refl=>exact⟨[],by simp⟩
 | cons h _ ih=>obtain⟨r,p⟩:=ih;exact⟨r,h.perm.trans (p.cons _)⟩
 | @drop d t l _ ih=>obtain⟨r,p⟩:=ih;exact⟨d::r,(p.cons d).trans vvv.symm⟩
def SL.Sg:∀{r t:List Chunk} {w:Ζ},SL W (t++r) w->SL W t w
 | [],t,w,h=>by simpa using h
 | c::r,t,w,h=>SL.Sg (r:=r) (SL.drop (c:=c) (h.perm vvv))
def SL.bo{t:List Chunk}(h:SL W l w)(k:jk t l):SL W t w:=by
 obtain⟨r,p⟩:=k.spec;exact (h.perm p).Sg
def QX{α:Type}{a:α}{p:Prop}(h:p):a=a/\p:=⟨rfl,h⟩
end
class gP (P:Prop) (Q:outParam Prop):Prop where
 h:Q->P
def Q0{P Q:Prop}[i:gP P Q](h:Q):P:=i.h h
section
variable {K:Ε->Prop}
instance {a:Addr}:gP (qd (.pointer (some a)) K) (K (.pointer (some a))):=⟨bxr⟩
instance {a b:Ε}:gP (ze 0 (.tuple #[a,b]) K) (K a):=⟨bw2⟩
instance {a b:Ε}:gP (ze 1 (.tuple #[a,b]) K) (K b):=⟨bw3⟩
instance {a b c:Ε}:gP (ze 0 (.tuple #[a,b,c]) K) (K a):=⟨bw4⟩
instance {a b c:Ε}:gP (ze 1 (.tuple #[a,b,c]) K) (K b):=⟨bw5⟩
instance {a b c:Ε}:gP (ze 2 (.tuple #[a,b,c]) K) (K c):=⟨bw6⟩
instance {a b c d:Ε}:gP (ze 0 (.tuple #[a,b,c,d]) K) (K a):=⟨bw7⟩
instance {a b c d:Ε}:gP (ze 1 (.tuple #[a,b,c,d]) K) (K b):=⟨bw8⟩
instance {a b c d:Ε}:gP (ze 2 (.tuple #[a,b,c,d]) K) (K c):=⟨bw9⟩
instance {a b c d:Ε}:gP (ze 3 (.tuple #[a,b,c,d]) K) (K d):=⟨bxa⟩
instance {b o off:Nat}:gP (zk off (.pointer (some ⟨b,o,none⟩)) K) (K (.pointer (some ⟨b,o+off,none⟩))):=⟨yI⟩
instance {a:Option Addr} {n c:Nat}:gP (zd (.slice a n c) K) (K (Γ n)):=⟨yg⟩
instance {s:Η}:gP (zS (.string s) K) (K (Γ s.size)):=⟨Y4⟩
instance {k:IntKind} {a b:Int}:gP (zc .eql (.int k a) (.int k b) K) (K (.bool (decide (a=b)))):=⟨WO⟩
instance {k:IntKind} {a b:Int}:gP (zc .neq (.int k a) (.int k b) K) (K (.bool (decide (a≠b)))):=⟨A9⟩
instance {k:IntKind} {a b:Int}:gP (zc .lss (.int k a) (.int k b) K) (K (.bool (decide (a<b)))):=⟨Dt⟩
instance {k:IntKind} {a b:Int}:gP (zc .leq (.int k a) (.int k b) K) (K (.bool (decide (a<=b)))):=⟨bxh⟩
instance {k:IntKind} {a b:Int}:gP (zc .gtr (.int k a) (.int k b) K) (K (.bool (decide (b<a)))):=⟨Kg⟩
instance {k:IntKind} {a b:Int}:gP (zc .geq (.int k a) (.int k b) K) (K (.bool (decide (b<=a)))):=⟨bxb⟩
instance {a b:Η}:gP (zc .eql (.string a) (.string b) K) (K (.bool (decide (a=b)))):=⟨bw1⟩
instance {a b:Η}:gP (zc .neq (.string a) (.string b) K) (K (.bool (decide (a≠b)))):=⟨bxq⟩
instance {a b:Bool}:gP (HEq .bool false (.bool a) (.bool b) K) (K (.bool (decide (a=b)))):=⟨bw0⟩
instance {a b:Bool}:gP (HEq .bool true (.bool a) (.bool b) K) (K (.bool (decide (a≠b)))):=⟨bxp⟩
instance {t:Ι} {a:Option Addr}:gP (HEq (.pointer t) false (.pointer a) (.pointer none) K) (K (.bool a.isNone)):=⟨Yc⟩
instance {t:Ι} {a:Option Addr}:gP (HEq (.pointer t) true (.pointer a) (.pointer none) K) (K (.bool a.isSome)):=⟨Kh⟩
instance {b:Bool}:gP (y7 (.bool b) K) (K (.bool !b)):=⟨z7⟩
instance {k:IntKind} {a b:Int}:gP (ZW (.int k a) (.int k b) K) (K (.int k (min a b))):=⟨bxn⟩
instance {k:IntKind} {a b:Int}:gP (y6 (.int k a) (.int k b) K) (K (.int k (max a b))):=⟨bxm⟩
instance {A B:Prop}:gP (cB (.bool true) A B) A:=⟨zu⟩
instance {A B:Prop}:gP (cB (.bool false) A B) B:=⟨zq⟩
instance {α:Type} {a:α} {p:Prop}:gP (a=a/\p) p:=⟨QX⟩
end
class xF (op:BinOp) (x y:Ε) (z:outParam Ε) (c:outParam Prop):Prop where
 h:∀{K:Ε->Prop},c->K z->zc op x y K
instance (priority:=high) {a:Nat}:xF .add (Γ (a:Int)) (Γ 1) (Γ ((a+1:Nat):Int)) (a+1<=9223372036854775807):=⟨QS⟩
instance {a b:Nat}:xF .add (Γ (a:Int)) (Γ (b:Int)) (Γ ((a+b:Nat):Int)) (a+b<=9223372036854775807):=⟨Zy⟩
instance (priority:=low) {a b:Int}:xF .add (Γ a) (Γ b) (Γ (a+b)) (-9223372036854775808<=a+b/\a+b<=9223372036854775807):=⟨Kf⟩
instance {k:IntKind} {a b:Nat}:xF .rem (.int k (a:Int)) (.int k (b:Int)) (.int k ((a % b:Nat):Int)) (0<b):=⟨QW⟩
instance {a b:Int}:xF .sub (Γ a) (Γ b) (Γ (a-b)) (-9223372036854775808<=a-b/\a-b<=9223372036854775807):=⟨bx1⟩
section
variable {W w:Ζ} {l l' p F:List Chunk} {c d:Chunk}
def Qb{op:BinOp}{x y z:Ε}{c:Prop}{K:Ε->Prop}[i:xF op x y z c](h:K z)(hc:c:=by omega):zc op x y K:=i.h hc h
def Xh(h:Has c l:=by (repeat (first|exact Has.hd|apply Has.tl))):Has c l:=h
def Xu(h:fg c d l l':=by (repeat (first|exact fg.hd|apply fg.tl))):fg c d l l':=h
def Xr(h:eW c l l':=by (repeat (first|exact eW.hd|apply eW.tl))):eW c l l':=h
def Xp(h:fK p l F:=by (repeat (first|(with_reducible exact fK.nil)|((with_reducible apply fK.cons);(focus ((repeat (first|(with_reducible exact eW.hd)|(with_reducible apply eW.tl)));done)))))):fK p l F:=h
def Xi(h:jk p l:=by ((try simp only[app]);repeat (first|(with_reducible exact jk.refl)|((with_reducible apply jk.cons);(focus ((repeat (first|(with_reducible exact eW.hd)|(with_reducible apply eW.tl)));done)))|(with_reducible apply jk.drop)))):jk p l:=h
def aR{W w:Ζ}{p l:List Chunk}(x:SL W l w)(h:jk p l:=by ((try simp only[app]);repeat (first|(with_reducible exact jk.refl)|((with_reducible apply jk.cons);(focus ((repeat (first|(with_reducible exact eW.hd)|(with_reducible apply eW.tl)));done)))|(with_reducible apply jk.drop)))):SL W p w:=SL.bo x h
def bw{W w:Ζ}{u:Ε}{q l F:List Chunk}(x:SL W l w)(h:jk (app q F) l:=by ((try simp only[app]);repeat (first|(with_reducible exact jk.refl)|((with_reducible apply jk.cons);(focus ((repeat (first|(with_reducible exact eW.hd)|(with_reducible apply eW.tl)));done)))|(with_reducible apply jk.drop)))):∃y,bA u q u y/\SL W (app y F) w:=⟨_,⟨rfl,rfl⟩,SL.bo x h⟩
def Qa{b o:Nat}{cs:Ξ}{t:Ι}{v:Ε}{K:Ε->Prop}(hS:SL W l w)(h:K v)(m:Has (.pt b cs t) l:=by (with_unfolding_all (repeat (first|exact Has.hd|apply Has.tl))))(hv:cs[o]?=some v:=by (with_unfolding_all rfl)):bu (.pointer (some ⟨b,o,none⟩)) w K:=zV hS m hv h
def Qc{b n:Nat}{cs:Ξ}{t:Ι}{K:Ε->Prop}(hS:SL W l w)(h:K (.agg cs.toArray))(m:Has (.pt b cs t) l:=by (with_unfolding_all (repeat (first|exact Has.hd|apply Has.tl))))(hn:cs.length=n:=by (with_unfolding_all rfl)):zf n (Δ b) w K:=zz hS m hn h
def Qd{z cells:Ξ}{ps:List (Nat × Nat × Ε)}{K:Ε->Prop}(h:K (.agg cells.toArray))(hc:gT z ps=some cells:=by (with_unfolding_all (simp[gT,Value.cells];rfl))):zo z ps K:=yW hc h
def Qe{b o:Nat}{cs:Ξ}{t:Ι}{v u:Ε}{K:Ζ->Prop}(hS:SL W l w)(h:∀w',SL W l' w'->K w')(m:fg (.pt b cs t) (.pt b (cs.set o v) t) l l':=by (with_unfolding_all (repeat (first|exact fg.hd|apply fg.tl))))(hu:cs[o]?=some u:=by (with_unfolding_all rfl))(h1:v.oneCell'=true:=by (with_unfolding_all (first|rfl|assumption))):
  dj (.pointer (some ⟨b,o,none⟩)) v w K:=ZA hS m hu h1 h
def Qf{b n:Nat}{cs vs:Ξ}{t:Ι}{K:Ζ->Prop}(hS:SL W l w)(h:∀w',SL W l' w'->K w')(m:fg (.pt b cs t) (.pt b vs t) l l':=by (with_unfolding_all (repeat (first|exact fg.hd|apply fg.tl))))(hn:vs.length=n:=by (with_unfolding_all rfl))(hc:cs.length=n:=by (with_unfolding_all rfl))(h1:vs.all Value.oneCell'=true:=by (with_unfolding_all rfl)):
  zj n (Δ b) (.agg vs.toArray) w K:=zr hS m hn hc (zz7.1 h1) h
def SC{z cs:Ξ}{n:Nat}(hc:cs.length=n)(hz:z.length=n):gT (bE z 1) [(0,n,.agg cs.toArray)]=some cs:=by
 subst hc;simp[gT,bE,Value.cells,hz]
def Qh{z cs:Ξ}{e:Ι}{n:Nat}{K:Ε->Ζ->Prop}(hS:SL W l w)
  (h:∀b w',SL W (.pt b cs e::l) w'->K (.slice (some ⟨b,0,none⟩) 1 1) w') (hc:cs.length=n:=by (with_unfolding_all rfl)) (hz:z.length=n:=by (with_unfolding_all rfl)):zm (bE z 1) [(0,n,.agg cs.toArray)] e 1 w K:=zR hS (SC hc hz) h
def Qg{z cells:Ξ}{ps:List (Nat × Nat × Ε)}{e:Ι}{n:Nat}{K:Ε->Ζ->Prop}(hS:SL W l w)
  (h:∀b w',SL W (.pt b cells e::l) w'->K (.slice (some ⟨b,0,none⟩) n n) w') (hc:gT z ps=some cells:=by (with_unfolding_all (simp[gT,Value.cells,bE];rfl))):zm z ps e n w K:=zR hS hc h
end
structure Wr(Q:Prop):Prop where
 h:Q
def Gp{P Q:Prop}(k:Q) (h:Wr Q->P:=by
 intro kk
 (with_reducible first|apply Q0|refine Qa hS ?_|refine Qb ?_|refine Qc hS ?_|refine Qd ?_)
 repeat (with_reducible first|apply Q0|refine Qa hS ?_|refine Qb ?_|refine Qc hS ?_|refine Qd ?_)
 exact kk.h):P:=h ⟨k⟩
def bj{P p A B:Prop}{i:Decidable p}(x:p->A)(y:¬p->B)(h:Wr (cB (.bool (decide p)) A B)->P:=by
 intro kk
 (with_reducible first|apply Q0|refine Qa hS ?_|refine Qb ?_|refine Qc hS ?_|refine Qd ?_)
 repeat (with_reducible first|apply Q0|refine Qa hS ?_|refine Qb ?_|refine Qc hS ?_|refine Qd ?_)
 exact kk.h):P:=h (.mk (za x y))
def Gw{W:Ζ}{l:List Chunk}{P:Prop}{G:Ζ->Prop}(k:∀w,SL W l w->G w) (h:(∀w,SL W l w->G w)->P:=by
 intro kk;first
  | ((with_reducible refine Qe hS ?_);intro w hS;simp only[List.set]at hS)
  | ((with_reducible first|refine yl hS ?_|refine Qf hS ?_);intro w hS)
 repeat (first
  | (with_reducible first|apply Q0|refine Qa hS ?_|refine Qb ?_|refine Qc hS ?_|refine Qd ?_)
  | ((with_reducible refine Qe hS ?_);intro w hS;simp only[List.set]at hS)
  | ((with_reducible first|refine yl hS ?_|refine Qf hS ?_);intro w hS))
 exact kk w hS):P:=h k
def Gb{W:Ζ}{l:Nat->List Chunk}{P:Prop}{G:Nat->Ζ->Prop}(k:∀b w,SL W (l b) w->G b w) (h:(∀b w,SL W (l b) w->G b w)->P:=by
 intro kk
 (with_reducible first|refine zD hS ?_|refine Qh hS ?_|refine Qg hS ?_)
 intro b w hS;repeat (first
  | (with_reducible first|apply Q0|refine Qa hS ?_|refine Qb ?_|refine Qc hS ?_|refine Qd ?_)
  | ((with_reducible refine Qe hS ?_);intro w hS;simp only[List.set]at hS)
  | ((with_reducible first|refine yl hS ?_|refine Qf hS ?_);intro w hS))
 exact kk b w hS):P:=h k
def Gn{W:Ζ}{l:List Chunk}{P:Prop}{G:Ζ->Prop}(k:∀w,SL W l w->G w) (h:(∀w,SL W l w->G w)->P:=by
 intro kk;try simp only[app]at hS
 repeat (first
  | (with_reducible first|apply Q0|refine Qa hS ?_|refine Qb ?_|refine Qc hS ?_|refine Qd ?_)
  | ((with_reducible refine Qe hS ?_);intro w hS;simp only[List.set]at hS)
  | ((with_reducible first|refine yl hS ?_|refine Qf hS ?_);intro w hS))
 exact kk w hS):P:=h k
def Gm{W:Ζ}{l:Nat->List Chunk}{P:Prop}{G:Nat->Ζ->Prop}(k:∀b w,SL W (l b) w->G b w) (h:(∀b w,SL W (l b) w->G b w)->P:=by
 intro kk;try simp only[app]at hS
 repeat (first
  | (with_reducible first|apply Q0|refine Qa hS ?_|refine Qb ?_|refine Qc hS ?_|refine Qd ?_)
  | ((with_reducible refine Qe hS ?_);intro w hS;simp only[List.set]at hS)
  | ((with_reducible first|refine yl hS ?_|refine Qf hS ?_);intro w hS))
 (with_reducible first|refine zD hS ?_|refine Qh hS ?_|refine Qg hS ?_)
 intro b w hS;repeat (first
  | (with_reducible first|apply Q0|refine Qa hS ?_|refine Qb ?_|refine Qc hS ?_|refine Qd ?_)
  | ((with_reducible refine Qe hS ?_);intro w hS;simp only[List.set]at hS)
  | ((with_reducible first|refine yl hS ?_|refine Qf hS ?_);intro w hS))
 exact kk b w hS):P:=h k
def Cc{W w:Ζ}{l pre F:List Chunk}{P:Program}{f:FuncId}{args:Ξ}{Q:Ε->List Chunk->Prop}{K:Ε->Ζ->Prop}(c:Spec P f args pre Q)(h:∀v post,Q v post->∀w',SL W (app post F) w'->K v w')
  (hs:SL W l w:=by exact hS) (p:fK pre l F:=by (repeat (first|(with_reducible exact fK.nil)|((with_reducible apply fK.cons);(focus ((repeat (first|(with_reducible exact eW.hd)|(with_reducible apply eW.tl)));done)))))):zJ P f args w K:=yF c hs p h
def Cg{W w:Ζ}{l l' pre q F:List Chunk}{P:Program}{f:FuncId}{args:Ξ}{u:Ε}{K:Ε->Ζ->Prop}{G:Ζ->Prop}(c:Spec P f args pre (bA u q))(k:∀w,SL W l' w->G w)
  (hs:SL W l w:=by exact hS) (p:fK pre l F:=by (repeat (first|(with_reducible exact fK.nil)|((with_reducible apply fK.cons);(focus ((repeat (first|(with_reducible exact eW.hd)|(with_reducible apply eW.tl)));done))))))
  (e:(∀w,SL W l' w->G w)->∀w,SL W (app q F) w->K u w:=by
   intro kk w hS;try simp only[app]at hS
   repeat (first
    | (with_reducible first|apply Q0|refine Qa hS ?_|refine Qb ?_|refine Qc hS ?_|refine Qd ?_)
    | ((with_reducible refine Qe hS ?_);intro w hS;simp only[List.set]at hS)
    | ((with_reducible first|refine yl hS ?_|refine Qf hS ?_);intro w hS))
   exact kk w hS):zJ P f args w K:=yF c hs p λv post ⟨h1,h2⟩ w' hw=>by subst h1 h2;exact e k w' hw
def bd(v:Ε)(t:Ι)(sz n:Nat)(cells:Ξ):zC:=iX λx:Option (Nat × Nat × Ξ)=>match x with
 | none=>zF ((∃a,v= .slice a 0 0)/\n=0/\cells=[]) []
 | some (b,cap,rest)=>zF (v= .slice (some ⟨b,0,none⟩) n cap/\n<=cap/\cells.length=n*sz/\rest.length=(cap-n)*sz) [.pt b (cells++rest) t]
section
variable {W w:Ζ} {l:List Chunk}
def bd.open{v:Ε}{t:Ι}{sz n:Nat}{cells:Ξ}(h:SL W (.ob (bd v t sz n cells)::l) w):
  ((∃a,v= .slice a 0 0)/\n=0/\cells=[]/\SL W l w)\/∃b cap rest,v= .slice (some ⟨b,0,none⟩) n cap/\n<=cap/\cells.length=n*sz/\rest.length=(cap-n)*sz/\SL W (.pt b (cells++rest) t::l) w:=by
 unfold bd at h;obtain⟨x,h⟩:=SL.ex.1 h
 match x,h with
 | none,h=>
  obtain⟨⟨h1,h2,h3⟩,h⟩:=SL.fact.1 h
  grind
 | some (b,cap,rest),h=>
  obtain⟨⟨h1,h2,h3,h4⟩,h⟩:=SL.fact.1 h
  grind
def bd.nil{t:Ι}{sz:Nat}(h:SL W l w):SL W (.ob (bd Θ t sz 0 [])::l) w:=by
 unfold bd;exact SL.ex.2 ⟨none,SL.fact.2 ⟨⟨⟨_,rfl⟩,rfl,rfl⟩,h⟩⟩
def bd.p5{a:Option Addr}{t:Ι}{sz:Nat}(h:SL W l w):SL W (.ob (bd (.slice a 0 0) t sz 0 [])::l) w:=by
 unfold bd;exact SL.ex.2 ⟨none,SL.fact.2 ⟨⟨⟨_,rfl⟩,rfl,rfl⟩,h⟩⟩
def bd.mk{b n cap:Nat}{t:Ι}{sz:Nat}{cells rest:Ξ}(h1:n<=cap)(h2:cells.length=n*sz)(h3:rest.length=(cap-n)*sz)(h:SL W (.pt b (cells++rest) t::l) w):
  SL W (.ob (bd (.slice (some ⟨b,0,none⟩) n cap) t sz n cells)::l) w:=by
 unfold bd;exact SL.ex.2 ⟨some (b,cap,rest),SL.fact.2 ⟨⟨rfl,h1,h2,h3⟩,h⟩⟩
def bd.full{b n:Nat}{t:Ι}{sz:Nat}{cells:Ξ}(h2:cells.length=n*sz)(h:SL W (.pt b cells t::l) w):SL W (.ob (bd (.slice (some ⟨b,0,none⟩) n n) t sz n cells)::l) w:=
 bd.mk (rest:=[]) (zzj _) h2 (by simp) (by simpa using h)
def Xj{b o m cap sz:Nat}{cs nX:Ξ}{t:Ι}(hS:SL W l w)(hm:Has (.pt b nX t) l)(hl:cs.length=m*sz)(hc:∀j v,cs[j]?=some v->nX[o+j]?=some v):jw w sz (.slice (some ⟨b,o,none⟩) m cap) m cs:=
 ⟨rfl,hl,λj v e=>by rw[zz9];exact hS.cell hm (hc j v e)⟩
def jx{b m cap sz:Nat}{cs:Ξ}{t:Ι}(hS:SL W l w)(hm:Has (.pt b cs t) l)(hl:cs.length=m*sz):jw w sz (.slice (some ⟨b,0,none⟩) m cap) m cs:=
 Xj hS hm hl λj v e=>by rw[yyd];exact e
def bzw{s:Η}:jw w 1 (.string s) s.size (s.data.toList.map λb=>.int .u8 b.toNat):=⟨rfl,rfl⟩
theorem We{cells rest cs:Ξ}:cs.length<=rest.length->over (cells++rest) cells.length cs=cells++cs++rest.drop cs.length:=λh=>by
 rw[A0 _ _ _ (by simp;omega)];simp
def zL{x y:Ε}{t:Ι}{sz gb n m:Nat}{z cells cs:Ξ}{F:List Chunk}{K:Ε->Ζ->Prop}(hS:SL W l w)(hr:eW (.ob (bd x t sz n cells)) l F)(gK:jw w sz y m cs)
  (hl:cs.length=m*sz) (hz:z.length=sz) (h1:∀v∈cs,v.oneCell'=true) (hb:(n+m)*gb<=140737488355328) (hn:n+m<=140737488355328)
  (h:∀v' w',SL W (.ob (bd v' t sz (n+m) (cells++cs))::F) w'->K v' w'):zt sz gb z t x y w K:=by
 rcases bd.open (hS.perm hr.perm) with ⟨⟨a,rfl⟩,rfl,rfl,fR⟩|⟨b,cap,rest,rfl,hc,hlen,iT,fR⟩
 ·refine⟨a,0,0,m,cs,rfl,gK,hb,hn,λh0=>?_,λh0=>⟨[],(by cases a with|none=>exact⟨rfl,rfl⟩|some p=>exact⟨rfl,by simp,λj v e=>by simp at e⟩),λc gf ll=>?_⟩⟩
  ·have hm:m=0:=by omega
   subst hm;have:cs=[]:=zzl (by simpa using hl);subst this;cases a with
   | none=>exact h _ _ (bd.p5 fR)
   | some p=>exact h _ _ (bd.p5 fR)
  refine h _ _ ?_;have:=bd.mk (sz:=sz) (n:=0+m) (cells:=cs) (rest:=bE z (c-(0+m))) (cap:=c) gf (by simpa using hl) (by rw[kV,hz]) (SL.new (cs:=cs++bE z (c-(0+m))) (t:=t) (fR.drew));simpa using this
 refine⟨some ⟨b,0,none⟩,n,cap,m,cs,rfl,gK,hb,hn,λh0=>?_,λh0=>?_⟩
 ·have pO:cs.length<=rest.length:=by
   rw[hl,iT];exact yy3 _ (by omega)
  show tg (Addr.add ⟨b,0,none⟩ (n*sz)) 0 cs w _;rw[zz9];refine Bb (t:=t) cs (0+n*sz) 0 (cells++rest) w (.pt b (cells++rest) t::F) _ fR .hd (by simp[hlen];omega) h1 (λw' oY=>h _ _ ?_);have e:over (cells++rest) (0+n*sz+0) cs=cells++cs++rest.drop cs.length:=by
   grind [We]
  rw[e]at oY
  exact bd.mk (n:=n+m) (cells:=cells++cs) (rest:=rest.drop cs.length) h0 (by simp[hlen,hl,yyv]) (by
   rw[zzq,iT,hl,<- wwo];congr 1;omega) oY
 refine⟨cells,⟨rfl,hlen,λj v e=>?_⟩,λc gf ll=>h _ _ ?_⟩
 ·rw[zz9];refine fR.cell .hd ?_
  grind
 exact bd.mk (n:=n+m) (cells:=cells++cs) (rest:=bE z (c-(n+m))) gf (by simp[hlen,hl,yyv]) (by rw[kV,hz]) (SL.new (fR.drop.drew))
def cn(H:a_)(sz:Nat)(v:Ε)(n:Nat)(cells:Ξ):Prop:=
 cells.length=n*sz/\∃a cap,v= .slice a n cap/\n<=cap/\(n=0\/∃b o,a=some ⟨b,o,none⟩/\∀j u,cells[j]?=some u->H.cell b (o+j)=some u)
def cn.mono{H H':a_}(hh:H.le H'){sz n:Nat}{v:Ε}{cells:Ξ}(h:cn H sz v n cells):cn H' sz v n cells:=by
 obtain⟨h1,a,cap,h2,h3,h4⟩:=h;refine⟨h1,a,cap,h2,h3,h4.imp id ?_⟩
 grind [a_.aWh]
def cn.nil(H:a_)(sz:Nat):cn H sz Θ 0 []:=⟨by simp,none,0,rfl,zzj _,.inl rfl⟩
def bd.freeze{H:a_}{v:Ε}{t:Ι}{sz n:Nat}{cells:Ξ}(h:SL W (.mem H::.ob (bd v t sz n cells)::l) w):∃H',H.le H'/\cn H' sz v n cells/\SL W (.mem H'::l) w:=by
 rcases bd.open (h.perm (.swap _ _ _)) with ⟨⟨a,rfl⟩,rfl,rfl,hS⟩|⟨b,cap,rest,rfl,hc,hlen,iT,hS⟩
 ·exact⟨H,a_.le_refl H,⟨by simp,a,0,rfl,zzj _,.inl rfl⟩,hS⟩
 obtain⟨H',h1,h2,h3⟩:=SL.freeze (hS.perm (.swap _ _ _));refine⟨H',h1,⟨hlen,_,cap,rfl,hc,.inr ⟨b,0,rfl,λj u hu=>?_⟩⟩,h3⟩
 grind
def cn.one{H:a_}{sz n:Nat}{v:Ε}{cells:Ξ}(h:cn H sz v n cells):v.oneCell'=true:=by
 obtain⟨_,a,cap,rfl,_,_⟩:=h;rfl
def Kl{H:a_}{y:Ε}{sz m:Nat}{cs:Ξ}(hS:SL W l w)(hm:Has (.mem H) l)(h:cn H sz y m cs):jw w sz y m cs:=by
 obtain⟨h1,a,cap,rfl,h3,h4⟩:=h;cases a with
 | none=>
  rcases h4 with rfl|⟨b,o,h5,_⟩
  ·exact⟨rfl,zzl (by simpa using h1)⟩
  cases h5
 | some p=>
  refine⟨rfl,h1,λj v e=>?_⟩;rcases h4 with rfl|⟨b,o,h5,h6⟩
  ·grind
  cases h5;rw[zz9];exact hS.JB hm (h6 j v e)
def zn{H:a_}{v:Ε}{sz n:Nat}{cells:Ξ}{K:Ε->Prop}(h:cn H sz v n cells)(k:K (Γ n)):zd v K:=by
 obtain⟨_,a,cap,rfl,_,_⟩:=h;exact yg k
def Y3{H:a_}{v:Ε}{sz n j:Nat}{k:IntKind}{cells:Ξ}{K:Ε->Prop}(h:cn H sz v n cells)(hj:j<n)
  (hK:∀b o,(∀i u,i<sz->cells[j*sz+i]?=some u->H.cell b (o+i)=some u)->K (.pointer (some ⟨b,o,none⟩))):zl sz v (.int k (j:Int)) K:=by
 obtain⟨_,a,cap,rfl,_,h4⟩:=h
 grind [zI]
def yA{H:a_}{v u:Ε}{n j:Nat}{k:IntKind}{cells:Ξ}{K:Ε->Prop}(hS:SL W l w)(hm:Has (.mem H) l)(h:cn H 1 v n cells)(hj:j<n)(hu:cells[j]?=some u)(hK:K u):
  zl 1 v (.int k (j:Int)) λp=>bu p w K:=
 Y3 h hj λb o hb=>F7 hS hm (hb 0 u (by omega) (by simpa using hu)) hK
end
