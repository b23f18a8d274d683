/- Part. -/
import Derived.Test.YtgfbifafbkkghaaGreatDoorQEng10
namespace Go.Proofs.YtgfbifafbkkghaaGreatDoor
set_option linter.all false
open Go.RowKit
def yyq:=@decide_eq_false_iff_not
def uub:=@Array.getElem?_modify
def zz7:=@Addr.add_lit
def ww3:=@Nat.add_assoc
def yyt:=@List.drop_eq_nil_of_le
def wwd:=@Nat.add_zero
def zzl:=@of_decide_eq_true
def yyj:=@of_decide_eq_false
def xx1:=@Int.tmod_eq_emod_of_nonneg
def vvn:=@List.perm_middle
def yy4:=@Nat.mul_le_mul_right
def zz0:=@List.length_drop
def xx6:=@Nat.mul_sub_right_distrib
abbrev aX:=Nat->Option Obj
abbrev zw:=aX->Prop
def aX.emp:aX:=λ_=>none
def aX.one(b:Nat)(o:Obj):aX:=λk=>if k=b then some o else none
def Sep(h h1 h2:aX):Prop:=∀b,(h1 b=none/\h b=h2 b)\/(h2 b=none/\h b=h1 b)
def aX.le(h k:aX):Prop:=∀b o,h b=some o->k b=some o
def Sep.symm{h h1 h2:aX}(s:Sep h h1 h2):Sep h h2 h1:=λb=>(s b).symm
def Sep.left{h h1 h2:aX}(s:Sep h h1 h2):h1.le h:=λb o e=>by
 rcases s b with ⟨a,c⟩|⟨a,c⟩
 ·rw[a]at e;cases e
 rw[c,e]
def Sep.right{h h1 h2:aX}(s:Sep h h1 h2):h2.le h:=s.symm.left
def Sep.emp(h:aX):Sep h aX.emp h:=λb=>.inl ⟨rfl,rfl⟩
def Sep.WW{h h1:aX}(s:Sep h aX.emp h1):h=h1:=funext λb=>by
 rcases s b with ⟨_,c⟩|⟨a,c⟩
 ·exact c
 rw[c,a];rfl
def Sep.swap{h h1 h2 h3 h4:aX}(s:Sep h h1 h2)(t:Sep h2 h3 h4):∃k,Sep h h3 k/\Sep k h1 h4:=by
 refine⟨λb=>(h1 b).or (h4 b),λb=>?_,λb=>?_⟩
 ·rcases s b with ⟨a,c⟩|⟨a,c⟩<;>rcases t b with ⟨d,e⟩|⟨d,e⟩<;>simp_all
 rcases s b with ⟨a,c⟩|⟨a,c⟩<;>rcases t b with ⟨d,e⟩|⟨d,e⟩<;>simp_all
def Sep.assoc{h h1 h2 h3 h4:aX}(s:Sep h h1 h2)(t:Sep h1 h3 h4):∃k,Sep h h3 k/\Sep k h4 h2:=by
 obtain⟨k,a,b⟩:=s.symm.swap t;exact⟨k,a,b.symm⟩
def Sep.join{h h1 h2 h3 k:aX}(s:Sep h h3 k)(t:Sep k h1 h2):∃k',Sep h k' h2/\Sep k' h3 h1:=by
 obtain⟨k',a,b⟩:=s.swap t.symm;exact⟨k',a.symm,b⟩
inductive Chunk where
 | pt (b:Nat) (cs:Ξ) (t:Ι)
 | mp (b:Nat) (es:List MapEntry) (clock:Nat)
 | mem (H:aX)
 | ob (A:zw)
def OR(n:Nat)(f:Nat × Nat):Prop:=f.1=f.2\/n<=f.1
def Chunk.holds:Chunk->zw
 | .pt b cs t=>λh=>∃f,OR cs.length f/\h=aX.one b (.cells cs.toArray t f)
 | .mp b es c=>λh=>h=aX.one b (.map es.toArray c)
 | .mem H=>λh=>h=H
 | .ob A=>A
def star:List Chunk->zw
 | [],h=>h=aX.emp
 | c::l,h=>∃h1 h2,Sep h h1 h2/\c.holds h1/\star l h2
structure SL(W:Ζ)(l:List Chunk)(w:Ζ):Prop where
 os:w.os=W.os
 tape:w.tape=W.tape
 output:w.output=W.output
 out:∃h:aX,star l h/\∀b o,h b=some o->w.heap[b]?=some o
def aFl{A B:Chunk}{l:List Chunk}{h:aX}(s:star (A::B::l) h):star (B::A::l) h:=by
 obtain⟨h1,h2,s1,a,h3,h4,s2,b,r⟩:=s;obtain⟨k,x,y⟩:=s1.swap s2;exact⟨h3,k,x,b,h1,h4,y,a,r⟩
def aFk{l l':List Chunk}(p:l.Perm l'):∀{h:aX},star l h->star l' h:=by
 induction p with
 | nil=>exact λs=>s
 | cons x _ ih=>rintro h ⟨h1,h2,s,a,r⟩;exact⟨h1,h2,s,a,ih r⟩
 | swap x y l=>exact λs=>aFl s
 | trans _ _ i j=>exact λs=>j (i s)
def SL.perm{W:Ζ}{l l':List Chunk}{w:Ζ}(h:SL W l w)(p:l.Perm l'):SL W l' w:=
 ⟨h.os,h.tape,h.output,let ⟨k,s,m⟩:=h.out;⟨k,aFk p s,m⟩⟩
def Ox{l l':List Chunk}:∀{h:aX},star (l++l') h↔∃h1 h2,Sep h h1 h2/\star l h1/\star l' h2:=by
 induction l with
 | nil=>
  intro h;constructor
  ·intro s;exact⟨aX.emp,h,Sep.emp h,rfl,s⟩
  rintro ⟨h1,h2,s,rfl,t⟩;rw[s.WW];exact t
 | cons c l ih=>
  intro h;constructor
  ·rintro ⟨h1,h2,s,a,r⟩;obtain⟨h3,h4,t,b,d⟩:=ih.1 r;obtain⟨k,x,y⟩:=s.join t;exact⟨k,h4,x,⟨h1,h3,y,a,b⟩,d⟩
  rintro ⟨h1,h2,s,⟨h3,h4,t,a,b⟩,d⟩;obtain⟨k,x,y⟩:=s.assoc t;exact⟨h3,k,x,a,ih.2 ⟨h4,h2,y,b,d⟩⟩
section
variable {W w:Ζ} {l:List Chunk}
def SL.drop{c:Chunk}(h:SL W (c::l) w):SL W l w:=
 ⟨h.os,h.tape,h.output,let ⟨k,⟨h1,h2,s,a,r⟩,m⟩:=h.out;⟨h2,r,λb o e=>m b o (s.right b o e)⟩⟩
def SL.conv{c:Chunk}{l1:List Chunk}(h:SL W (c::l) w)(f:∀k,c.holds k->star l1 k):SL W (l1++l) w:=
 ⟨h.os,h.tape,h.output,let ⟨k,⟨h1,h2,s,a,r⟩,m⟩:=h.out;⟨k,Ox.2 ⟨h1,h2,s,f _ a,r⟩,m⟩⟩
def SL.fold{c:Chunk}{l1:List Chunk}(h:SL W (l1++l) w)(f:∀k,star l1 k->c.holds k):SL W (c::l) w:=
 ⟨h.os,h.tape,h.output,let ⟨k,s,m⟩:=h.out;let ⟨h1,h2,s,a,r⟩:=Ox.1 s;⟨k,⟨h1,h2,s,f _ a,r⟩,m⟩⟩
def gi{α:Type}(A:α->zw):zw:=λh=>∃x,A x h
def zG(p:Prop)(l:List Chunk):zw:=λh=>p/\star l h
def SL.ex{α:Type}{A:α->zw}:SL W (.ob (gi A)::l) w↔∃x,SL W (.ob (A x)::l) w:=by
 constructor
 ·rintro ⟨a,b,c,k,⟨h1,h2,s,⟨x,hx⟩,r⟩,m⟩;exact⟨x,a,b,c,k,⟨h1,h2,s,hx,r⟩,m⟩
 rintro ⟨x,a,b,c,k,⟨h1,h2,s,hx,r⟩,m⟩;exact⟨a,b,c,k,⟨h1,h2,s,⟨x,hx⟩,r⟩,m⟩
def SL.fact{p:Prop}{l1:List Chunk}:SL W (.ob (zG p l1)::l) w↔p/\SL W (l1++l) w:=by
 constructor
 ·intro h;obtain⟨k,⟨h1,h2,s,⟨hp,hx⟩,r⟩,m⟩:=h.out;exact⟨hp,h.conv (λ_ s=>s.2)⟩
 rintro ⟨hp,h⟩;exact h.fold (λ_ s=>⟨hp,s⟩)
inductive Has (c:Chunk):List Chunk->Prop where
 | hd {l:List Chunk}:Has c (c::l)
 | tl {d:Chunk} {l:List Chunk} (h:Has c l):Has c (d::l)
def Has.heap{c:Chunk}{l:List Chunk}(h:Has c l):∀{k:aX},star l k->∃h1,c.holds h1/\h1.le k:=by
 induction h with
 | hd=>rintro k ⟨h1,h2,s,a,r⟩;exact⟨h1,a,s.left⟩
 | tl _ ih=>
  rintro k ⟨h1,h2,s,a,r⟩;obtain⟨h3,b,e⟩:=ih r;exact⟨h3,b,λx o y=>s.right x o (e x o y)⟩
inductive dX (c d:Chunk):List Chunk->List Chunk->Prop where
 | hd {l:List Chunk}:dX c d (c::l) (d::l)
 | tl {e:Chunk} {l l':List Chunk} (h:dX c d l l'):dX c d (e::l) (e::l')
inductive dW (c:Chunk):List Chunk->List Chunk->Prop where
 | hd {l:List Chunk}:dW c (c::l) l
 | tl {d:Chunk} {l l':List Chunk} (h:dW c l l'):dW c (d::l) (d::l')
inductive eQ:List Chunk->List Chunk->List Chunk->Prop where
 | nil {l:List Chunk}:eQ [] l l
 | cons {c:Chunk} {p l l' F:List Chunk} (h:dW c l l') (k:eQ p l' F):eQ (c::p) l F
def dW.perm{c:Chunk}{l l':List Chunk}(h:dW c l l'):l.Perm (c::l'):=by
 induction h with
 | hd=>exact .refl _
 | tl _ ih=>exact (ih.cons _).trans (.swap _ _ _)
def eQ.perm{p l F:List Chunk}(h:eQ p l F):l.Perm (p++F):=by
 induction h with
 | nil=>exact .refl _
 | cons r _ ih=>exact r.perm.trans (ih.cons _)
def SL.pick{p F:List Chunk}(h:SL W l w)(k:eQ p l F):SL W (p++F) w:=h.perm k.perm
def SL.mO{b:Nat}{cs:Ξ}{t:Ι}(h:SL W l w)(m:Has (.pt b cs t) l):∃f,OR cs.length f/\w.heap[b]?=some (.cells cs.toArray t f):=by
 obtain⟨k,s,x⟩:=h.out;obtain⟨h1,⟨f,hf,rfl⟩,le⟩:=m.heap s;exact⟨f,hf,x b _ (le b _ (by simp[aX.one]))⟩
def SL.cell{b o:Nat}{cs:Ξ}{t:Ι}{v:Ε}(h:SL W l w)(m:Has (.pt b cs t) l)(hv:cs[o]?=some v):w.cell? ⟨b,o,none⟩=some v:=by
 obtain⟨f,_,e⟩:=h.mO m;simp[World.cell?,e,hv]
def SL.frozen{b o:Nat}{cs:Ξ}{t:Ι}{v:Ε}(h:SL W l w)(m:Has (.pt b cs t) l)(hv:cs[o]?=some v):w.frozen? ⟨b,o,none⟩=false:=by
 obtain⟨f,hf,e⟩:=h.mO m;have cA:=(zzf.1 hv).1;obtain⟨x,y⟩:=f;simp only[World.frozen?,e];rcases hf with hf|hf
 ·simp only[Bool.and_eq_false_iff,yyq];simp only at hf;omega
 simp only[Bool.and_eq_false_iff,yyq];simp only at hf;omega
def aX.cell(H:aX)(b o:Nat):Option Ε:=match H b with
 | some (.cells c _ _)=>c[o]?
 | _=>none
def SL.Ay{H:aX}{b o:Nat}{v:Ε}(h:SL W l w)(m:Has (.mem H) l)(hv:H.cell b o=some v):w.cell? ⟨b,o,none⟩=some v:=by
 obtain⟨k,s,x⟩:=h.out;obtain⟨h1,rfl,le⟩:=m.heap s;unfold aX.cell at hv;split at hv
 ·rename_i c t f e;have:=x b _ (le b _ e);simp[World.cell?,this,hv]
 cases hv
def dX.perm{c d:Chunk}{l l':List Chunk}(u:dX c d l l'):∃r,l.Perm (c::r)/\l'.Perm (d::r):=by
 induction u with
 | hd=>exact⟨_,.refl _,.refl _⟩
 | tl _ ih=>
  obtain⟨r,p,q⟩:=ih;exact⟨_::r,(p.cons _).trans (.swap _ _ _),(q.cons _).trans (.swap _ _ _)⟩
def SL.ox{l':List Chunk}{c d:Chunk}{w':Ζ}{b:Nat}{o':Obj}(h:SL W l w)(u:dX c d l l')(hc:∀k,c.holds k->∃o,k=aX.one b o)(hd:d.holds (aX.one b o'))
  (hw:w'.heap[b]?=some o') (hk:∀x,x≠b->w'.heap[x]?=w.heap[x]?) (e1:w'.os=w.os) (e2:w'.tape=w.tape) (e3:w'.output=w.output):SL W l' w':=by
 obtain⟨r,p,q⟩:=u.perm;obtain⟨a1,a2,a3,k,⟨h1,h2,s,a,t⟩,m⟩:=h.perm p;obtain⟨o,rfl⟩:=hc _ a;have hb:h2 b=none:=by
  rcases s b with ⟨x,_⟩|⟨x,_⟩
  ·simp[aX.one]at x
  exact x
 suffices hs:SL W (d::r) w' from hs.perm q.symm
 refine⟨e1.trans a1,e2.trans a2,e3.trans a3,λx=>if x=b then some o' else h2 x,⟨aX.one b o',h2,λx=>?_,hd,t⟩,λx y e=>?_⟩
 ·by_cases hx:x=b
  ·subst hx;exact .inr ⟨hb,by simp[aX.one]⟩
  exact .inl ⟨by simp[aX.one,hx],by simp[hx]⟩
 by_cases hx:x=b
 ·subst hx;simp at e;rw[hw,e]
 simp[hx]at e
 rw[hk x hx];exact m x y (s.right x y e)
def SL.store{l':List Chunk}{b o:Nat}{cs:Ξ}{t:Ι}{v u:Ε}(h:SL W l w)(m:dX (.pt b cs t) (.pt b (cs.set o v) t) l l')(hu:cs[o]?=some u):SL W l' (w.setCell ⟨b,o,none⟩ v):=by
 have hm:Has (.pt b cs t) l:=by
  clear h;generalize hd:Chunk.pt b (cs.set o v) t=d at m;induction m with
  | hd=>exact .hd
  | tl _ ih=>exact .tl ih
 obtain⟨f,hf,e⟩:=h.mO hm;refine h.ox (b:=b) (o':=.cells (cs.set o v).toArray t f) m ?_ ⟨f,by simpa using hf,rfl⟩ ?_ ?_ rfl rfl rfl
 ·rintro k ⟨f,_,rfl⟩;exact⟨_,rfl⟩
 ·show (w.heap.modify b _)[b]?=_;rw[uub];simp[e]
 intro x hx;exact Below.heap_setCell w ⟨b,o,none⟩ v x hx
def SL.alloc{o:Obj}{c:Chunk}(h:SL W l w)(hc:c.holds (aX.one w.heap.size o)):SL W (c::l) (w.alloc o):=by
 obtain⟨a1,a2,a3,k,s,m⟩:=h;have hb:k w.heap.size=none:=by
  cases hx:k w.heap.size with
  | none=>rfl
  | some y=>have:=m _ _ hx;simp at this
 refine⟨a1,a2,a3,λx=>if x=w.heap.size then some o else k x,⟨aX.one w.heap.size o,k,λx=>?_,hc,s⟩,λx y e=>?_⟩
 ·by_cases hx:x=w.heap.size
  ·subst hx;exact .inr ⟨hb,by simp[aX.one]⟩
  exact .inl ⟨by simp[aX.one,hx],by simp[hx]⟩
 by_cases hx:x=w.heap.size
 ·subst hx;simp at e;subst e;exact heap_alloc_new w o
 simp[hx]at e
 have:=m x y e;have cA:x<w.heap.size:=(yyu.1 this).1;rw[Below.heap_alloc w o x cA];exact this
def SL.new{cs:Ξ}{t:Ι}(h:SL W l w):SL W (.pt w.heap.size cs t::l) (w.alloc (.cells cs.toArray t)):=
 h.alloc ⟨(0,0),.inl rfl,rfl⟩
def SL.drew(h:SL W l w):SL W l w.drew:=⟨h.os,h.tape,h.output,h.out⟩
def aX.of(w:Ζ):aX:=λb=>w.heap[b]?
def SL.init(w:Ζ):SL w [.mem (aX.of w)] w:=by
 refine⟨rfl,rfl,rfl,aX.of w,⟨aX.of w,aX.emp,λb=>.inr ⟨rfl,rfl⟩,rfl,rfl⟩,λb o e=>e⟩
def aX.le_refl(H:aX):H.le H:=λ_ _ e=>e
def aX.le_trans{H K L:aX}(h:H.le K)(k:K.le L):H.le L:=λb o e=>k b o (h b o e)
def aX.Rf{H K:aX}(h:H.le K){b o:Nat}{v:Ε}(e:H.cell b o=some v):K.cell b o=some v:=by
 unfold aX.cell at *
 split at e
 ·rename_i c t f he;rw[h _ _ he];exact e
 cases e
def SL.freeze{H:aX}{b:Nat}{cs:Ξ}{t:Ι}(h:SL W (.mem H::.pt b cs t::l) w):∃H',H.le H'/\(∀o v,cs[o]?=some v->H'.cell b o=some v)/\SL W (.mem H'::l) w:=by
 obtain⟨a1,a2,a3,k,⟨h1,h2,s,rfl,h3,h4,s',⟨f,hf,rfl⟩,r⟩,m⟩:=h;obtain⟨k',x,y⟩:=s.join s';refine⟨k',λb o e=>?_,λo v e=>?_,a1,a2,a3,k,⟨k',h4,x,rfl,r⟩,m⟩
 ·exact y.left b o e
 have:k' b=some (.cells cs.toArray t f):=y.right b _ (by simp[aX.one]);simp[aX.cell,this,e]
def SL.below{H:aX}(h:SL W l w)(m:Has (.mem H) l)(hH:(aX.of W).le H):Below W.heap.size W w:=by
 obtain⟨k,s,x⟩:=h.out;obtain⟨h1,rfl,le⟩:=m.heap s;have hk:∀b,b<W.heap.size->w.heap[b]?=W.heap[b]?:=λb hb=>by
  have e:W.heap[b]?=some (W.heap[b]):=xx5 hb;rw[e];exact x b _ (le b _ (hH b _ e))
 refine⟨h.os,h.tape,h.output,?_,hk⟩;rcases yy7 W.heap.size with h0|h0
 ·omega
 have e:=hk (W.heap.size-1) (by omega);have e2:W.heap[W.heap.size-1]?=some (W.heap[W.heap.size-1]):=xx5 (by omega);rw[e2]at e
 have:=(yyu.1 e).1;omega
end
section
variable {W w:Ζ} {l l':List Chunk}
def awb{a:Addr}{K:Ε->Prop}(h:K (.pointer (some a))):YC (.pointer (some a)) K:=⟨a,rfl,h⟩
def yR{b o off:Nat}{K:Ε->Prop}(h:K (.pointer (some ⟨b,o+off,none⟩))):zm off (.pointer (some ⟨b,o,none⟩)) K:=by
 refine⟨_,rfl,?_⟩;rw[zz7];exact h
def zT{b o:Nat}{cs:Ξ}{t:Ι}{v:Ε}{K:Ε->Prop}(hS:SL W l w)(m:Has (.pt b cs t) l)(hv:cs[o]?=some v)(h:K v):bx (.pointer (some ⟨b,o,none⟩)) w K:=
 ⟨_,v,rfl,hS.cell m hv,h⟩
def Qj{H:aX}{b o:Nat}{v:Ε}{K:Ε->Prop}(hS:SL W l w)(m:Has (.mem H) l)(hv:H.cell b o=some v)(h:K v):bx (.pointer (some ⟨b,o,none⟩)) w K:=
 ⟨_,v,rfl,hS.Ay m hv,h⟩
def yl{b o n:Nat}{cs vs:Ξ}{t:Ι}{K:Ε->Prop}(hS:SL W l w)(m:Has (.pt b cs t) l)(hn:vs.length=n)(hv:∀j v,vs[j]?=some v->cs[o+j]?=some v)(h:K (.agg vs.toArray)):zf n (.pointer (some ⟨b,o,none⟩)) w K:=
 ⟨_,vs,rfl,hn,λj v e=>by rw[zz7];exact hS.cell m (hv j v e),h⟩
def zH{b n:Nat}{cs:Ξ}{t:Ι}{K:Ε->Prop}(hS:SL W l w)(m:Has (.pt b cs t) l)(hn:cs.length=n)(h:K (.agg cs.toArray)):zf n (Δ b) w K:=
 yl hS m hn (λj v e=>by rw[zz2];exact e) h
def ai1{H:aX}{b o n:Nat}{vs:Ξ}{K:Ε->Prop}(hS:SL W l w)(m:Has (.mem H) l)(hn:vs.length=n)(hv:∀j v,vs[j]?=some v->H.cell b (o+j)=some v)(h:K (.agg vs.toArray)):zf n (.pointer (some ⟨b,o,none⟩)) w K:=
 ⟨_,vs,rfl,hn,λj v e=>by rw[zz7];exact hS.Ay m (hv j v e),h⟩
def ZN{b o:Nat}{cs:Ξ}{t:Ι}{v u:Ε}{K:Ζ->Prop}(hS:SL W l w)(m:dX (.pt b cs t) (.pt b (cs.set o v) t) l l')(hu:cs[o]?=some u)(h1:v.oneCell'=true)(h:∀w',SL W l' w'->K w'):
  cR (.pointer (some ⟨b,o,none⟩)) v w K:=by
 have hm:Has (.pt b cs t) l:=by
  clear hS h;generalize hd:Chunk.pt b (cs.set o v) t=d at m;induction m with
  | hd=>exact .hd
  | tl _ ih=>exact .tl ih
 exact⟨_,u,rfl,h1,hS.cell hm hu,hS.frozen hm hu,h _ (hS.store m hu)⟩
def over(cs:Ξ)(o:Nat):Ξ->Ξ
 | []=>cs
 | v::r=>over (cs.set o v) (o+1) r
def dX.has{c d:Chunk}(u:dX c d l l'):Has c l:=by
 induction u with
 | hd=>exact .hd
 | tl _ ih=>exact .tl ih
def dX.other{c d:Chunk}(u:dX c d l l')(e:Chunk):∃l2,dX c e l l2/\dX e d l2 l':=by
 induction u with
 | hd=>exact⟨_,.hd,.hd⟩
 | tl _ ih=>obtain⟨l2,p,q⟩:=ih;exact⟨_,.tl p,.tl q⟩
def tV{b:Nat}{t:Ι}{K:Ζ->Prop}:∀(vs:Ξ) (o i:Nat) (cs:Ξ) (w:Ζ) (l l':List Chunk),SL W l w->dX (.pt b cs t) (.pt b (over cs (o+i) vs) t) l l'->o+i+vs.length<=cs.length->(∀v∈vs,v.oneCell'=true) ->
  (∀w',SL W l' w'->K w')->om ⟨b,o,none⟩ i vs w K
 | [],o,i,cs,w,l,l',hS,u,hl,h1,h=>by
  refine h w ?_;simp only[over]at u;have:l=l':=by
   clear hS h;generalize hc:Chunk.pt b cs t=c at u;revert hc;induction u with
   | hd=>intro;rfl
   | tl _ ih=>intro hc;rw[ih hc]
  rw[<- this];exact hS
 | v::r,o,i,cs,w,l,l',hS,u,hl,h1,h=>by
  simp only[zzg]at hl;have hc:cs[o+i]?=some (cs[o+i]'(by omega)):=zzc (by omega);obtain⟨l2,p,q⟩:=u.other (.pt b (cs.set (o+i) v) t);refine⟨h1 v (by simp),⟨_,by rw[zz7];exact hS.cell u.has hc⟩,by rw[zz7];exact hS.frozen u.has hc,?_⟩;rw[zz7];exact tV r o (i+1) _ _ l2 l' (hS.store p hc) (by simpa [over,ww3] using q) (by simp;omega) (λv hv=>h1 v (by simp[hv])) h
def tN:∀(vs cs:Ξ) (o:Nat),o+vs.length<=cs.length->over cs o vs=cs.take o++vs++cs.drop (o+vs.length)
 | [],cs,o,_=>by simp[over]
 | v::r,cs,o,h=>by
  simp only[zzg]at h;obtain⟨A,x,B,rfl,hA⟩:∃A x B,cs=A++x::B/\A.length=o:=by
   refine⟨cs.take o,cs[o]'(by omega),cs.drop (o+1),?_,by simp;omega⟩;rw[<- yya,yyk]
  subst hA;rw[over,tN r _ _ (by simp at h ⊢;omega)];have e1:(A++x::B).set A.length v=A++v::B:=by simp
  have e2:(A++v::B).take (A.length+1)=A++[v]:=by rw[yy2];simp
  have e3:(A++v::B).drop (A.length+1+r.length)=B.drop r.length:=by rw[show A.length+1+r.length=A.length+(r.length+1) by omega,yy3];simp
  have e5:(A++x::B).drop (A.length+(r.length+1))=B.drop r.length:=by rw[yy3];simp
  simp only[zzg]at *
  rw[e1,e2,e3,e5];simp
def zO{b n:Nat}{cs vs:Ξ}{t:Ι}{K:Ζ->Prop}(hS:SL W l w)(m:dX (.pt b cs t) (.pt b vs t) l l')(hn:vs.length=n)(hc:cs.length=n)(h1:∀v∈vs,v.oneCell'=true)(h:∀w',SL W l' w'->K w'):
  zn n (Δ b) (.agg vs.toArray) w K:=by
 refine⟨_,vs,rfl,rfl,hn,tV (t:=t) vs 0 0 cs w l l' hS ?_ (by omega) h1 h⟩;rw[tN _ _ _ (by omega)];have:cs.drop (0+0+vs.length)=[]:=yyt (by omega);rw[this];simpa using m
def Qm{b o n:Nat}{cs vs:Ξ}{t:Ι}{K:Ζ->Prop}(hS:SL W l w)(m:dX (.pt b cs t) (.pt b (cs.take o++vs++cs.drop (o+n)) t) l l')(hn:vs.length=n)(hc:o+n<=cs.length)(h1:∀v∈vs,v.oneCell'=true)(h:∀w',SL W l' w'->K w'):
  zn n (.pointer (some ⟨b,o,none⟩)) (.agg vs.toArray) w K:=by
 refine⟨_,vs,rfl,rfl,hn,tV (t:=t) vs o 0 cs w l l' hS ?_ (by omega) h1 h⟩;rw[wwd,tN _ _ _ (by omega),hn];exact m
def zD{cs:Ξ}{t:Ι}{K:Ε->Ζ->Prop}(hS:SL W l w)(h:∀b w',SL W (.pt b cs t::l) w'->K (Δ b) w'):zi cs t w K:=h _ _ hS.new
def aio{a b:Ε}{K:Ε->Prop}(h:K a):zg 0 (.tuple #[a,b]) K:=⟨_,a,rfl,rfl,h⟩
def aip{a b:Ε}{K:Ε->Prop}(h:K b):zg 1 (.tuple #[a,b]) K:=⟨_,b,rfl,rfl,h⟩
def aiq{a b c:Ε}{K:Ε->Prop}(h:K a):zg 0 (.tuple #[a,b,c]) K:=⟨_,a,rfl,rfl,h⟩
def air{a b c:Ε}{K:Ε->Prop}(h:K b):zg 1 (.tuple #[a,b,c]) K:=⟨_,b,rfl,rfl,h⟩
def ais{a b c:Ε}{K:Ε->Prop}(h:K c):zg 2 (.tuple #[a,b,c]) K:=⟨_,c,rfl,rfl,h⟩
def ait{a b c d:Ε}{K:Ε->Prop}(h:K a):zg 0 (.tuple #[a,b,c,d]) K:=⟨_,a,rfl,rfl,h⟩
def aiu{a b c d:Ε}{K:Ε->Prop}(h:K b):zg 1 (.tuple #[a,b,c,d]) K:=⟨_,b,rfl,rfl,h⟩
def aiv{a b c d:Ε}{K:Ε->Prop}(h:K c):zg 2 (.tuple #[a,b,c,d]) K:=⟨_,c,rfl,rfl,h⟩
def aiw{a b c d:Ε}{K:Ε->Prop}(h:K d):zg 3 (.tuple #[a,b,c,d]) K:=⟨_,d,rfl,rfl,h⟩
def zY{a:Option Addr}{n c:Nat}{K:Ε->Prop}(h:K (Γ n)):zd (.slice a n c) K:=⟨a,n,c,rfl,h⟩
def ai3{s:Η}{K:Ε->Prop}(h:K (Γ s.size)):yr (.string s) K:=⟨s,rfl,h⟩
def zM{b o len cap sz j:Nat}{k:IntKind}{K:Ε->Prop}(hj:j<len)(h:K (.pointer (some ⟨b,o+j*sz,none⟩))):zj sz (.slice (some ⟨b,o,none⟩) len cap) (.int k (j:Int)) K:=
 ⟨_,len,cap,k,j,rfl,rfl,hj,by rw[zz7];exact h⟩
def Zl{b:Bool}{A B:Prop}(h1:b=true->A)(h2:b=false->B):bL (.bool b) A B:=⟨b,rfl,h1,h2⟩
def za{p:Prop}[Decidable p]{A B:Prop}(h1:p->A)(h2:¬p->B):bL (.bool (decide p)) A B:=⟨_,rfl,λe=>h1 (zzl e),λe=>h2 (yyj e)⟩
def Χ{p:Prop}[Decidable p]{A B:Prop}(h:B)(n:¬p:=by first|exact λh=>absurd rfl h|omega|decide|(intro h;cases h)):bL (.bool (decide p)) A B:=za (λh=>absurd h n) (λ_=>h)
def Υ{p:Prop}[Decidable p]{A B:Prop}(h:A)(n:p:=by first|exact rfl|omega|decide):bL (.bool (decide p)) A B:=za (λ_=>h) (λh=>absurd n h)
def zt{A B:Prop}(h:A):bL (.bool true) A B:=⟨_,rfl,λ_=>h,λe=>by cases e⟩
def zs{A B:Prop}(h:B):bL (.bool false) A B:=⟨_,rfl,(λe=>(by cases e)),λ_=>h⟩
def zr{A B:Prop}{b:Bool}(h1:b=false->A)(h2:b=true->B):bL (.bool !b) A B:=⟨_,rfl,(λe=>h1 (by simpa using e)),(λe=>h2 (by simpa using e))⟩
def D'{a b:Int}{K:Ε->Prop}(hr : -9223372036854775808<=a+b/\a+b<=9223372036854775807)(h:K (Γ (a+b))):zc .add (Γ a) (Γ b) K:=
 ⟨_,rfl,by rw[xxu _ hr];exact h⟩
def awj{a b:Int}{K:Ε->Prop}(hr : -9223372036854775808<=a-b/\a-b<=9223372036854775807)(h:K (Γ (a-b))):zc .sub (Γ a) (Γ b) K:=
 ⟨_,rfl,by rw[xxu _ hr];exact h⟩
def N4{a b:Int}{K:Ε->Prop}(hr : -9223372036854775808<=a*b/\a*b<=9223372036854775807)(h:K (Γ (a*b))):zc .mul (Γ a) (Γ b) K:=
 ⟨_,rfl,by rw[xxu _ hr];exact h⟩
def yk{a b:Nat}{K:Ε->Prop}(hr:a+b<=9223372036854775807)(h:K (Γ ((a+b:Nat):Int))):zc .add (Γ (a:Int)) (Γ (b:Int)) K:=
 D' (by omega) (by rw[show (a:Int)+(b:Int)=((a+b:Nat):Int) by omega];exact h)
def qL{a:Nat}{K:Ε->Prop}(hr:a+1<=9223372036854775807)(h:K (Γ ((a+1:Nat):Int))):zc .add (Γ (a:Int)) (Γ 1) K:=
 D' (by omega) (by rw[show (a:Int)+1=((a+1:Nat):Int) by omega];exact h)
def ZM{k:IntKind}{a b:Int}{K:Ε->Prop}(hb:b≠0)(h:K (.int k (a.tmod b))):zc .rem (.int k a) (.int k b) K:=
 ⟨.int k (a.tmod b),by simp[gv,hb],h⟩
def N5{a b:Int}{K:Ε->Prop}(hb:b≠0)(hr : -9223372036854775808<=a.tdiv b/\a.tdiv b<=9223372036854775807)(h:K (Γ (a.tdiv b))):zc .quo (Γ a) (Γ b) K:=
 ⟨Γ (a.tdiv b),by simp[gv,hb,xxu _ hr],h⟩
def N6{k:IntKind}{a b:Nat}{K:Ε->Prop}(hb:0<b)(h:K (.int k ((a % b:Nat):Int))):zc .rem (.int k (a:Int)) (.int k (b:Int)) K:=
 ZM (by omega) (by rw[xx1 (by omega)];exact h)
def NZ{k:IntKind}{a b:Int}{K:Ε->Prop}(h:K (.bool (decide (a=b)))):zc .eql (.int k a) (.int k b) K:=⟨.bool (decide (a=b)),by simp[gv];rfl,h⟩
def QS{k:IntKind}{a b:Int}{K:Ε->Prop}(h:K (.bool (decide (a≠b)))):zc .neq (.int k a) (.int k b) K:=⟨.bool (decide (a≠b)),by simp[gv,bne];rfl,h⟩
def wg{k:IntKind}{a b:Int}{K:Ε->Prop}(h:K (.bool (decide (a<b)))):zc .lss (.int k a) (.int k b) K:=⟨_,by simp[gv],h⟩
def ai2{k:IntKind}{a b:Int}{K:Ε->Prop}(h:K (.bool (decide (a<=b)))):zc .leq (.int k a) (.int k b) K:=⟨_,by simp[gv],h⟩
def D_{k:IntKind}{a b:Int}{K:Ε->Prop}(h:K (.bool (decide (b<a)))):zc .gtr (.int k a) (.int k b) K:=⟨_,by simp[gv],h⟩
def aix{k:IntKind}{a b:Int}{K:Ε->Prop}(h:K (.bool (decide (b<=a)))):zc .geq (.int k a) (.int k b) K:=⟨_,by simp[gv],h⟩
def str_inj{s t:Η}(h:s.toList=t.toList):s=t:=by
 rw[ByteArray.toList_eq,ByteArray.toList_eq]at h
 cases s;cases t;congr 1;exact Array.toList_inj.1 h
def ain{a b:Η}{K:Ε->Prop}(h:K (.bool (decide (a=b)))):zc .eql (.string a) (.string b) K:=by
 refine⟨.bool (decide (a=b)),?_,h⟩;by_cases e:a=b
 ·subst e;simp[gv]
 have:¬a.toList=b.toList:=λx=>e (str_inj x);simp[gv,e,this]
def awa{a b:Η}{K:Ε->Prop}(h:K (.bool (decide (a≠b)))):zc .neq (.string a) (.string b) K:=by
 refine⟨.bool (decide (a≠b)),?_,h⟩;by_cases e:a=b
 ·subst e;simp[gv]
 have:¬a.toList=b.toList:=λx=>e (str_inj x);simp[gv,e,this]
def aim{a b:Bool}{K:Ε->Prop}(h:K (.bool (decide (a=b)))):HEq .bool false (.bool a) (.bool b) K:=⟨a == b,rfl,by cases a<;>cases b<;>simpa using h⟩
def ai9{a b:Bool}{K:Ε->Prop}(h:K (.bool (decide (a≠b)))):HEq .bool true (.bool a) (.bool b) K:=⟨a == b,rfl,by cases a<;>cases b<;>simpa using h⟩
def ZK{t:Ι}{a:Option Addr}{K:Ε->Prop}(h:K (.bool a.isNone)):HEq (.pointer t) false (.pointer a) (.pointer none) K:=⟨a.isNone,by cases a<;>rfl,h⟩
def Ea{t:Ι}{a:Option Addr}{K:Ε->Prop}(h:K (.bool a.isSome)):HEq (.pointer t) true (.pointer a) (.pointer none) K:=⟨a.isNone,by cases a<;>rfl,by cases a<;>exact h⟩
def yb{b:Bool}{K:Ε->Prop}(h:K (.bool !b)):yM (.bool b) K:=⟨b,rfl,h⟩
def zK{j:IntKind}{n:Int}{k:IntKind}{K:Ε->Prop}(h:K (.int k (k.wrap n))):zC k (.int j n) K:=⟨j,n,rfl,h⟩
def ya{j:IntKind}{n:Int}{K:Ε->Prop}(hr : -9223372036854775808<=n/\n<=9223372036854775807)(h:K (Γ n)):zC .i64 (.int j n) K:=⟨j,n,rfl,by rw[xxu _ hr];exact h⟩
def ai8{k:IntKind}{a b:Int}{K:Ε->Prop}(h:K (.int k (min a b))):YB (.int k a) (.int k b) K:=
 ⟨k,a,b,rfl,rfl,by rw[show (if b<a then b else a)=min a b by split<;>omega];exact h⟩
def ai7{k:IntKind}{a b:Int}{K:Ε->Prop}(h:K (.int k (max a b))):YA (.int k a) (.int k b) K:=
 ⟨k,a,b,rfl,rfl,by rw[show (if b>a then b else a)=max a b by split<;>omega];exact h⟩
def yQ{z cells:Ξ}{ps:List (Nat × Nat × Ε)}{K:Ε->Prop}(hc:eV z ps=some cells)(h:K (.agg cells.toArray)):zp z ps K:=⟨cells,hc,h⟩
def zA{z cells:Ξ}{ps:List (Nat × Nat × Ε)}{e:Ι}{n:Nat}{K:Ε->Ζ->Prop}(hS:SL W l w)(hc:eV z ps=some cells)
  (h:∀b w',SL W (.pt b cells e::l) w'->K (.slice (some ⟨b,0,none⟩) n n) w'):zk z ps e n w K:=⟨cells,hc,h _ _ hS.new⟩
def N3{z:Ξ}{fH n c:Nat}{e:Ι}{kl kc:IntKind}{K:Ε->Ζ->Prop}(hS:SL W l w)(h1:n<=c)(h2:fH*c<=281474976710656)(h3:c<9223372036854775808)
  (h:∀b w',SL W (.pt b (bq z c) e::l) w'->K (.slice (some ⟨b,0,none⟩) n c) w'):uh z fH e (.int kl (n:Int)) (.int kc (c:Int)) w K:=⟨n,c,kl,kc,rfl,rfl,h1,h2,h3,h _ _ hS.new⟩
def zQ{K:Ζ->Prop}(hS:SL W l w)(h:∀w',SL W l w'->K w'):zl w K:=h _ hS.drew
def app:List Chunk->List Chunk->List Chunk
 | [],F=>F
 | c::r,F=>c::app r F
def uF:∀(p F:List Chunk),app p F=p++F
 | [],_=>rfl
 | c::r,F=>by rw[app,uF r F];rfl
def SL.take{p F:List Chunk}(h:SL W l w)(k:eQ p l F):SL W (app p F) w:=by rw[uF];exact h.pick k
def Spec(P:Program)(f:FuncId)(args:Ξ)(pre:List Chunk)(Q:Ε->List Chunk->Prop):Prop:=
 ∀W F w,SL W (app pre F) w->zL P f args w λv w'=>∃post,Q v post/\SL W (app post F) w'
def Enzz{P:Program}{f:FuncId}{args:Ξ}{pre:List Chunk}{Q:Ε->List Chunk->Prop}{l:List Chunk->List Chunk}{G:Ζ->List Chunk->Ζ->Prop}(k:∀W F w,SL W (l F) w->G W F w)(h:(∀W F w,SL W (l F) w->G W F w)->Spec P f args pre Q:=by
 intro kk W F w hS
 (try simp only[app]at hS)
 exact kk W F w hS):Spec P f args pre Q:=h k
def yJ{P:Program}{f:FuncId}{args:Ξ}{pre F:List Chunk}{Q:Ε->List Chunk->Prop}{K:Ε->Ζ->Prop}(c:Spec P f args pre Q)(hS:SL W l w)(p:eQ pre l F)
  (h:∀v post,Q v post->∀w',SL W (app post F) w'->K v w'):zL P f args w K:=
 (c W F w (hS.take p)).mono λv w' ⟨post,hq,hs⟩=>h v post hq w' hs
def yh{P:Program}{T:List Bool}{f:FuncId}{first captured:Array Ε}{args args':Ξ}{pre F:List Chunk}{Q:Ε->List Chunk->Prop}{K:Ε->Ζ->Prop}(hT:T.getD f false=true)(c:Spec P f args' pre Q)
  (ha:first.toList++args++captured.toList=args') (hS:SL W l w) (p:eQ pre l F)
  (h:∀v post,Q v post->∀w',SL W (app post F) w'->K v w'):zP P T (.func (.func f) first captured) args w K:=
 ⟨f,first,captured,rfl,hT,by rw[ha];exact yJ c hS p h⟩
def Spec.mono{P:Program}{f:FuncId}{args:Ξ}{pre:List Chunk}{Q Q':Ε->List Chunk->Prop}(h:Spec P f args pre Q)(hq:∀v post,Q v post->Q' v post):Spec P f args pre Q':=
 λW F w hS=>(h W F w hS).mono λv w' ⟨post,hp,hs⟩=>⟨post,hq v post hp,hs⟩
def bj(u:Ε)(q:List Chunk):Ε->List Chunk->Prop:=λv post=>v=u/\post=q
inductive gN:List Chunk->List Chunk->Prop where
 | refl {l:List Chunk}:gN l l
 | cons {c:Chunk} {t l l':List Chunk} (h:dW c l l') (k:gN t l'):gN (c::t) l
 | drop {d:Chunk} {t l:List Chunk} (k:gN t l):gN t (d::l)
def gN.spec{t l:List Chunk}(k:gN t l):∃r,l.Perm (t++r):=by
 induction k with
 | refl=>exact⟨[],by simp⟩
 | cons h _ ih=>obtain⟨r,p⟩:=ih;exact⟨r,h.perm.trans (p.cons _)⟩
 | @drop d t l _ ih=>obtain⟨r,p⟩:=ih;exact⟨d::r,(p.cons d).trans vvn.symm⟩
def SL.JU:∀{r t:List Chunk} {w:Ζ},SL W (t++r) w->SL W t w
 | [],t,w,h=>by simpa using h
 | c::r,t,w,h=>SL.JU (r:=r) (SL.drop (c:=c) (h.perm vvn))
def SL.bA{t:List Chunk}(h:SL W l w)(k:gN t l):SL W t w:=by
 obtain⟨r,p⟩:=k.spec;exact (h.perm p).JU
def qP{α:Type}{a:α}{p:Prop}(h:p):a=a/\p:=⟨rfl,h⟩
end
class fw (P:Prop) (Q:outParam Prop):Prop where
 h:Q->P
def Q0{P Q:Prop}[i:fw P Q](h:Q):P:=i.h h
section
variable {K:Ε->Prop}
instance {a:Addr}:fw (YC (.pointer (some a)) K) (K (.pointer (some a))):=⟨awb⟩
instance {a b:Ε}:fw (zg 0 (.tuple #[a,b]) K) (K a):=⟨aio⟩
instance {a b:Ε}:fw (zg 1 (.tuple #[a,b]) K) (K b):=⟨aip⟩
instance {a b c:Ε}:fw (zg 0 (.tuple #[a,b,c]) K) (K a):=⟨aiq⟩
instance {a b c:Ε}:fw (zg 1 (.tuple #[a,b,c]) K) (K b):=⟨air⟩
instance {a b c:Ε}:fw (zg 2 (.tuple #[a,b,c]) K) (K c):=⟨ais⟩
instance {a b c d:Ε}:fw (zg 0 (.tuple #[a,b,c,d]) K) (K a):=⟨ait⟩
instance {a b c d:Ε}:fw (zg 1 (.tuple #[a,b,c,d]) K) (K b):=⟨aiu⟩
instance {a b c d:Ε}:fw (zg 2 (.tuple #[a,b,c,d]) K) (K c):=⟨aiv⟩
instance {a b c d:Ε}:fw (zg 3 (.tuple #[a,b,c,d]) K) (K d):=⟨aiw⟩
instance {b o off:Nat}:fw (zm off (.pointer (some ⟨b,o,none⟩)) K) (K (.pointer (some ⟨b,o+off,none⟩))):=⟨yR⟩
instance {a:Option Addr} {n c:Nat}:fw (zd (.slice a n c) K) (K (Γ n)):=⟨zY⟩
instance {s:Η}:fw (yr (.string s) K) (K (Γ s.size)):=⟨ai3⟩
instance {k:IntKind} {a b:Int}:fw (zc .eql (.int k a) (.int k b) K) (K (.bool (decide (a=b)))):=⟨NZ⟩
instance {k:IntKind} {a b:Int}:fw (zc .neq (.int k a) (.int k b) K) (K (.bool (decide (a≠b)))):=⟨QS⟩
instance {k:IntKind} {a b:Int}:fw (zc .lss (.int k a) (.int k b) K) (K (.bool (decide (a<b)))):=⟨wg⟩
instance {k:IntKind} {a b:Int}:fw (zc .leq (.int k a) (.int k b) K) (K (.bool (decide (a<=b)))):=⟨ai2⟩
instance {k:IntKind} {a b:Int}:fw (zc .gtr (.int k a) (.int k b) K) (K (.bool (decide (b<a)))):=⟨D_⟩
instance {k:IntKind} {a b:Int}:fw (zc .geq (.int k a) (.int k b) K) (K (.bool (decide (b<=a)))):=⟨aix⟩
instance {a b:Η}:fw (zc .eql (.string a) (.string b) K) (K (.bool (decide (a=b)))):=⟨ain⟩
instance {a b:Η}:fw (zc .neq (.string a) (.string b) K) (K (.bool (decide (a≠b)))):=⟨awa⟩
instance {a b:Bool}:fw (HEq .bool false (.bool a) (.bool b) K) (K (.bool (decide (a=b)))):=⟨aim⟩
instance {a b:Bool}:fw (HEq .bool true (.bool a) (.bool b) K) (K (.bool (decide (a≠b)))):=⟨ai9⟩
instance {t:Ι} {a:Option Addr}:fw (HEq (.pointer t) false (.pointer a) (.pointer none) K) (K (.bool a.isNone)):=⟨ZK⟩
instance {t:Ι} {a:Option Addr}:fw (HEq (.pointer t) true (.pointer a) (.pointer none) K) (K (.bool a.isSome)):=⟨Ea⟩
instance {b:Bool}:fw (yM (.bool b) K) (K (.bool !b)):=⟨yb⟩
instance {k:IntKind} {a b:Int}:fw (YB (.int k a) (.int k b) K) (K (.int k (min a b))):=⟨ai8⟩
instance {k:IntKind} {a b:Int}:fw (YA (.int k a) (.int k b) K) (K (.int k (max a b))):=⟨ai7⟩
instance {A B:Prop}:fw (bL (.bool true) A B) A:=⟨zt⟩
instance {A B:Prop}:fw (bL (.bool false) A B) B:=⟨zs⟩
instance {α:Type} {a:α} {p:Prop}:fw (a=a/\p) p:=⟨qP⟩
end
class su (op:BinOp) (x y:Ε) (z:outParam Ε) (c:outParam Prop):Prop where
 h:∀{K:Ε->Prop},c->K z->zc op x y K
instance (priority:=high) {a:Nat}:su .add (Γ (a:Int)) (Γ 1) (Γ ((a+1:Nat):Int)) (a+1<=9223372036854775807):=⟨qL⟩
instance {a b:Nat}:su .add (Γ (a:Int)) (Γ (b:Int)) (Γ ((a+b:Nat):Int)) (a+b<=9223372036854775807):=⟨yk⟩
instance (priority:=low) {a b:Int}:su .add (Γ a) (Γ b) (Γ (a+b)) (-9223372036854775808<=a+b/\a+b<=9223372036854775807):=⟨D'⟩
instance {k:IntKind} {a b:Nat}:su .rem (.int k (a:Int)) (.int k (b:Int)) (.int k ((a % b:Nat):Int)) (0<b):=⟨N6⟩
instance {a b:Int}:su .sub (Γ a) (Γ b) (Γ (a-b)) (-9223372036854775808<=a-b/\a-b<=9223372036854775807):=⟨awj⟩
section
variable {W w:Ζ} {l l' p F:List Chunk} {c d:Chunk}
def Qb{op:BinOp}{x y z:Ε}{c:Prop}{K:Ε->Prop}[i:su op x y z c](h:K z)(hc:c:=by omega):zc op x y K:=i.h hc h
def Xh(h:Has c l:=by (repeat (first|exact Has.hd|apply Has.tl))):Has c l:=h
def Xu(h:dX c d l l':=by (repeat (first|exact dX.hd|apply dX.tl))):dX c d l l':=h
def Xr(h:dW c l l':=by (repeat (first|exact dW.hd|apply dW.tl))):dW c l l':=h
def Xp(h:eQ p l F:=by (repeat (first|(with_reducible exact eQ.nil)|((with_reducible apply eQ.cons);(focus ((repeat (first|(with_reducible exact dW.hd)|(with_reducible apply dW.tl)));done)))))):eQ p l F:=h
def Xi(h:gN p l:=by ((try simp only[app]);repeat (first|(with_reducible exact gN.refl)|((with_reducible apply gN.cons);(focus ((repeat (first|(with_reducible exact dW.hd)|(with_reducible apply dW.tl)));done)))|(with_reducible apply gN.drop)))):gN p l:=h
def aI{W w:Ζ}{p l:List Chunk}(x:SL W l w)(h:gN p l:=by ((try simp only[app]);repeat (first|(with_reducible exact gN.refl)|((with_reducible apply gN.cons);(focus ((repeat (first|(with_reducible exact dW.hd)|(with_reducible apply dW.tl)));done)))|(with_reducible apply gN.drop)))):SL W p w:=SL.bA x h
def bt{W w:Ζ}{u:Ε}{q l F:List Chunk}(x:SL W l w)(h:gN (app q F) l:=by ((try simp only[app]);repeat (first|(with_reducible exact gN.refl)|((with_reducible apply gN.cons);(focus ((repeat (first|(with_reducible exact dW.hd)|(with_reducible apply dW.tl)));done)))|(with_reducible apply gN.drop)))):∃y,bj u q u y/\SL W (app y F) w:=⟨_,⟨rfl,rfl⟩,SL.bA x h⟩
def Qa{b o:Nat}{cs:Ξ}{t:Ι}{v:Ε}{K:Ε->Prop}(hS:SL W l w)(h:K v)(m:Has (.pt b cs t) l:=by (with_unfolding_all (repeat (first|exact Has.hd|apply Has.tl))))(hv:cs[o]?=some v:=by (with_unfolding_all rfl)):bx (.pointer (some ⟨b,o,none⟩)) w K:=zT hS m hv h
def Qc{b n:Nat}{cs:Ξ}{t:Ι}{K:Ε->Prop}(hS:SL W l w)(h:K (.agg cs.toArray))(m:Has (.pt b cs t) l:=by (with_unfolding_all (repeat (first|exact Has.hd|apply Has.tl))))(hn:cs.length=n:=by (with_unfolding_all rfl)):zf n (Δ b) w K:=zH hS m hn h
def Qd{z cells:Ξ}{ps:List (Nat × Nat × Ε)}{K:Ε->Prop}(h:K (.agg cells.toArray))(hc:eV z ps=some cells:=by (with_unfolding_all (simp[eV,Value.cells];rfl))):zp z ps K:=yQ hc h
def Qe{b o:Nat}{cs:Ξ}{t:Ι}{v u:Ε}{K:Ζ->Prop}(hS:SL W l w)(h:∀w',SL W l' w'->K w')(m:dX (.pt b cs t) (.pt b (cs.set o v) t) l l':=by (with_unfolding_all (repeat (first|exact dX.hd|apply dX.tl))))(hu:cs[o]?=some u:=by (with_unfolding_all rfl))(h1:v.oneCell'=true:=by (with_unfolding_all (first|rfl|assumption))):
  cR (.pointer (some ⟨b,o,none⟩)) v w K:=ZN hS m hu h1 h
def Qf{b n:Nat}{cs vs:Ξ}{t:Ι}{K:Ζ->Prop}(hS:SL W l w)(h:∀w',SL W l' w'->K w')(m:dX (.pt b cs t) (.pt b vs t) l l':=by (with_unfolding_all (repeat (first|exact dX.hd|apply dX.tl))))(hn:vs.length=n:=by (with_unfolding_all rfl))(hc:cs.length=n:=by (with_unfolding_all rfl))(h1:vs.all Value.oneCell'=true:=by (with_unfolding_all rfl)):
  zn n (Δ b) (.agg vs.toArray) w K:=zO hS m hn hc (zzw.1 h1) h
def J'{z cs:Ξ}{n:Nat}(hc:cs.length=n)(hz:z.length=n):eV (bq z 1) [(0,n,.agg cs.toArray)]=some cs:=by
 subst hc;simp[eV,bq,Value.cells,hz]
def Qh{z cs:Ξ}{e:Ι}{n:Nat}{K:Ε->Ζ->Prop}(hS:SL W l w)
  (h:∀b w',SL W (.pt b cs e::l) w'->K (.slice (some ⟨b,0,none⟩) 1 1) w') (hc:cs.length=n:=by (with_unfolding_all rfl)) (hz:z.length=n:=by (with_unfolding_all rfl)):zk (bq z 1) [(0,n,.agg cs.toArray)] e 1 w K:=zA hS (J' hc hz) h
def Qg{z cells:Ξ}{ps:List (Nat × Nat × Ε)}{e:Ι}{n:Nat}{K:Ε->Ζ->Prop}(hS:SL W l w)
  (h:∀b w',SL W (.pt b cells e::l) w'->K (.slice (some ⟨b,0,none⟩) n n) w') (hc:eV z ps=some cells:=by (with_unfolding_all (simp[eV,Value.cells,bq];rfl))):zk z ps e n w K:=zA hS hc h
end
structure Wr(Q:Prop):Prop where
 h:Q
def Gp{P Q:Prop}(k:Q) (h:Wr Q->P:=by
 intro kk
 (with_reducible first|apply Q0|refine Qa hS ?_|refine Qb ?_|refine Qc hS ?_|refine Qd ?_)
 repeat (with_reducible first|apply Q0|refine Qa hS ?_|refine Qb ?_|refine Qc hS ?_|refine Qd ?_)
 exact kk.h):P:=h ⟨k⟩
def bw{P p A B:Prop}{i:Decidable p}(x:p->A)(y:¬p->B)(h:Wr (bL (.bool (decide p)) A B)->P:=by
 intro kk
 (with_reducible first|apply Q0|refine Qa hS ?_|refine Qb ?_|refine Qc hS ?_|refine Qd ?_)
 repeat (with_reducible first|apply Q0|refine Qa hS ?_|refine Qb ?_|refine Qc hS ?_|refine Qd ?_)
 exact kk.h):P:=h (.mk (za x y))
def Gw{W:Ζ}{l:List Chunk}{P:Prop}{G:Ζ->Prop}(k:∀w,SL W l w->G w) (h:(∀w,SL W l w->G w)->P:=by
 intro kk;first
  | ((with_reducible refine Qe hS ?_);intro w hS;simp only[List.set]at hS)
  | ((with_reducible first|refine zQ hS ?_|refine Qf hS ?_);intro w hS)
 repeat (first
  | (with_reducible first|apply Q0|refine Qa hS ?_|refine Qb ?_|refine Qc hS ?_|refine Qd ?_)
  | ((with_reducible refine Qe hS ?_);intro w hS;simp only[List.set]at hS)
  | ((with_reducible first|refine zQ hS ?_|refine Qf hS ?_);intro w hS))
 exact kk w hS):P:=h k
def Gb{W:Ζ}{l:Nat->List Chunk}{P:Prop}{G:Nat->Ζ->Prop}(k:∀b w,SL W (l b) w->G b w) (h:(∀b w,SL W (l b) w->G b w)->P:=by
 intro kk
 (with_reducible first|refine zD hS ?_|refine Qh hS ?_|refine Qg hS ?_)
 intro b w hS;repeat (first
  | (with_reducible first|apply Q0|refine Qa hS ?_|refine Qb ?_|refine Qc hS ?_|refine Qd ?_)
  | ((with_reducible refine Qe hS ?_);intro w hS;simp only[List.set]at hS)
  | ((with_reducible first|refine zQ hS ?_|refine Qf hS ?_);intro w hS))
 exact kk b w hS):P:=h k
def Gn{W:Ζ}{l:List Chunk}{P:Prop}{G:Ζ->Prop}(k:∀w,SL W l w->G w) (h:(∀w,SL W l w->G w)->P:=by
 intro kk;try simp only[app]at hS
 repeat (first
  | (with_reducible first|apply Q0|refine Qa hS ?_|refine Qb ?_|refine Qc hS ?_|refine Qd ?_)
  | ((with_reducible refine Qe hS ?_);intro w hS;simp only[List.set]at hS)
  | ((with_reducible first|refine zQ hS ?_|refine Qf hS ?_);intro w hS))
 exact kk w hS):P:=h k
def Gm{W:Ζ}{l:Nat->List Chunk}{P:Prop}{G:Nat->Ζ->Prop}(k:∀b w,SL W (l b) w->G b w) (h:(∀b w,SL W (l b) w->G b w)->P:=by
 intro kk;try simp only[app]at hS
 repeat (first
  | (with_reducible first|apply Q0|refine Qa hS ?_|refine Qb ?_|refine Qc hS ?_|refine Qd ?_)
  | ((with_reducible refine Qe hS ?_);intro w hS;simp only[List.set]at hS)
  | ((with_reducible first|refine zQ hS ?_|refine Qf hS ?_);intro w hS))
 (with_reducible first|refine zD hS ?_|refine Qh hS ?_|refine Qg hS ?_)
 intro b w hS;repeat (first
  | (with_reducible first|apply Q0|refine Qa hS ?_|refine Qb ?_|refine Qc hS ?_|refine Qd ?_)
  | ((with_reducible refine Qe hS ?_);intro w hS;simp only[List.set]at hS)
  | ((with_reducible first|refine zQ hS ?_|refine Qf hS ?_);intro w hS))
 exact kk b w hS):P:=h k
def Cc{W w:Ζ}{l pre F:List Chunk}{P:Program}{f:FuncId}{args:Ξ}{Q:Ε->List Chunk->Prop}{K:Ε->Ζ->Prop}(c:Spec P f args pre Q)(h:∀v post,Q v post->∀w',SL W (app post F) w'->K v w')
  (hs:SL W l w:=by exact hS) (p:eQ pre l F:=by (repeat (first|(with_reducible exact eQ.nil)|((with_reducible apply eQ.cons);(focus ((repeat (first|(with_reducible exact dW.hd)|(with_reducible apply dW.tl)));done)))))):zL P f args w K:=yJ c hs p h
def Cg{W w:Ζ}{l l' pre q F:List Chunk}{P:Program}{f:FuncId}{args:Ξ}{u:Ε}{K:Ε->Ζ->Prop}{G:Ζ->Prop}(c:Spec P f args pre (bj u q))(k:∀w,SL W l' w->G w)
  (hs:SL W l w:=by exact hS) (p:eQ pre l F:=by (repeat (first|(with_reducible exact eQ.nil)|((with_reducible apply eQ.cons);(focus ((repeat (first|(with_reducible exact dW.hd)|(with_reducible apply dW.tl)));done))))))
  (e:(∀w,SL W l' w->G w)->∀w,SL W (app q F) w->K u w:=by
   intro kk w hS;try simp only[app]at hS
   repeat (first
    | (with_reducible first|apply Q0|refine Qa hS ?_|refine Qb ?_|refine Qc hS ?_|refine Qd ?_)
    | ((with_reducible refine Qe hS ?_);intro w hS;simp only[List.set]at hS)
    | ((with_reducible first|refine zQ hS ?_|refine Qf hS ?_);intro w hS))
   exact kk w hS):zL P f args w K:=yJ c hs p λv post ⟨h1,h2⟩ w' hw=>by subst h1 h2;exact e k w' hw
def aY(v:Ε)(t:Ι)(sz n:Nat)(cells:Ξ):zw:=gi λx:Option (Nat × Nat × Ξ)=>match x with
 | none=>zG ((∃a,v= .slice a 0 0)/\n=0/\cells=[]) []
 | some (b,cap,rest)=>zG (v= .slice (some ⟨b,0,none⟩) n cap/\n<=cap/\cells.length=n*sz/\rest.length=(cap-n)*sz) [.pt b (cells++rest) t]
section
variable {W w:Ζ} {l:List Chunk}
def aY.open{v:Ε}{t:Ι}{sz n:Nat}{cells:Ξ}(h:SL W (.ob (aY v t sz n cells)::l) w):
  ((∃a,v= .slice a 0 0)/\n=0/\cells=[]/\SL W l w)\/∃b cap rest,v= .slice (some ⟨b,0,none⟩) n cap/\n<=cap/\cells.length=n*sz/\rest.length=(cap-n)*sz/\SL W (.pt b (cells++rest) t::l) w:=by
 unfold aY at h;obtain⟨x,h⟩:=SL.ex.1 h
 match x,h with
 | none,h=>
  obtain⟨⟨h1,h2,h3⟩,h⟩:=SL.fact.1 h;exact .inl ⟨h1,h2,h3,h⟩
 | some (b,cap,rest),h=>
  obtain⟨⟨h1,h2,h3,h4⟩,h⟩:=SL.fact.1 h;exact .inr ⟨b,cap,rest,h1,h2,h3,h4,h⟩
def aY.nil{t:Ι}{sz:Nat}(h:SL W l w):SL W (.ob (aY Θ t sz 0 [])::l) w:=by
 unfold aY;exact SL.ex.2 ⟨none,SL.fact.2 ⟨⟨⟨_,rfl⟩,rfl,rfl⟩,h⟩⟩
def aY.lP{a:Option Addr}{t:Ι}{sz:Nat}(h:SL W l w):SL W (.ob (aY (.slice a 0 0) t sz 0 [])::l) w:=by
 unfold aY;exact SL.ex.2 ⟨none,SL.fact.2 ⟨⟨⟨_,rfl⟩,rfl,rfl⟩,h⟩⟩
def aY.mk{b n cap:Nat}{t:Ι}{sz:Nat}{cells rest:Ξ}(h1:n<=cap)(h2:cells.length=n*sz)(h3:rest.length=(cap-n)*sz)(h:SL W (.pt b (cells++rest) t::l) w):
  SL W (.ob (aY (.slice (some ⟨b,0,none⟩) n cap) t sz n cells)::l) w:=by
 unfold aY;exact SL.ex.2 ⟨some (b,cap,rest),SL.fact.2 ⟨⟨rfl,h1,h2,h3⟩,h⟩⟩
def aY.full{b n:Nat}{t:Ι}{sz:Nat}{cells:Ξ}(h2:cells.length=n*sz)(h:SL W (.pt b cells t::l) w):SL W (.ob (aY (.slice (some ⟨b,0,none⟩) n n) t sz n cells)::l) w:=
 aY.mk (rest:=[]) (zzz _) h2 (by simp) (by simpa using h)
def Ou{b o m cap sz:Nat}{cs lA:Ξ}{t:Ι}(hS:SL W l w)(hm:Has (.pt b lA t) l)(hl:cs.length=m*sz)(hc:∀j v,cs[j]?=some v->lA[o+j]?=some v):il w sz (.slice (some ⟨b,o,none⟩) m cap) m cs:=
 ⟨rfl,hl,λj v e=>by rw[zz7];exact hS.cell hm (hc j v e)⟩
def fC{b m cap sz:Nat}{cs:Ξ}{t:Ι}(hS:SL W l w)(hm:Has (.pt b cs t) l)(hl:cs.length=m*sz):il w sz (.slice (some ⟨b,0,none⟩) m cap) m cs:=
 Ou hS hm hl λj v e=>by rw[zz2];exact e
def Ov{s:Η}:il w 1 (.string s) s.size (s.data.toList.map λb=>.int .u8 b.toNat):=⟨rfl,rfl⟩
def Nv{cells rest cs:Ξ}:cs.length<=rest.length->over (cells++rest) cells.length cs=cells++cs++rest.drop cs.length:=λh=>by
 rw[tN _ _ _ (by simp;omega)];simp
def zx{x y:Ε}{t:Ι}{sz fH n m:Nat}{z cells cs:Ξ}{F:List Chunk}{K:Ε->Ζ->Prop}(hS:SL W l w)(hr:dW (.ob (aY x t sz n cells)) l F)(gb:il w sz y m cs)
  (hl:cs.length=m*sz) (hz:z.length=sz) (h1:∀v∈cs,v.oneCell'=true) (hb:(n+m)*fH<=140737488355328) (hn:n+m<=140737488355328)
  (h:∀v' w',SL W (.ob (aY v' t sz (n+m) (cells++cs))::F) w'->K v' w'):zq sz fH z t x y w K:=by
 rcases aY.open (hS.perm hr.perm) with ⟨⟨a,rfl⟩,rfl,rfl,eF⟩|⟨b,cap,rest,rfl,hc,hlen,ij,eF⟩
 ·refine⟨a,0,0,m,cs,rfl,gb,hb,hn,λh0=>?_,λh0=>⟨[],(by cases a with|none=>exact⟨rfl,rfl⟩|some p=>exact⟨rfl,by simp,λj v e=>by simp at e⟩),λc gW rM=>?_⟩⟩
  ·have hm:m=0:=by omega
   subst hm;have:cs=[]:=zzm (by simpa using hl);subst this;cases a with
   | none=>exact h _ _ (aY.lP eF)
   | some p=>exact h _ _ (aY.lP eF)
  refine h _ _ ?_;have:=aY.mk (sz:=sz) (n:=0+m) (cells:=cs) (rest:=bq z (c-(0+m))) (cap:=c) gW (by simpa using hl) (by rw[jS,hz]) (SL.new (cs:=cs++bq z (c-(0+m))) (t:=t) (eF.drew));simpa using this
 refine⟨some ⟨b,0,none⟩,n,cap,m,cs,rfl,gb,hb,hn,λh0=>?_,λh0=>?_⟩
 ·have lH:cs.length<=rest.length:=by
   rw[hl,ij];exact yy4 _ (by omega)
  show om (Addr.add ⟨b,0,none⟩ (n*sz)) 0 cs w _;rw[zz7];refine tV (t:=t) cs (0+n*sz) 0 (cells++rest) w (.pt b (cells++rest) t::F) _ eF .hd (by simp[hlen];omega) h1 (λw' lF=>h _ _ ?_);have e:over (cells++rest) (0+n*sz+0) cs=cells++cs++rest.drop cs.length:=by
   rw[show 0+n*sz+0=cells.length by omega];exact Nv lH
  rw[e]at lF
  exact aY.mk (n:=n+m) (cells:=cells++cs) (rest:=rest.drop cs.length) h0 (by simp[hlen,hl,yyo]) (by
   rw[zz0,ij,hl,<- xx6];congr 1;omega) lF
 refine⟨cells,⟨rfl,hlen,λj v e=>?_⟩,λc gW rM=>h _ _ ?_⟩
 ·rw[zz7];refine eF.cell .hd ?_;rw[zz2];rw[zzs (zzf.1 e).1];exact e
 exact aY.mk (n:=n+m) (cells:=cells++cs) (rest:=bq z (c-(n+m))) gW (by simp[hlen,hl,yyo]) (by rw[jS,hz]) (SL.new (eF.drop.drew))
def bK(H:aX)(sz:Nat)(v:Ε)(n:Nat)(cells:Ξ):Prop:=
 cells.length=n*sz/\∃a cap,v= .slice a n cap/\n<=cap/\(n=0\/∃b o,a=some ⟨b,o,none⟩/\∀j u,cells[j]?=some u->H.cell b (o+j)=some u)
def bK.mono{H H':aX}(hh:H.le H'){sz n:Nat}{v:Ε}{cells:Ξ}(h:bK H sz v n cells):bK H' sz v n cells:=by
 obtain⟨h1,a,cap,h2,h3,h4⟩:=h;refine⟨h1,a,cap,h2,h3,h4.imp id ?_⟩;rintro ⟨b,o,h5,h6⟩;exact⟨b,o,h5,λj u hu=>aX.Rf hh (h6 j u hu)⟩
def bK.nil(H:aX)(sz:Nat):bK H sz Θ 0 []:=⟨by simp,none,0,rfl,zzz _,.inl rfl⟩
def aY.freeze{H:aX}{v:Ε}{t:Ι}{sz n:Nat}{cells:Ξ}(h:SL W (.mem H::.ob (aY v t sz n cells)::l) w):∃H',H.le H'/\bK H' sz v n cells/\SL W (.mem H'::l) w:=by
 rcases aY.open (h.perm (.swap _ _ _)) with ⟨⟨a,rfl⟩,rfl,rfl,hS⟩|⟨b,cap,rest,rfl,hc,hlen,ij,hS⟩
 ·exact⟨H,aX.le_refl H,⟨by simp,a,0,rfl,zzz _,.inl rfl⟩,hS⟩
 obtain⟨H',h1,h2,h3⟩:=SL.freeze (hS.perm (.swap _ _ _));refine⟨H',h1,⟨hlen,_,cap,rfl,hc,.inr ⟨b,0,rfl,λj u hu=>?_⟩⟩,h3⟩;rw[zz2];refine h2 j u ?_;rw[zzs (zzf.1 hu).1];exact hu
def bK.one{H:aX}{sz n:Nat}{v:Ε}{cells:Ξ}(h:bK H sz v n cells):v.oneCell'=true:=by
 obtain⟨_,a,cap,rfl,_,_⟩:=h;rfl
def sh{H:aX}{y:Ε}{sz m:Nat}{cs:Ξ}(hS:SL W l w)(hm:Has (.mem H) l)(h:bK H sz y m cs):il w sz y m cs:=by
 obtain⟨h1,a,cap,rfl,h3,h4⟩:=h;cases a with
 | none=>
  rcases h4 with rfl|⟨b,o,h5,_⟩
  ·exact⟨rfl,zzm (by simpa using h1)⟩
  cases h5
 | some p=>
  refine⟨rfl,h1,λj v e=>?_⟩;rcases h4 with rfl|⟨b,o,h5,h6⟩
  ·have:cs=[]:=zzm (by simpa using h1);subst this;simp at e
  cases h5;rw[zz7];exact hS.Ay hm (h6 j v e)
def zh{H:aX}{v:Ε}{sz n:Nat}{cells:Ξ}{K:Ε->Prop}(h:bK H sz v n cells)(k:K (Γ n)):zd v K:=by
 obtain⟨_,a,cap,rfl,_,_⟩:=h;exact zY k
def Yt{H:aX}{v:Ε}{sz n j:Nat}{k:IntKind}{cells:Ξ}{K:Ε->Prop}(h:bK H sz v n cells)(hj:j<n)
  (hK:∀b o,(∀i u,i<sz->cells[j*sz+i]?=some u->H.cell b (o+i)=some u)->K (.pointer (some ⟨b,o,none⟩))):zj sz v (.int k (j:Int)) K:=by
 obtain⟨_,a,cap,rfl,_,h4⟩:=h;rcases h4 with rfl|⟨b,o,rfl,h6⟩
 ·omega
 refine zM hj (hK b (o+j*sz) λi u hi hu=>?_);have:=h6 _ u hu
 rwa [<- ww3]at this
def yg{H:aX}{v u:Ε}{n j:Nat}{k:IntKind}{cells:Ξ}{K:Ε->Prop}(hS:SL W l w)(hm:Has (.mem H) l)(h:bK H 1 v n cells)(hj:j<n)(hu:cells[j]?=some u)(hK:K u):
  zj 1 v (.int k (j:Int)) λp=>bx p w K:=
 Yt h hj λb o hb=>Qj hS hm (hb 0 u (by omega) (by simpa using hu)) hK
end
