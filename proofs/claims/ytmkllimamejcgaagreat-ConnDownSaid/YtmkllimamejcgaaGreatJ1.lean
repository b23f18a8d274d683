/- Part. -/
import Derived.Test.YtmkllimamejcgaaGreatQEng10
namespace Go.Proofs.YtmkllimamejcgaaGreat
set_option linter.all false
open Go.RowKit
def xxc:=@decide_eq_false_iff_not
def vvc:=@Array.getElem?_modify
def yyd:=@Addr.add_lit
def vvh:=@Nat.add_assoc
def yy6:=@List.drop_eq_nil_of_le
def xxn:=@Nat.add_zero
def zzp:=@of_decide_eq_true
def yy0:=@of_decide_eq_false
def xx0:=@Int.tmod_eq_emod_of_nonneg
def vv2:=@List.perm_middle
def yyy:=@Nat.mul_le_mul_right
def zzq:=@List.length_drop
def wwo:=@Nat.mul_sub_right_distrib
abbrev bw:=Nat->Option Obj
abbrev zB:=bw->Prop
def bw.emp:bw:=λ_=>none
def bw.one(b:Nat)(o:Obj):bw:=λk=>if k=b then some o else none
def Sep(h h1 h2:bw):Prop:=∀b,(h1 b=none/\h b=h2 b)\/(h2 b=none/\h b=h1 b)
def bw.le(h k:bw):Prop:=∀b o,h b=some o->k b=some o
def Sep.symm{h h1 h2:bw}(s:Sep h h1 h2):Sep h h2 h1:=λb=>(s b).symm
def Sep.left{h h1 h2:bw}(s:Sep h h1 h2):h1.le h:=λb o e=>by
 rcases s b with ⟨a,c⟩|⟨a,c⟩
 ·rw[a]at e;cases e
 rw[c,e]
def Sep.right{h h1 h2:bw}(s:Sep h h1 h2):h2.le h:=s.symm.left
def Sep.emp(h:bw):Sep h bw.emp h:=λb=>.inl ⟨rfl,rfl⟩
def Sep.cnd{h h1:bw}(s:Sep h bw.emp h1):h=h1:=funext λb=>by
 rcases s b with ⟨_,c⟩|⟨a,c⟩
 ·exact c
 rw[c,a];rfl
def Sep.swap{h h1 h2 h3 h4:bw}(s:Sep h h1 h2)(t:Sep h2 h3 h4):∃k,Sep h h3 k/\Sep k h1 h4:=by
 refine⟨λb=>(h1 b).or (h4 b),λb=>?_,λb=>?_⟩
 ·rcases s b with ⟨a,c⟩|⟨a,c⟩<;>rcases t b with ⟨d,e⟩|⟨d,e⟩<;>simp_all
 rcases s b with ⟨a,c⟩|⟨a,c⟩<;>rcases t b with ⟨d,e⟩|⟨d,e⟩<;>simp_all
def Sep.assoc{h h1 h2 h3 h4:bw}(s:Sep h h1 h2)(t:Sep h1 h3 h4):∃k,Sep h h3 k/\Sep k h4 h2:=by
 obtain⟨k,a,b⟩:=s.symm.swap t;exact⟨k,a,b.symm⟩
def Sep.join{h h1 h2 h3 k:bw}(s:Sep h h3 k)(t:Sep k h1 h2):∃k',Sep h k' h2/\Sep k' h3 h1:=by
 obtain⟨k',a,b⟩:=s.swap t.symm;exact⟨k',a.symm,b⟩
inductive Chunk where
 | pt (b:Nat) (cs:Ξ) (t:Ι)
 | mp (b:Nat) (es:List MapEntry) (clock:Nat)
 | mem (H:bw)
 | ob (A:zB)
def XL(n:Nat)(f:Nat × Nat):Prop:=f.1=f.2\/n<=f.1
def Chunk.holds:Chunk->zB
 | .pt b cs t=>λh=>∃f,XL cs.length f/\h=bw.one b (.cells cs.toArray t f)
 | .mp b es c=>λh=>h=bw.one b (.map es.toArray c)
 | .mem H=>λh=>h=H
 | .ob A=>A
def star:List Chunk->zB
 | [],h=>h=bw.emp
 | c::l,h=>∃h1 h2,Sep h h1 h2/\c.holds h1/\star l h2
structure SL(W:Ζ)(l:List Chunk)(w:Ζ):Prop where
 os:w.os=W.os
 tape:w.tape=W.tape
 output:w.output=W.output
 out:∃h:bw,star l h/\∀b o,h b=some o->w.heap[b]?=some o
def cB9{A B:Chunk}{l:List Chunk}{h:bw}(s:star (A::B::l) h):star (B::A::l) h:=by
 obtain⟨h1,h2,s1,a,h3,h4,s2,b,r⟩:=s;obtain⟨k,x,y⟩:=s1.swap s2;exact⟨h3,k,x,b,h1,h4,y,a,r⟩
def cB8{l l':List Chunk}(p:l.Perm l'):∀{h:bw},star l h->star l' h:=by
 induction p with
 | nil=>exact λs=>s
 | cons x _ ih=>rintro h ⟨h1,h2,s,a,r⟩;exact⟨h1,h2,s,a,ih r⟩
 | swap x y l=>exact λs=>cB9 s
 | trans _ _ i j=>exact λs=>j (i s)
def SL.perm{W:Ζ}{l l':List Chunk}{w:Ζ}(h:SL W l w)(p:l.Perm l'):SL W l' w:=
 ⟨h.os,h.tape,h.output,let ⟨k,s,m⟩:=h.out;⟨k,cB8 p s,m⟩⟩
def Xm{l l':List Chunk}:∀{h:bw},star (l++l') h↔∃h1 h2,Sep h h1 h2/\star l h1/\star l' h2:=by
 induction l with
 | nil=>
  intro h;constructor
  ·intro s;exact⟨bw.emp,h,Sep.emp h,rfl,s⟩
  rintro ⟨h1,h2,s,rfl,t⟩;rw[s.cnd];exact t
 | cons c l ih=>
  intro h;constructor
  ·rintro ⟨h1,h2,s,a,r⟩;obtain⟨h3,h4,t,b,d⟩:=ih.1 r;obtain⟨k,x,y⟩:=s.join t;exact⟨k,h4,x,⟨h1,h3,y,a,b⟩,d⟩
  rintro ⟨h1,h2,s,⟨h3,h4,t,a,b⟩,d⟩;obtain⟨k,x,y⟩:=s.assoc t;exact⟨h3,k,x,a,ih.2 ⟨h4,h2,y,b,d⟩⟩
section
variable {W w:Ζ} {l:List Chunk}
def SL.drop{c:Chunk}(h:SL W (c::l) w):SL W l w:=
 ⟨h.os,h.tape,h.output,let ⟨k,⟨h1,h2,s,a,r⟩,m⟩:=h.out;⟨h2,r,λb o e=>m b o (s.right b o e)⟩⟩
def SL.conv{c:Chunk}{l1:List Chunk}(h:SL W (c::l) w)(f:∀k,c.holds k->star l1 k):SL W (l1++l) w:=
 ⟨h.os,h.tape,h.output,let ⟨k,⟨h1,h2,s,a,r⟩,m⟩:=h.out;⟨k,Xm.2 ⟨h1,h2,s,f _ a,r⟩,m⟩⟩
def SL.fold{c:Chunk}{l1:List Chunk}(h:SL W (l1++l) w)(f:∀k,star l1 k->c.holds k):SL W (c::l) w:=
 ⟨h.os,h.tape,h.output,let ⟨k,s,m⟩:=h.out;let ⟨h1,h2,s,a,r⟩:=Xm.1 s;⟨k,⟨h1,h2,s,f _ a,r⟩,m⟩⟩
def jK{α:Type}(A:α->zB):zB:=λh=>∃x,A x h
def zG(p:Prop)(l:List Chunk):zB:=λh=>p/\star l h
def SL.ex{α:Type}{A:α->zB}:SL W (.ob (jK A)::l) w↔∃x,SL W (.ob (A x)::l) w:=by
 constructor
 ·rintro ⟨a,b,c,k,⟨h1,h2,s,⟨x,hx⟩,r⟩,m⟩;exact⟨x,a,b,c,k,⟨h1,h2,s,hx,r⟩,m⟩
 rintro ⟨x,a,b,c,k,⟨h1,h2,s,hx,r⟩,m⟩;exact⟨a,b,c,k,⟨h1,h2,s,⟨x,hx⟩,r⟩,m⟩
def SL.fact{p:Prop}{l1:List Chunk}:SL W (.ob (zG p l1)::l) w↔p/\SL W (l1++l) w:=by
 constructor
 ·intro h;obtain⟨k,⟨h1,h2,s,⟨hp,hx⟩,r⟩,m⟩:=h.out;exact⟨hp,h.conv (λ_ s=>s.2)⟩
 rintro ⟨hp,h⟩;exact h.fold (λ_ s=>⟨hp,s⟩)
inductive Has (c:Chunk):List Chunk->Prop where
 | hd {l:List Chunk}:Has c (c::l)
 | tl {d:Chunk} {l:List Chunk} (h:Has c l):Has c (d::l)
def Has.heap{c:Chunk}{l:List Chunk}(h:Has c l):∀{k:bw},star l k->∃h1,c.holds h1/\h1.le k:=by
 induction h with
 | hd=>rintro k ⟨h1,h2,s,a,r⟩;exact⟨h1,a,s.left⟩
 | tl _ ih=>
  rintro k ⟨h1,h2,s,a,r⟩;obtain⟨h3,b,e⟩:=ih r;exact⟨h3,b,λx o y=>s.right x o (e x o y)⟩
inductive gh (c d:Chunk):List Chunk->List Chunk->Prop where
 | hd {l:List Chunk}:gh c d (c::l) (d::l)
 | tl {e:Chunk} {l l':List Chunk} (h:gh c d l l'):gh c d (e::l) (e::l')
inductive gd (c:Chunk):List Chunk->List Chunk->Prop where
 | hd {l:List Chunk}:gd c (c::l) l
 | tl {d:Chunk} {l l':List Chunk} (h:gd c l l'):gd c (d::l) (d::l')
inductive gC:List Chunk->List Chunk->List Chunk->Prop where
 | nil {l:List Chunk}:gC [] l l
 | cons {c:Chunk} {p l l' F:List Chunk} (h:gd c l l') (k:gC p l' F):gC (c::p) l F
def gd.perm{c:Chunk}{l l':List Chunk}(h:gd c l l'):l.Perm (c::l'):=by
 induction h with
 | hd=>exact .refl _
 | tl _ ih=>exact (ih.cons _).trans (.swap _ _ _)
def gC.perm{p l F:List Chunk}(h:gC p l F):l.Perm (p++F):=by
 induction h with
 | nil=>exact .refl _
 | cons r _ ih=>exact r.perm.trans (ih.cons _)
def SL.pick{p F:List Chunk}(h:SL W l w)(k:gC p l F):SL W (p++F) w:=h.perm k.perm
def SL.oQ{b:Nat}{cs:Ξ}{t:Ι}(h:SL W l w)(m:Has (.pt b cs t) l):∃f,XL cs.length f/\w.heap[b]?=some (.cells cs.toArray t f):=by
 obtain⟨k,s,x⟩:=h.out;obtain⟨h1,⟨f,hf,rfl⟩,le⟩:=m.heap s;exact⟨f,hf,x b _ (le b _ (by simp[bw.one]))⟩
def SL.cell{b o:Nat}{cs:Ξ}{t:Ι}{v:Ε}(h:SL W l w)(m:Has (.pt b cs t) l)(hv:cs[o]?=some v):w.cell? ⟨b,o,none⟩=some v:=by
 obtain⟨f,_,e⟩:=h.oQ m;simp[World.cell?,e,hv]
def SL.frozen{b o:Nat}{cs:Ξ}{t:Ι}{v:Ε}(h:SL W l w)(m:Has (.pt b cs t) l)(hv:cs[o]?=some v):w.frozen? ⟨b,o,none⟩=false:=by
 obtain⟨f,hf,e⟩:=h.oQ m;have de:=(zzf.1 hv).1;obtain⟨x,y⟩:=f;simp only[World.frozen?,e];rcases hf with hf|hf
 ·simp only[Bool.and_eq_false_iff,xxc];simp only at hf;omega
 simp only[Bool.and_eq_false_iff,xxc];simp only at hf;omega
def bw.cell(H:bw)(b o:Nat):Option Ε:=match H b with
 | some (.cells c _ _)=>c[o]?
 | _=>none
def SL.JS{H:bw}{b o:Nat}{v:Ε}(h:SL W l w)(m:Has (.mem H) l)(hv:H.cell b o=some v):w.cell? ⟨b,o,none⟩=some v:=by
 obtain⟨k,s,x⟩:=h.out;obtain⟨h1,rfl,le⟩:=m.heap s;unfold bw.cell at hv;split at hv
 ·rename_i c t f e;have:=x b _ (le b _ e);simp[World.cell?,this,hv]
 cases hv
def gh.perm{c d:Chunk}{l l':List Chunk}(u:gh c d l l'):∃r,l.Perm (c::r)/\l'.Perm (d::r):=by
 induction u with
 | hd=>exact⟨_,.refl _,.refl _⟩
 | tl _ ih=>
  obtain⟨r,p,q⟩:=ih;exact⟨_::r,(p.cons _).trans (.swap _ _ _),(q.cons _).trans (.swap _ _ _)⟩
def SL.rS{l':List Chunk}{c d:Chunk}{w':Ζ}{b:Nat}{o':Obj}(h:SL W l w)(u:gh c d l l')(hc:∀k,c.holds k->∃o,k=bw.one b o)(hd:d.holds (bw.one b o'))
  (hw:w'.heap[b]?=some o') (hk:∀x,x≠b->w'.heap[x]?=w.heap[x]?) (e1:w'.os=w.os) (e2:w'.tape=w.tape) (e3:w'.output=w.output):SL W l' w':=by
 obtain⟨r,p,q⟩:=u.perm;obtain⟨a1,a2,a3,k,⟨h1,h2,s,a,t⟩,m⟩:=h.perm p;obtain⟨o,rfl⟩:=hc _ a;have hb:h2 b=none:=by
  rcases s b with ⟨x,_⟩|⟨x,_⟩
  ·simp[bw.one]at x
  exact x
 suffices hs:SL W (d::r) w' from hs.perm q.symm
 refine⟨e1.trans a1,e2.trans a2,e3.trans a3,λx=>if x=b then some o' else h2 x,⟨bw.one b o',h2,λx=>?_,hd,t⟩,λx y e=>?_⟩
 ·by_cases hx:x=b
  ·subst hx;exact .inr ⟨hb,by simp[bw.one]⟩
  exact .inl ⟨by simp[bw.one,hx],by simp[hx]⟩
 by_cases hx:x=b
 ·subst hx;simp at e;rw[hw,e]
 simp[hx]at e
 rw[hk x hx];exact m x y (s.right x y e)
def SL.store{l':List Chunk}{b o:Nat}{cs:Ξ}{t:Ι}{v u:Ε}(h:SL W l w)(m:gh (.pt b cs t) (.pt b (cs.set o v) t) l l')(hu:cs[o]?=some u):SL W l' (w.setCell ⟨b,o,none⟩ v):=by
 have hm:Has (.pt b cs t) l:=by
  clear h;generalize hd:Chunk.pt b (cs.set o v) t=d at m;induction m with
  | hd=>exact .hd
  | tl _ ih=>exact .tl ih
 obtain⟨f,hf,e⟩:=h.oQ hm;refine h.rS (b:=b) (o':=.cells (cs.set o v).toArray t f) m ?_ ⟨f,by simpa using hf,rfl⟩ ?_ ?_ rfl rfl rfl
 ·rintro k ⟨f,_,rfl⟩;exact⟨_,rfl⟩
 ·show (w.heap.modify b _)[b]?=_;rw[vvc];simp[e]
 intro x hx;exact Below.heap_setCell w ⟨b,o,none⟩ v x hx
def SL.alloc{o:Obj}{c:Chunk}(h:SL W l w)(hc:c.holds (bw.one w.heap.size o)):SL W (c::l) (w.alloc o):=by
 obtain⟨a1,a2,a3,k,s,m⟩:=h;have hb:k w.heap.size=none:=by
  cases hx:k w.heap.size with
  | none=>rfl
  | some y=>have:=m _ _ hx;simp at this
 refine⟨a1,a2,a3,λx=>if x=w.heap.size then some o else k x,⟨bw.one w.heap.size o,k,λx=>?_,hc,s⟩,λx y e=>?_⟩
 ·by_cases hx:x=w.heap.size
  ·subst hx;exact .inr ⟨hb,by simp[bw.one]⟩
  exact .inl ⟨by simp[bw.one,hx],by simp[hx]⟩
 by_cases hx:x=w.heap.size
 ·subst hx;simp at e;subst e;exact heap_alloc_new w o
 simp[hx]at e
 have:=m x y e;have de:x<w.heap.size:=(yy8.1 this).1;rw[Below.heap_alloc w o x de];exact this
def SL.new{cs:Ξ}{t:Ι}(h:SL W l w):SL W (.pt w.heap.size cs t::l) (w.alloc (.cells cs.toArray t)):=
 h.alloc ⟨(0,0),.inl rfl,rfl⟩
def SL.drew(h:SL W l w):SL W l w.drew:=⟨h.os,h.tape,h.output,h.out⟩
def bw.of(w:Ζ):bw:=λb=>w.heap[b]?
def SL.init(w:Ζ):SL w [.mem (bw.of w)] w:=by
 refine⟨rfl,rfl,rfl,bw.of w,⟨bw.of w,bw.emp,λb=>.inr ⟨rfl,rfl⟩,rfl,rfl⟩,λb o e=>e⟩
def bw.le_refl(H:bw):H.le H:=λ_ _ e=>e
def bw.le_trans{H K L:bw}(h:H.le K)(k:K.le L):H.le L:=λb o e=>k b o (h b o e)
def bw.aWb{H K:bw}(h:H.le K){b o:Nat}{v:Ε}(e:H.cell b o=some v):K.cell b o=some v:=by
 unfold bw.cell at *
 split at e
 ·rename_i c t f he;rw[h _ _ he];exact e
 cases e
def SL.freeze{H:bw}{b:Nat}{cs:Ξ}{t:Ι}(h:SL W (.mem H::.pt b cs t::l) w):∃H',H.le H'/\(∀o v,cs[o]?=some v->H'.cell b o=some v)/\SL W (.mem H'::l) w:=by
 obtain⟨a1,a2,a3,k,⟨h1,h2,s,rfl,h3,h4,s',⟨f,hf,rfl⟩,r⟩,m⟩:=h;obtain⟨k',x,y⟩:=s.join s';refine⟨k',λb o e=>?_,λo v e=>?_,a1,a2,a3,k,⟨k',h4,x,rfl,r⟩,m⟩
 ·exact y.left b o e
 have:k' b=some (.cells cs.toArray t f):=y.right b _ (by simp[bw.one]);simp[bw.cell,this,e]
def SL.below{H:bw}(h:SL W l w)(m:Has (.mem H) l)(hH:(bw.of W).le H):Below W.heap.size W w:=by
 obtain⟨k,s,x⟩:=h.out;obtain⟨h1,rfl,le⟩:=m.heap s;have hk:∀b,b<W.heap.size->w.heap[b]?=W.heap[b]?:=λb hb=>by
  have e:W.heap[b]?=some (W.heap[b]):=wwn hb;rw[e];exact x b _ (le b _ (hH b _ e))
 refine⟨h.os,h.tape,h.output,?_,hk⟩;rcases yyu W.heap.size with h0|h0
 ·omega
 have e:=hk (W.heap.size-1) (by omega);have e2:W.heap[W.heap.size-1]?=some (W.heap[W.heap.size-1]):=wwn (by omega);rw[e2]at e
 have:=(yy8.1 e).1;omega
end
section
variable {W w:Ζ} {l l':List Chunk}
def cAs{a:Addr}{K:Ε->Prop}(h:K (.pointer (some a))):qa (.pointer (some a)) K:=⟨a,rfl,h⟩
def yK{b o off:Nat}{K:Ε->Prop}(h:K (.pointer (some ⟨b,o+off,none⟩))):zl off (.pointer (some ⟨b,o,none⟩)) K:=by
 refine⟨_,rfl,?_⟩;rw[yyd];exact h
def zV{b o:Nat}{cs:Ξ}{t:Ι}{v:Ε}{K:Ε->Prop}(hS:SL W l w)(m:Has (.pt b cs t) l)(hv:cs[o]?=some v)(h:K v):cn (.pointer (some ⟨b,o,none⟩)) w K:=
 ⟨_,v,rfl,hS.cell m hv,h⟩
def Gx{H:bw}{b o:Nat}{v:Ε}{K:Ε->Prop}(hS:SL W l w)(m:Has (.mem H) l)(hv:H.cell b o=some v)(h:K v):cn (.pointer (some ⟨b,o,none⟩)) w K:=
 ⟨_,v,rfl,hS.JS m hv,h⟩
def yG{b o n:Nat}{cs vs:Ξ}{t:Ι}{K:Ε->Prop}(hS:SL W l w)(m:Has (.pt b cs t) l)(hn:vs.length=n)(hv:∀j v,vs[j]?=some v->cs[o+j]?=some v)(h:K (.agg vs.toArray)):zg n (.pointer (some ⟨b,o,none⟩)) w K:=
 ⟨_,vs,rfl,hn,λj v e=>by rw[yyd];exact hS.cell m (hv j v e),h⟩
def zA{b n:Nat}{cs:Ξ}{t:Ι}{K:Ε->Prop}(hS:SL W l w)(m:Has (.pt b cs t) l)(hn:cs.length=n)(h:K (.agg cs.toArray)):zg n (Δ b) w K:=
 yG hS m hn (λj v e=>by rw[yye];exact e) h
def QU{H:bw}{b o n:Nat}{vs:Ξ}{K:Ε->Prop}(hS:SL W l w)(m:Has (.mem H) l)(hn:vs.length=n)(hv:∀j v,vs[j]?=some v->H.cell b (o+j)=some v)(h:K (.agg vs.toArray)):zg n (.pointer (some ⟨b,o,none⟩)) w K:=
 ⟨_,vs,rfl,hn,λj v e=>by rw[yyd];exact hS.JS m (hv j v e),h⟩
def Zz{b o:Nat}{cs:Ξ}{t:Ι}{v u:Ε}{K:Ζ->Prop}(hS:SL W l w)(m:gh (.pt b cs t) (.pt b (cs.set o v) t) l l')(hu:cs[o]?=some u)(h1:v.oneCell'=true)(h:∀w',SL W l' w'->K w'):
  eH (.pointer (some ⟨b,o,none⟩)) v w K:=by
 have hm:Has (.pt b cs t) l:=by
  clear hS h;generalize hd:Chunk.pt b (cs.set o v) t=d at m;induction m with
  | hd=>exact .hd
  | tl _ ih=>exact .tl ih
 exact⟨_,u,rfl,h1,hS.cell hm hu,hS.frozen hm hu,h _ (hS.store m hu)⟩
def p6(cs:Ξ)(o:Nat):Ξ->Ξ
 | []=>cs
 | v::r=>p6 (cs.set o v) (o+1) r
def gh.has{c d:Chunk}(u:gh c d l l'):Has c l:=by
 induction u with
 | hd=>exact .hd
 | tl _ ih=>exact .tl ih
def gh.other{c d:Chunk}(u:gh c d l l')(e:Chunk):∃l2,gh c e l l2/\gh e d l2 l':=by
 induction u with
 | hd=>exact⟨_,.hd,.hd⟩
 | tl _ ih=>obtain⟨l2,p,q⟩:=ih;exact⟨_,.tl p,.tl q⟩
def BO{b:Nat}{t:Ι}{K:Ζ->Prop}:∀(vs:Ξ) (o i:Nat) (cs:Ξ) (w:Ζ) (l l':List Chunk),SL W l w->gh (.pt b cs t) (.pt b (p6 cs (o+i) vs) t) l l'->o+i+vs.length<=cs.length->(∀v∈vs,v.oneCell'=true) ->
  (∀w',SL W l' w'->K w')->tV ⟨b,o,none⟩ i vs w K
 | [],o,i,cs,w,l,l',hS,u,hl,h1,h=>by
  refine h w ?_;simp only[p6]at u;have:l=l':=by
   clear hS h;generalize hc:Chunk.pt b cs t=c at u;revert hc;induction u with
   | hd=>intro;rfl
   | tl _ ih=>intro hc;rw[ih hc]
  rw[<- this];exact hS
 | v::r,o,i,cs,w,l,l',hS,u,hl,h1,h=>by
  simp only[zzi]at hl;have hc:cs[o+i]?=some (cs[o+i]'(by omega)):=zzc (by omega);obtain⟨l2,p,q⟩:=u.other (.pt b (cs.set (o+i) v) t);refine⟨h1 v (by simp),⟨_,by rw[yyd];exact hS.cell u.has hc⟩,by rw[yyd];exact hS.frozen u.has hc,?_⟩;rw[yyd];exact BO r o (i+1) _ _ l2 l' (hS.store p hc) (by simpa [p6,vvh] using q) (by simp;omega) (λv hv=>h1 v (by simp[hv])) h
def BC:∀(vs cs:Ξ) (o:Nat),o+vs.length<=cs.length->p6 cs o vs=cs.take o++vs++cs.drop (o+vs.length)
 | [],cs,o,_=>by simp[p6]
 | v::r,cs,o,h=>by
  simp only[zzi]at h;obtain⟨A,x,B,rfl,hA⟩:∃A x B,cs=A++x::B/\A.length=o:=by
   refine⟨cs.take o,cs[o]'(by omega),cs.drop (o+1),?_,by simp;omega⟩;rw[<- yyq,yyk]
  subst hA;rw[p6,BC r _ _ (by simp at h ⊢;omega)];have e1:(A++x::B).set A.length v=A++v::B:=by simp
  have e2:(A++v::B).take (A.length+1)=A++[v]:=by rw[xxy];simp
  have e3:(A++v::B).drop (A.length+1+r.length)=B.drop r.length:=by rw[show A.length+1+r.length=A.length+(r.length+1) by omega,xxd];simp
  have e5:(A++x::B).drop (A.length+(r.length+1))=B.drop r.length:=by rw[xxd];simp
  simp only[zzi]at *
  rw[e1,e2,e3,e5];simp
def zr{b n:Nat}{cs vs:Ξ}{t:Ι}{K:Ζ->Prop}(hS:SL W l w)(m:gh (.pt b cs t) (.pt b vs t) l l')(hn:vs.length=n)(hc:cs.length=n)(h1:∀v∈vs,v.oneCell'=true)(h:∀w',SL W l' w'->K w'):
  zj n (Δ b) (.agg vs.toArray) w K:=by
 refine⟨_,vs,rfl,rfl,hn,BO (t:=t) vs 0 0 cs w l l' hS ?_ (by omega) h1 h⟩;rw[BC _ _ _ (by omega)];have:cs.drop (0+0+vs.length)=[]:=yy6 (by omega);rw[this];simpa using m
def Ye{b o n:Nat}{cs vs:Ξ}{t:Ι}{K:Ζ->Prop}(hS:SL W l w)(m:gh (.pt b cs t) (.pt b (cs.take o++vs++cs.drop (o+n)) t) l l')(hn:vs.length=n)(hc:o+n<=cs.length)(h1:∀v∈vs,v.oneCell'=true)(h:∀w',SL W l' w'->K w'):
  zj n (.pointer (some ⟨b,o,none⟩)) (.agg vs.toArray) w K:=by
 refine⟨_,vs,rfl,rfl,hn,BO (t:=t) vs o 0 cs w l l' hS ?_ (by omega) h1 h⟩;rw[xxn,BC _ _ _ (by omega),hn];exact m
def zC{cs:Ξ}{t:Ι}{K:Ε->Ζ->Prop}(hS:SL W l w)(h:∀b w',SL W (.pt b cs t::l) w'->K (Δ b) w'):zh cs t w K:=h _ _ hS.new
def cz2{a b:Ε}{K:Ε->Prop}(h:K a):zf 0 (.tuple #[a,b]) K:=⟨_,a,rfl,rfl,h⟩
def cz3{a b:Ε}{K:Ε->Prop}(h:K b):zf 1 (.tuple #[a,b]) K:=⟨_,b,rfl,rfl,h⟩
def cz4{a b c:Ε}{K:Ε->Prop}(h:K a):zf 0 (.tuple #[a,b,c]) K:=⟨_,a,rfl,rfl,h⟩
def cz5{a b c:Ε}{K:Ε->Prop}(h:K b):zf 1 (.tuple #[a,b,c]) K:=⟨_,b,rfl,rfl,h⟩
def cz6{a b c:Ε}{K:Ε->Prop}(h:K c):zf 2 (.tuple #[a,b,c]) K:=⟨_,c,rfl,rfl,h⟩
def cz7{a b c d:Ε}{K:Ε->Prop}(h:K a):zf 0 (.tuple #[a,b,c,d]) K:=⟨_,a,rfl,rfl,h⟩
def cz8{a b c d:Ε}{K:Ε->Prop}(h:K b):zf 1 (.tuple #[a,b,c,d]) K:=⟨_,b,rfl,rfl,h⟩
def cz9{a b c d:Ε}{K:Ε->Prop}(h:K c):zf 2 (.tuple #[a,b,c,d]) K:=⟨_,c,rfl,rfl,h⟩
def cAa{a b c d:Ε}{K:Ε->Prop}(h:K d):zf 3 (.tuple #[a,b,c,d]) K:=⟨_,d,rfl,rfl,h⟩
def ye{a:Option Addr}{n c:Nat}{K:Ε->Prop}(h:K (Γ n)):zd (.slice a n c) K:=⟨a,n,c,rfl,h⟩
def cAi{s:Η}{K:Ε->Prop}(h:K (Γ s.size)):zX (.string s) K:=⟨s,rfl,h⟩
def zF{b o len cap sz j:Nat}{k:IntKind}{K:Ε->Prop}(hj:j<len)(h:K (.pointer (some ⟨b,o+j*sz,none⟩))):zk sz (.slice (some ⟨b,o,none⟩) len cap) (.int k (j:Int)) K:=
 ⟨_,len,cap,k,j,rfl,rfl,hj,by rw[yyd];exact h⟩
def yT{b:Bool}{A B:Prop}(h1:b=true->A)(h2:b=false->B):dm (.bool b) A B:=⟨b,rfl,h1,h2⟩
def za{p:Prop}[Decidable p]{A B:Prop}(h1:p->A)(h2:¬p->B):dm (.bool (decide p)) A B:=⟨_,rfl,λe=>h1 (zzp e),λe=>h2 (yy0 e)⟩
def zq{A B:Prop}(h:A):dm (.bool true) A B:=⟨_,rfl,λ_=>h,λe=>by cases e⟩
def zp{A B:Prop}(h:B):dm (.bool false) A B:=⟨_,rfl,(λe=>(by cases e)),λ_=>h⟩
def zt{A B:Prop}{b:Bool}(h1:b=false->A)(h2:b=true->B):dm (.bool !b) A B:=⟨_,rfl,(λe=>h1 (by simpa using e)),(λe=>h2 (by simpa using e))⟩
def Kv{a b:Int}{K:Ε->Prop}(hr : -9223372036854775808<=a+b/\a+b<=9223372036854775807)(h:K (Γ (a+b))):zc .add (Γ a) (Γ b) K:=
 ⟨_,rfl,by rw[xxz _ hr];exact h⟩
def cA6{a b:Int}{K:Ε->Prop}(hr : -9223372036854775808<=a-b/\a-b<=9223372036854775807)(h:K (Γ (a-b))):zc .sub (Γ a) (Γ b) K:=
 ⟨_,rfl,by rw[xxz _ hr];exact h⟩
def cAp{a b:Int}{K:Ε->Prop}(hr : -9223372036854775808<=a*b/\a*b<=9223372036854775807)(h:K (Γ (a*b))):zc .mul (Γ a) (Γ b) K:=
 ⟨_,rfl,by rw[xxz _ hr];exact h⟩
def Zy{a b:Nat}{K:Ε->Prop}(hr:a+b<=9223372036854775807)(h:K (Γ ((a+b:Nat):Int))):zc .add (Γ (a:Int)) (Γ (b:Int)) K:=
 Kv (by omega) (by rw[show (a:Int)+(b:Int)=((a+b:Nat):Int) by omega];exact h)
def QQ{a:Nat}{K:Ε->Prop}(hr:a+1<=9223372036854775807)(h:K (Γ ((a+1:Nat):Int))):zc .add (Γ (a:Int)) (Γ 1) K:=
 Kv (by omega) (by rw[show (a:Int)+1=((a+1:Nat):Int) by omega];exact h)
def ZK{k:IntKind}{a b:Int}{K:Ε->Prop}(hb:b≠0)(h:K (.int k (a.tmod b))):zc .rem (.int k a) (.int k b) K:=
 ⟨.int k (a.tmod b),by simp[jA,hb],h⟩
def Kz{a b:Int}{K:Ε->Prop}(hb:b≠0)(hr : -9223372036854775808<=a.tdiv b/\a.tdiv b<=9223372036854775807)(h:K (Γ (a.tdiv b))):zc .quo (Γ a) (Γ b) K:=
 ⟨Γ (a.tdiv b),by simp[jA,hb,xxz _ hr],h⟩
def QW{k:IntKind}{a b:Nat}{K:Ε->Prop}(hb:0<b)(h:K (.int k ((a % b:Nat):Int))):zc .rem (.int k (a:Int)) (.int k (b:Int)) K:=
 ZK (by omega) (by rw[xx0 (by omega)];exact h)
def WN{k:IntKind}{a b:Int}{K:Ε->Prop}(h:K (.bool (decide (a=b)))):zc .eql (.int k a) (.int k b) K:=⟨.bool (decide (a=b)),by simp[jA];rfl,h⟩
def BK{k:IntKind}{a b:Int}{K:Ε->Prop}(h:K (.bool (decide (a≠b)))):zc .neq (.int k a) (.int k b) K:=⟨.bool (decide (a≠b)),by simp[jA,bne];rfl,h⟩
def DU{k:IntKind}{a b:Int}{K:Ε->Prop}(h:K (.bool (decide (a<b)))):zc .lss (.int k a) (.int k b) K:=⟨_,by simp[jA],h⟩
def cAh{k:IntKind}{a b:Int}{K:Ε->Prop}(h:K (.bool (decide (a<=b)))):zc .leq (.int k a) (.int k b) K:=⟨_,by simp[jA],h⟩
def Kw{k:IntKind}{a b:Int}{K:Ε->Prop}(h:K (.bool (decide (b<a)))):zc .gtr (.int k a) (.int k b) K:=⟨_,by simp[jA],h⟩
def cAb{k:IntKind}{a b:Int}{K:Ε->Prop}(h:K (.bool (decide (b<=a)))):zc .geq (.int k a) (.int k b) K:=⟨_,by simp[jA],h⟩
def str_inj{s t:Η}(h:s.toList=t.toList):s=t:=by
 rw[ByteArray.toList_eq,ByteArray.toList_eq]at h
 cases s;cases t;congr 1;exact Array.toList_inj.1 h
def cz1{a b:Η}{K:Ε->Prop}(h:K (.bool (decide (a=b)))):zc .eql (.string a) (.string b) K:=by
 refine⟨.bool (decide (a=b)),?_,h⟩;by_cases e:a=b
 ·subst e;simp[jA]
 have:¬a.toList=b.toList:=λx=>e (str_inj x);simp[jA,e,this]
def cAr{a b:Η}{K:Ε->Prop}(h:K (.bool (decide (a≠b)))):zc .neq (.string a) (.string b) K:=by
 refine⟨.bool (decide (a≠b)),?_,h⟩;by_cases e:a=b
 ·subst e;simp[jA]
 have:¬a.toList=b.toList:=λx=>e (str_inj x);simp[jA,e,this]
def cz0{a b:Bool}{K:Ε->Prop}(h:K (.bool (decide (a=b)))):HEq .bool false (.bool a) (.bool b) K:=⟨a == b,rfl,by cases a<;>cases b<;>simpa using h⟩
def cAq{a b:Bool}{K:Ε->Prop}(h:K (.bool (decide (a≠b)))):HEq .bool true (.bool a) (.bool b) K:=⟨a == b,rfl,by cases a<;>cases b<;>simpa using h⟩
def Yb{t:Ι}{a:Option Addr}{K:Ε->Prop}(h:K (.bool a.isNone)):HEq (.pointer t) false (.pointer a) (.pointer none) K:=⟨a.isNone,by cases a<;>rfl,h⟩
def Kx{t:Ι}{a:Option Addr}{K:Ε->Prop}(h:K (.bool a.isSome)):HEq (.pointer t) true (.pointer a) (.pointer none) K:=⟨a.isNone,by cases a<;>rfl,by cases a<;>exact h⟩
def z7{b:Bool}{K:Ε->Prop}(h:K (.bool !b)):Zf (.bool b) K:=⟨b,rfl,h⟩
def zW{j:IntKind}{n:Int}{k:IntKind}{K:Ε->Prop}(h:K (.int k (k.wrap n))):zK k (.int j n) K:=⟨j,n,rfl,h⟩
def yy{j:IntKind}{n:Int}{K:Ε->Prop}(hr : -9223372036854775808<=n/\n<=9223372036854775807)(h:K (Γ n)):zK .i64 (.int j n) K:=⟨j,n,rfl,by rw[xxz _ hr];exact h⟩
def cAo{k:IntKind}{a b:Int}{K:Ε->Prop}(h:K (.int k (min a b))):ZS (.int k a) (.int k b) K:=
 ⟨k,a,b,rfl,rfl,by rw[show (if b<a then b else a)=min a b by split<;>omega];exact h⟩
def cAn{k:IntKind}{a b:Int}{K:Ε->Prop}(h:K (.int k (max a b))):yS (.int k a) (.int k b) K:=
 ⟨k,a,b,rfl,rfl,by rw[show (if b>a then b else a)=max a b by split<;>omega];exact h⟩
def yW{z cells:Ξ}{ps:List (Nat × Nat × Ε)}{K:Ε->Prop}(hc:iz z ps=some cells)(h:K (.agg cells.toArray)):zm z ps K:=⟨cells,hc,h⟩
def zN{z cells:Ξ}{ps:List (Nat × Nat × Ε)}{e:Ι}{n:Nat}{K:Ε->Ζ->Prop}(hS:SL W l w)(hc:iz z ps=some cells)
  (h:∀b w',SL W (.pt b cells e::l) w'->K (.slice (some ⟨b,0,none⟩) n n) w'):zn z ps e n w K:=⟨cells,hc,h _ _ hS.new⟩
def WQ{z:Ξ}{hU n c:Nat}{e:Ι}{kl kc:IntKind}{K:Ε->Ζ->Prop}(hS:SL W l w)(h1:n<=c)(h2:hU*c<=281474976710656)(h3:c<9223372036854775808)
  (h:∀b w',SL W (.pt b (cK z c) e::l) w'->K (.slice (some ⟨b,0,none⟩) n c) w'):B2 z hU e (.int kl (n:Int)) (.int kc (c:Int)) w K:=⟨n,c,kl,kc,rfl,rfl,h1,h2,h3,h _ _ hS.new⟩
def yz{K:Ζ->Prop}(hS:SL W l w)(h:∀w',SL W l w'->K w'):zi w K:=h _ hS.drew
def app:List Chunk->List Chunk->List Chunk
 | [],F=>F
 | c::r,F=>c::app r F
def Cl:∀(p F:List Chunk),app p F=p++F
 | [],_=>rfl
 | c::r,F=>by rw[app,Cl r F];rfl
def SL.take{p F:List Chunk}(h:SL W l w)(k:gC p l F):SL W (app p F) w:=by rw[Cl];exact h.pick k
def Spec(P:Program)(f:FuncId)(args:Ξ)(pre:List Chunk)(Q:Ε->List Chunk->Prop):Prop:=
 ∀W F w,SL W (app pre F) w->zQ P f args w λv w'=>∃post,Q v post/\SL W (app post F) w'
def Enzz{P:Program}{f:FuncId}{args:Ξ}{pre:List Chunk}{Q:Ε->List Chunk->Prop}{l:List Chunk->List Chunk}{G:Ζ->List Chunk->Ζ->Prop}(k:∀W F w,SL W (l F) w->G W F w)(h:(∀W F w,SL W (l F) w->G W F w)->Spec P f args pre Q:=by
 intro kk W F w hS
 (try simp only[app]at hS)
 exact kk W F w hS):Spec P f args pre Q:=h k
def yH{P:Program}{f:FuncId}{args:Ξ}{pre F:List Chunk}{Q:Ε->List Chunk->Prop}{K:Ε->Ζ->Prop}(c:Spec P f args pre Q)(hS:SL W l w)(p:gC pre l F)
  (h:∀v post,Q v post->∀w',SL W (app post F) w'->K v w'):zQ P f args w K:=
 (c W F w (hS.take p)).mono λv w' ⟨post,hq,hs⟩=>h v post hq w' hs
def yg{P:Program}{T:List Bool}{f:FuncId}{first captured:Array Ε}{args args':Ξ}{pre F:List Chunk}{Q:Ε->List Chunk->Prop}{K:Ε->Ζ->Prop}(hT:T.getD f false=true)(c:Spec P f args' pre Q)
  (ha:first.toList++args++captured.toList=args') (hS:SL W l w) (p:gC pre l F)
  (h:∀v post,Q v post->∀w',SL W (app post F) w'->K v w'):zS P T (.func (.func f) first captured) args w K:=
 ⟨f,first,captured,rfl,hT,by rw[ha];exact yH c hS p h⟩
def Spec.mono{P:Program}{f:FuncId}{args:Ξ}{pre:List Chunk}{Q Q':Ε->List Chunk->Prop}(h:Spec P f args pre Q)(hq:∀v post,Q v post->Q' v post):Spec P f args pre Q':=
 λW F w hS=>(h W F w hS).mono λv w' ⟨post,hp,hs⟩=>⟨post,hq v post hp,hs⟩
def cE(u:Ε)(q:List Chunk):Ε->List Chunk->Prop:=λv post=>v=u/\post=q
inductive jU:List Chunk->List Chunk->Prop where
 | refl {l:List Chunk}:jU l l
 | cons {c:Chunk} {t l l':List Chunk} (h:gd c l l') (k:jU t l'):jU (c::t) l
 | drop {d:Chunk} {t l:List Chunk} (k:jU t l):jU t (d::l)
def jU.spec{t l:List Chunk}(k:jU t l):∃r,l.Perm (t++r):=by
 induction k with
 | refl=>exact⟨[],by simp⟩
 | cons h _ ih=>obtain⟨r,p⟩:=ih;exact⟨r,h.perm.trans (p.cons _)⟩
 | @drop d t l _ ih=>obtain⟨r,p⟩:=ih;exact⟨d::r,(p.cons d).trans vv2.symm⟩
def SL.Su:∀{r t:List Chunk} {w:Ζ},SL W (t++r) w->SL W t w
 | [],t,w,h=>by simpa using h
 | c::r,t,w,h=>SL.Su (r:=r) (SL.drop (c:=c) (h.perm vv2))
def SL.b_{t:List Chunk}(h:SL W l w)(k:jU t l):SL W t w:=by
 obtain⟨r,p⟩:=k.spec;exact (h.perm p).Su
def Y3{α:Type}{a:α}{p:Prop}(h:p):a=a/\p:=⟨rfl,h⟩
end
class iE (P:Prop) (Q:outParam Prop):Prop where
 h:Q->P
def Q0{P Q:Prop}[i:iE P Q](h:Q):P:=i.h h
section
variable {K:Ε->Prop}
instance {a:Addr}:iE (qa (.pointer (some a)) K) (K (.pointer (some a))):=⟨cAs⟩
instance {a b:Ε}:iE (zf 0 (.tuple #[a,b]) K) (K a):=⟨cz2⟩
instance {a b:Ε}:iE (zf 1 (.tuple #[a,b]) K) (K b):=⟨cz3⟩
instance {a b c:Ε}:iE (zf 0 (.tuple #[a,b,c]) K) (K a):=⟨cz4⟩
instance {a b c:Ε}:iE (zf 1 (.tuple #[a,b,c]) K) (K b):=⟨cz5⟩
instance {a b c:Ε}:iE (zf 2 (.tuple #[a,b,c]) K) (K c):=⟨cz6⟩
instance {a b c d:Ε}:iE (zf 0 (.tuple #[a,b,c,d]) K) (K a):=⟨cz7⟩
instance {a b c d:Ε}:iE (zf 1 (.tuple #[a,b,c,d]) K) (K b):=⟨cz8⟩
instance {a b c d:Ε}:iE (zf 2 (.tuple #[a,b,c,d]) K) (K c):=⟨cz9⟩
instance {a b c d:Ε}:iE (zf 3 (.tuple #[a,b,c,d]) K) (K d):=⟨cAa⟩
instance {b o off:Nat}:iE (zl off (.pointer (some ⟨b,o,none⟩)) K) (K (.pointer (some ⟨b,o+off,none⟩))):=⟨yK⟩
instance {a:Option Addr} {n c:Nat}:iE (zd (.slice a n c) K) (K (Γ n)):=⟨ye⟩
instance {s:Η}:iE (zX (.string s) K) (K (Γ s.size)):=⟨cAi⟩
instance {k:IntKind} {a b:Int}:iE (zc .eql (.int k a) (.int k b) K) (K (.bool (decide (a=b)))):=⟨WN⟩
instance {k:IntKind} {a b:Int}:iE (zc .neq (.int k a) (.int k b) K) (K (.bool (decide (a≠b)))):=⟨BK⟩
instance {k:IntKind} {a b:Int}:iE (zc .lss (.int k a) (.int k b) K) (K (.bool (decide (a<b)))):=⟨DU⟩
instance {k:IntKind} {a b:Int}:iE (zc .leq (.int k a) (.int k b) K) (K (.bool (decide (a<=b)))):=⟨cAh⟩
instance {k:IntKind} {a b:Int}:iE (zc .gtr (.int k a) (.int k b) K) (K (.bool (decide (b<a)))):=⟨Kw⟩
instance {k:IntKind} {a b:Int}:iE (zc .geq (.int k a) (.int k b) K) (K (.bool (decide (b<=a)))):=⟨cAb⟩
instance {a b:Η}:iE (zc .eql (.string a) (.string b) K) (K (.bool (decide (a=b)))):=⟨cz1⟩
instance {a b:Η}:iE (zc .neq (.string a) (.string b) K) (K (.bool (decide (a≠b)))):=⟨cAr⟩
instance {a b:Bool}:iE (HEq .bool false (.bool a) (.bool b) K) (K (.bool (decide (a=b)))):=⟨cz0⟩
instance {a b:Bool}:iE (HEq .bool true (.bool a) (.bool b) K) (K (.bool (decide (a≠b)))):=⟨cAq⟩
instance {t:Ι} {a:Option Addr}:iE (HEq (.pointer t) false (.pointer a) (.pointer none) K) (K (.bool a.isNone)):=⟨Yb⟩
instance {t:Ι} {a:Option Addr}:iE (HEq (.pointer t) true (.pointer a) (.pointer none) K) (K (.bool a.isSome)):=⟨Kx⟩
instance {b:Bool}:iE (Zf (.bool b) K) (K (.bool !b)):=⟨z7⟩
instance {k:IntKind} {a b:Int}:iE (ZS (.int k a) (.int k b) K) (K (.int k (min a b))):=⟨cAo⟩
instance {k:IntKind} {a b:Int}:iE (yS (.int k a) (.int k b) K) (K (.int k (max a b))):=⟨cAn⟩
instance {A B:Prop}:iE (dm (.bool true) A B) A:=⟨zq⟩
instance {A B:Prop}:iE (dm (.bool false) A B) B:=⟨zp⟩
instance {α:Type} {a:α} {p:Prop}:iE (a=a/\p) p:=⟨Y3⟩
end
class Aj (op:BinOp) (x y:Ε) (z:outParam Ε) (c:outParam Prop):Prop where
 h:∀{K:Ε->Prop},c->K z->zc op x y K
instance (priority:=high) {a:Nat}:Aj .add (Γ (a:Int)) (Γ 1) (Γ ((a+1:Nat):Int)) (a+1<=9223372036854775807):=⟨QQ⟩
instance {a b:Nat}:Aj .add (Γ (a:Int)) (Γ (b:Int)) (Γ ((a+b:Nat):Int)) (a+b<=9223372036854775807):=⟨Zy⟩
instance (priority:=low) {a b:Int}:Aj .add (Γ a) (Γ b) (Γ (a+b)) (-9223372036854775808<=a+b/\a+b<=9223372036854775807):=⟨Kv⟩
instance {k:IntKind} {a b:Nat}:Aj .rem (.int k (a:Int)) (.int k (b:Int)) (.int k ((a % b:Nat):Int)) (0<b):=⟨QW⟩
instance {a b:Int}:Aj .sub (Γ a) (Γ b) (Γ (a-b)) (-9223372036854775808<=a-b/\a-b<=9223372036854775807):=⟨cA6⟩
section
variable {W w:Ζ} {l l' p F:List Chunk} {c d:Chunk}
def Qb{op:BinOp}{x y z:Ε}{c:Prop}{K:Ε->Prop}[i:Aj op x y z c](h:K z)(hc:c:=by omega):zc op x y K:=i.h hc h
def Xh(h:Has c l:=by (repeat (first|exact Has.hd|apply Has.tl))):Has c l:=h
def Xu(h:gh c d l l':=by (repeat (first|exact gh.hd|apply gh.tl))):gh c d l l':=h
def Xr(h:gd c l l':=by (repeat (first|exact gd.hd|apply gd.tl))):gd c l l':=h
def Xp(h:gC p l F:=by (repeat (first|(with_reducible exact gC.nil)|((with_reducible apply gC.cons);(focus ((repeat (first|(with_reducible exact gd.hd)|(with_reducible apply gd.tl)));done)))))):gC p l F:=h
def Xi(h:jU p l:=by ((try simp only[app]);repeat (first|(with_reducible exact jU.refl)|((with_reducible apply jU.cons);(focus ((repeat (first|(with_reducible exact gd.hd)|(with_reducible apply gd.tl)));done)))|(with_reducible apply jU.drop)))):jU p l:=h
def aW{W w:Ζ}{p l:List Chunk}(x:SL W l w)(h:jU p l:=by ((try simp only[app]);repeat (first|(with_reducible exact jU.refl)|((with_reducible apply jU.cons);(focus ((repeat (first|(with_reducible exact gd.hd)|(with_reducible apply gd.tl)));done)))|(with_reducible apply jU.drop)))):SL W p w:=SL.b_ x h
def cC{W w:Ζ}{u:Ε}{q l F:List Chunk}(x:SL W l w)(h:jU (app q F) l:=by ((try simp only[app]);repeat (first|(with_reducible exact jU.refl)|((with_reducible apply jU.cons);(focus ((repeat (first|(with_reducible exact gd.hd)|(with_reducible apply gd.tl)));done)))|(with_reducible apply jU.drop)))):∃y,cE u q u y/\SL W (app y F) w:=⟨_,⟨rfl,rfl⟩,SL.b_ x h⟩
def Qa{b o:Nat}{cs:Ξ}{t:Ι}{v:Ε}{K:Ε->Prop}(hS:SL W l w)(h:K v)(m:Has (.pt b cs t) l:=by (with_unfolding_all (repeat (first|exact Has.hd|apply Has.tl))))(hv:cs[o]?=some v:=by (with_unfolding_all rfl)):cn (.pointer (some ⟨b,o,none⟩)) w K:=zV hS m hv h
def Qc{b n:Nat}{cs:Ξ}{t:Ι}{K:Ε->Prop}(hS:SL W l w)(h:K (.agg cs.toArray))(m:Has (.pt b cs t) l:=by (with_unfolding_all (repeat (first|exact Has.hd|apply Has.tl))))(hn:cs.length=n:=by (with_unfolding_all rfl)):zg n (Δ b) w K:=zA hS m hn h
def Qd{z cells:Ξ}{ps:List (Nat × Nat × Ε)}{K:Ε->Prop}(h:K (.agg cells.toArray))(hc:iz z ps=some cells:=by (with_unfolding_all (simp[iz,Value.cells];rfl))):zm z ps K:=yW hc h
def Qe{b o:Nat}{cs:Ξ}{t:Ι}{v u:Ε}{K:Ζ->Prop}(hS:SL W l w)(h:∀w',SL W l' w'->K w')(m:gh (.pt b cs t) (.pt b (cs.set o v) t) l l':=by (with_unfolding_all (repeat (first|exact gh.hd|apply gh.tl))))(hu:cs[o]?=some u:=by (with_unfolding_all rfl))(h1:v.oneCell'=true:=by (with_unfolding_all (first|rfl|assumption))):
  eH (.pointer (some ⟨b,o,none⟩)) v w K:=Zz hS m hu h1 h
def Qf{b n:Nat}{cs vs:Ξ}{t:Ι}{K:Ζ->Prop}(hS:SL W l w)(h:∀w',SL W l' w'->K w')(m:gh (.pt b cs t) (.pt b vs t) l l':=by (with_unfolding_all (repeat (first|exact gh.hd|apply gh.tl))))(hn:vs.length=n:=by (with_unfolding_all rfl))(hc:cs.length=n:=by (with_unfolding_all rfl))(h1:vs.all Value.oneCell'=true:=by (with_unfolding_all rfl)):
  zj n (Δ b) (.agg vs.toArray) w K:=zr hS m hn hc (zz3.1 h1) h
def SM{z cs:Ξ}{n:Nat}(hc:cs.length=n)(hz:z.length=n):iz (cK z 1) [(0,n,.agg cs.toArray)]=some cs:=by
 subst hc;simp[iz,cK,Value.cells,hz]
def Qh{z cs:Ξ}{e:Ι}{n:Nat}{K:Ε->Ζ->Prop}(hS:SL W l w)
  (h:∀b w',SL W (.pt b cs e::l) w'->K (.slice (some ⟨b,0,none⟩) 1 1) w') (hc:cs.length=n:=by (with_unfolding_all rfl)) (hz:z.length=n:=by (with_unfolding_all rfl)):zn (cK z 1) [(0,n,.agg cs.toArray)] e 1 w K:=zN hS (SM hc hz) h
def Qg{z cells:Ξ}{ps:List (Nat × Nat × Ε)}{e:Ι}{n:Nat}{K:Ε->Ζ->Prop}(hS:SL W l w)
  (h:∀b w',SL W (.pt b cells e::l) w'->K (.slice (some ⟨b,0,none⟩) n n) w') (hc:iz z ps=some cells:=by (with_unfolding_all (simp[iz,Value.cells,cK];rfl))):zn z ps e n w K:=zN hS hc h
end
structure Wr(Q:Prop):Prop where
 h:Q
def Gp{P Q:Prop}(k:Q) (h:Wr Q->P:=by
 intro kk
 (with_reducible first|apply Q0|refine Qa hS ?_|refine Qb ?_|refine Qc hS ?_|refine Qd ?_)
 repeat (with_reducible first|apply Q0|refine Qa hS ?_|refine Qb ?_|refine Qc hS ?_|refine Qd ?_)
 exact kk.h):P:=h ⟨k⟩
def bZ{P p A B:Prop}{i:Decidable p}(x:p->A)(y:¬p->B)(h:Wr (dm (.bool (decide p)) A B)->P:=by
 intro kk
 (with_reducible first|apply Q0|refine Qa hS ?_|refine Qb ?_|refine Qc hS ?_|refine Qd ?_)
 repeat (with_reducible first|apply Q0|refine Qa hS ?_|refine Qb ?_|refine Qc hS ?_|refine Qd ?_)
 exact kk.h):P:=h (.mk (za x y))
def Gw{W:Ζ}{l:List Chunk}{P:Prop}{G:Ζ->Prop}(k:∀w,SL W l w->G w) (h:(∀w,SL W l w->G w)->P:=by
 intro kk;first
  | ((with_reducible refine Qe hS ?_);intro w hS;simp only[List.set]at hS)
  | ((with_reducible first|refine yz hS ?_|refine Qf hS ?_);intro w hS)
 repeat (first
  | (with_reducible first|apply Q0|refine Qa hS ?_|refine Qb ?_|refine Qc hS ?_|refine Qd ?_)
  | ((with_reducible refine Qe hS ?_);intro w hS;simp only[List.set]at hS)
  | ((with_reducible first|refine yz hS ?_|refine Qf hS ?_);intro w hS))
 exact kk w hS):P:=h k
def Gb{W:Ζ}{l:Nat->List Chunk}{P:Prop}{G:Nat->Ζ->Prop}(k:∀b w,SL W (l b) w->G b w) (h:(∀b w,SL W (l b) w->G b w)->P:=by
 intro kk
 (with_reducible first|refine zC hS ?_|refine Qh hS ?_|refine Qg hS ?_)
 intro b w hS;repeat (first
  | (with_reducible first|apply Q0|refine Qa hS ?_|refine Qb ?_|refine Qc hS ?_|refine Qd ?_)
  | ((with_reducible refine Qe hS ?_);intro w hS;simp only[List.set]at hS)
  | ((with_reducible first|refine yz hS ?_|refine Qf hS ?_);intro w hS))
 exact kk b w hS):P:=h k
def Gn{W:Ζ}{l:List Chunk}{P:Prop}{G:Ζ->Prop}(k:∀w,SL W l w->G w) (h:(∀w,SL W l w->G w)->P:=by
 intro kk;try simp only[app]at hS
 repeat (first
  | (with_reducible first|apply Q0|refine Qa hS ?_|refine Qb ?_|refine Qc hS ?_|refine Qd ?_)
  | ((with_reducible refine Qe hS ?_);intro w hS;simp only[List.set]at hS)
  | ((with_reducible first|refine yz hS ?_|refine Qf hS ?_);intro w hS))
 exact kk w hS):P:=h k
def Gm{W:Ζ}{l:Nat->List Chunk}{P:Prop}{G:Nat->Ζ->Prop}(k:∀b w,SL W (l b) w->G b w) (h:(∀b w,SL W (l b) w->G b w)->P:=by
 intro kk;try simp only[app]at hS
 repeat (first
  | (with_reducible first|apply Q0|refine Qa hS ?_|refine Qb ?_|refine Qc hS ?_|refine Qd ?_)
  | ((with_reducible refine Qe hS ?_);intro w hS;simp only[List.set]at hS)
  | ((with_reducible first|refine yz hS ?_|refine Qf hS ?_);intro w hS))
 (with_reducible first|refine zC hS ?_|refine Qh hS ?_|refine Qg hS ?_)
 intro b w hS;repeat (first
  | (with_reducible first|apply Q0|refine Qa hS ?_|refine Qb ?_|refine Qc hS ?_|refine Qd ?_)
  | ((with_reducible refine Qe hS ?_);intro w hS;simp only[List.set]at hS)
  | ((with_reducible first|refine yz hS ?_|refine Qf hS ?_);intro w hS))
 exact kk b w hS):P:=h k
def Cc{W w:Ζ}{l pre F:List Chunk}{P:Program}{f:FuncId}{args:Ξ}{Q:Ε->List Chunk->Prop}{K:Ε->Ζ->Prop}(c:Spec P f args pre Q)(h:∀v post,Q v post->∀w',SL W (app post F) w'->K v w')
  (hs:SL W l w:=by exact hS) (p:gC pre l F:=by (repeat (first|(with_reducible exact gC.nil)|((with_reducible apply gC.cons);(focus ((repeat (first|(with_reducible exact gd.hd)|(with_reducible apply gd.tl)));done)))))):zQ P f args w K:=yH c hs p h
def Cg{W w:Ζ}{l l' pre q F:List Chunk}{P:Program}{f:FuncId}{args:Ξ}{u:Ε}{K:Ε->Ζ->Prop}{G:Ζ->Prop}(c:Spec P f args pre (cE u q))(k:∀w,SL W l' w->G w)
  (hs:SL W l w:=by exact hS) (p:gC pre l F:=by (repeat (first|(with_reducible exact gC.nil)|((with_reducible apply gC.cons);(focus ((repeat (first|(with_reducible exact gd.hd)|(with_reducible apply gd.tl)));done))))))
  (e:(∀w,SL W l' w->G w)->∀w,SL W (app q F) w->K u w:=by
   intro kk w hS;try simp only[app]at hS
   repeat (first
    | (with_reducible first|apply Q0|refine Qa hS ?_|refine Qb ?_|refine Qc hS ?_|refine Qd ?_)
    | ((with_reducible refine Qe hS ?_);intro w hS;simp only[List.set]at hS)
    | ((with_reducible first|refine yz hS ?_|refine Qf hS ?_);intro w hS))
   exact kk w hS):zQ P f args w K:=yH c hs p λv post ⟨h1,h2⟩ w' hw=>by subst h1 h2;exact e k w' hw
def bR(v:Ε)(t:Ι)(sz n:Nat)(cells:Ξ):zB:=jK λx:Option (Nat × Nat × Ξ)=>match x with
 | none=>zG ((∃a,v= .slice a 0 0)/\n=0/\cells=[]) []
 | some (b,cap,rest)=>zG (v= .slice (some ⟨b,0,none⟩) n cap/\n<=cap/\cells.length=n*sz/\rest.length=(cap-n)*sz) [.pt b (cells++rest) t]
section
variable {W w:Ζ} {l:List Chunk}
def bR.open{v:Ε}{t:Ι}{sz n:Nat}{cells:Ξ}(h:SL W (.ob (bR v t sz n cells)::l) w):
  ((∃a,v= .slice a 0 0)/\n=0/\cells=[]/\SL W l w)\/∃b cap rest,v= .slice (some ⟨b,0,none⟩) n cap/\n<=cap/\cells.length=n*sz/\rest.length=(cap-n)*sz/\SL W (.pt b (cells++rest) t::l) w:=by
 unfold bR at h;obtain⟨x,h⟩:=SL.ex.1 h
 match x,h with
 | none,h=>
  obtain⟨⟨h1,h2,h3⟩,h⟩:=SL.fact.1 h;exact .inl ⟨h1,h2,h3,h⟩
 | some (b,cap,rest),h=>
  obtain⟨⟨h1,h2,h3,h4⟩,h⟩:=SL.fact.1 h;exact .inr ⟨b,cap,rest,h1,h2,h3,h4,h⟩
def bR.nil{t:Ι}{sz:Nat}(h:SL W l w):SL W (.ob (bR Θ t sz 0 [])::l) w:=by
 unfold bR;exact SL.ex.2 ⟨none,SL.fact.2 ⟨⟨⟨_,rfl⟩,rfl,rfl⟩,h⟩⟩
def bR.rJ{a:Option Addr}{t:Ι}{sz:Nat}(h:SL W l w):SL W (.ob (bR (.slice a 0 0) t sz 0 [])::l) w:=by
 unfold bR;exact SL.ex.2 ⟨none,SL.fact.2 ⟨⟨⟨_,rfl⟩,rfl,rfl⟩,h⟩⟩
def bR.mk{b n cap:Nat}{t:Ι}{sz:Nat}{cells rest:Ξ}(h1:n<=cap)(h2:cells.length=n*sz)(h3:rest.length=(cap-n)*sz)(h:SL W (.pt b (cells++rest) t::l) w):
  SL W (.ob (bR (.slice (some ⟨b,0,none⟩) n cap) t sz n cells)::l) w:=by
 unfold bR;exact SL.ex.2 ⟨some (b,cap,rest),SL.fact.2 ⟨⟨rfl,h1,h2,h3⟩,h⟩⟩
def bR.full{b n:Nat}{t:Ι}{sz:Nat}{cells:Ξ}(h2:cells.length=n*sz)(h:SL W (.pt b cells t::l) w):SL W (.ob (bR (.slice (some ⟨b,0,none⟩) n n) t sz n cells)::l) w:=
 bR.mk (rest:=[]) (zzj _) h2 (by simp) (by simpa using h)
def Xj{b o m cap sz:Nat}{cs pH:Ξ}{t:Ι}(hS:SL W l w)(hm:Has (.pt b pH t) l)(hl:cs.length=m*sz)(hc:∀j v,cs[j]?=some v->pH[o+j]?=some v):kJ w sz (.slice (some ⟨b,o,none⟩) m cap) m cs:=
 ⟨rfl,hl,λj v e=>by rw[yyd];exact hS.cell hm (hc j v e)⟩
def kf{b m cap sz:Nat}{cs:Ξ}{t:Ι}(hS:SL W l w)(hm:Has (.pt b cs t) l)(hl:cs.length=m*sz):kJ w sz (.slice (some ⟨b,0,none⟩) m cap) m cs:=
 Xj hS hm hl λj v e=>by rw[yye];exact e
def cB6{s:Η}:kJ w 1 (.string s) s.size (s.data.toList.map λb=>.int .u8 b.toNat):=⟨rfl,rfl⟩
def We{cells rest cs:Ξ}:cs.length<=rest.length->p6 (cells++rest) cells.length cs=cells++cs++rest.drop cs.length:=λh=>by
 rw[BC _ _ _ (by simp;omega)];simp
def zI{x y:Ε}{t:Ι}{sz hU n m:Nat}{z cells cs:Ξ}{F:List Chunk}{K:Ε->Ζ->Prop}(hS:SL W l w)(hr:gd (.ob (bR x t sz n cells)) l F)(gU:kJ w sz y m cs)
  (hl:cs.length=m*sz) (hz:z.length=sz) (h1:∀v∈cs,v.oneCell'=true) (hb:(n+m)*hU<=140737488355328) (hn:n+m<=140737488355328)
  (h:∀v' w',SL W (.ob (bR v' t sz (n+m) (cells++cs))::F) w'->K v' w'):zx sz hU z t x y w K:=by
 rcases bR.open (hS.perm hr.perm) with ⟨⟨a,rfl⟩,rfl,rfl,gE⟩|⟨b,cap,rest,rfl,hc,hlen,jP,gE⟩
 ·refine⟨a,0,0,m,cs,rfl,gU,hb,hn,λh0=>?_,λh0=>⟨[],(by cases a with|none=>exact⟨rfl,rfl⟩|some p=>exact⟨rfl,by simp,λj v e=>by simp at e⟩),λc gF jY=>?_⟩⟩
  ·have hm:m=0:=by omega
   subst hm;have:cs=[]:=zzl (by simpa using hl);subst this;cases a with
   | none=>exact h _ _ (bR.rJ gE)
   | some p=>exact h _ _ (bR.rJ gE)
  refine h _ _ ?_;have:=bR.mk (sz:=sz) (n:=0+m) (cells:=cs) (rest:=cK z (c-(0+m))) (cap:=c) gF (by simpa using hl) (by rw[lV,hz]) (SL.new (cs:=cs++cK z (c-(0+m))) (t:=t) (gE.drew));simpa using this
 refine⟨some ⟨b,0,none⟩,n,cap,m,cs,rfl,gU,hb,hn,λh0=>?_,λh0=>?_⟩
 ·have oA:cs.length<=rest.length:=by
   rw[hl,jP];exact yyy _ (by omega)
  show tV (Addr.add ⟨b,0,none⟩ (n*sz)) 0 cs w _;rw[yyd];refine BO (t:=t) cs (0+n*sz) 0 (cells++rest) w (.pt b (cells++rest) t::F) _ gE .hd (by simp[hlen];omega) h1 (λw' pR=>h _ _ ?_);have e:p6 (cells++rest) (0+n*sz+0) cs=cells++cs++rest.drop cs.length:=by
   rw[show 0+n*sz+0=cells.length by omega];exact We oA
  rw[e]at pR
  exact bR.mk (n:=n+m) (cells:=cells++cs) (rest:=rest.drop cs.length) h0 (by simp[hlen,hl,yyx]) (by
   rw[zzq,jP,hl,<- wwo];congr 1;omega) pR
 refine⟨cells,⟨rfl,hlen,λj v e=>?_⟩,λc gF jY=>h _ _ ?_⟩
 ·rw[yyd];refine gE.cell .hd ?_;rw[yye];rw[zzs (zzf.1 e).1];exact e
 exact bR.mk (n:=n+m) (cells:=cells++cs) (rest:=cK z (c-(n+m))) gF (by simp[hlen,hl,yyx]) (by rw[lV,hz]) (SL.new (gE.drop.drew))
def dq(H:bw)(sz:Nat)(v:Ε)(n:Nat)(cells:Ξ):Prop:=
 cells.length=n*sz/\∃a cap,v= .slice a n cap/\n<=cap/\(n=0\/∃b o,a=some ⟨b,o,none⟩/\∀j u,cells[j]?=some u->H.cell b (o+j)=some u)
def dq.mono{H H':bw}(hh:H.le H'){sz n:Nat}{v:Ε}{cells:Ξ}(h:dq H sz v n cells):dq H' sz v n cells:=by
 obtain⟨h1,a,cap,h2,h3,h4⟩:=h;refine⟨h1,a,cap,h2,h3,h4.imp id ?_⟩;rintro ⟨b,o,h5,h6⟩;exact⟨b,o,h5,λj u hu=>bw.aWb hh (h6 j u hu)⟩
def dq.nil(H:bw)(sz:Nat):dq H sz Θ 0 []:=⟨by simp,none,0,rfl,zzj _,.inl rfl⟩
def bR.freeze{H:bw}{v:Ε}{t:Ι}{sz n:Nat}{cells:Ξ}(h:SL W (.mem H::.ob (bR v t sz n cells)::l) w):∃H',H.le H'/\dq H' sz v n cells/\SL W (.mem H'::l) w:=by
 rcases bR.open (h.perm (.swap _ _ _)) with ⟨⟨a,rfl⟩,rfl,rfl,hS⟩|⟨b,cap,rest,rfl,hc,hlen,jP,hS⟩
 ·exact⟨H,bw.le_refl H,⟨by simp,a,0,rfl,zzj _,.inl rfl⟩,hS⟩
 obtain⟨H',h1,h2,h3⟩:=SL.freeze (hS.perm (.swap _ _ _));refine⟨H',h1,⟨hlen,_,cap,rfl,hc,.inr ⟨b,0,rfl,λj u hu=>?_⟩⟩,h3⟩;rw[yye];refine h2 j u ?_;rw[zzs (zzf.1 hu).1];exact hu
def dq.one{H:bw}{sz n:Nat}{v:Ε}{cells:Ξ}(h:dq H sz v n cells):v.oneCell'=true:=by
 obtain⟨_,a,cap,rfl,_,_⟩:=h;rfl
def KE{H:bw}{y:Ε}{sz m:Nat}{cs:Ξ}(hS:SL W l w)(hm:Has (.mem H) l)(h:dq H sz y m cs):kJ w sz y m cs:=by
 obtain⟨h1,a,cap,rfl,h3,h4⟩:=h;cases a with
 | none=>
  rcases h4 with rfl|⟨b,o,h5,_⟩
  ·exact⟨rfl,zzl (by simpa using h1)⟩
  cases h5
 | some p=>
  refine⟨rfl,h1,λj v e=>?_⟩;rcases h4 with rfl|⟨b,o,h5,h6⟩
  ·have:cs=[]:=zzl (by simpa using h1);subst this;simp at e
  cases h5;rw[yyd];exact hS.JS hm (h6 j v e)
def zo{H:bw}{v:Ε}{sz n:Nat}{cells:Ξ}{K:Ε->Prop}(h:dq H sz v n cells)(k:K (Γ n)):zd v K:=by
 obtain⟨_,a,cap,rfl,_,_⟩:=h;exact ye k
def Yc{H:bw}{v:Ε}{sz n j:Nat}{k:IntKind}{cells:Ξ}{K:Ε->Prop}(h:dq H sz v n cells)(hj:j<n)
  (hK:∀b o,(∀i u,i<sz->cells[j*sz+i]?=some u->H.cell b (o+i)=some u)->K (.pointer (some ⟨b,o,none⟩))):zk sz v (.int k (j:Int)) K:=by
 obtain⟨_,a,cap,rfl,_,h4⟩:=h;rcases h4 with rfl|⟨b,o,rfl,h6⟩
 ·omega
 refine zF hj (hK b (o+j*sz) λi u hi hu=>?_);have:=h6 _ u hu
 rwa [<- vvh]at this
def yP{H:bw}{v u:Ε}{n j:Nat}{k:IntKind}{cells:Ξ}{K:Ε->Prop}(hS:SL W l w)(hm:Has (.mem H) l)(h:dq H 1 v n cells)(hj:j<n)(hu:cells[j]?=some u)(hK:K u):
  zk 1 v (.int k (j:Int)) λp=>cn p w K:=
 Yc h hj λb o hb=>Gx hS hm (hb 0 u (by omega) (by simpa using hu)) hK
end
