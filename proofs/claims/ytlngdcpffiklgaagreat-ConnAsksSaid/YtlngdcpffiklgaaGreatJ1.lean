/- Part. -/
import Derived.Test.YtlngdcpffiklgaaGreatQEng10
namespace Go.Proofs.YtlngdcpffiklgaaGreat
set_option linter.all false
open Go.RowKit
def xxc:=@decide_eq_false_iff_not
def vvf:=@Array.getElem?_modify
def yye:=@Addr.add_lit
def vvk:=@Nat.add_assoc
def yy7:=@List.drop_eq_nil_of_le
def xxp:=@Nat.add_zero
def zzp:=@of_decide_eq_true
def yy2:=@of_decide_eq_false
def xx2:=@Int.tmod_eq_emod_of_nonneg
def vv4:=@List.perm_middle
def yyv:=@Nat.mul_le_mul_right
def zzs:=@List.length_drop
def wws:=@Nat.mul_sub_right_distrib
abbrev bw:=Nat->Option Obj
abbrev zC:=bw->Prop
def bw.emp:bw:=λ_=>none
def bw.one(b:Nat)(o:Obj):bw:=λk=>if k=b then some o else none
def Sep(h h1 h2:bw):Prop:=∀b,(h1 b=none/\h b=h2 b)\/(h2 b=none/\h b=h1 b)
def bw.le(h k:bw):Prop:=∀b o,h b=some o->k b=some o
def Sep.symm{h h1 h2:bw}(s:Sep h h1 h2):Sep h h2 h1:=λb=>(s b).symm
def Sep.left{h h1 h2:bw}(s:Sep h h1 h2):h1.le h:=λb o e=>by
 rcases s b with ⟨a,c⟩|⟨a,c⟩
 ·rw[a]at e;cases e
 rw[c,e]
def Sep.right{h h1 h2:bw}(s:Sep h h1 h2):h2.le h:=s.symm.left
def Sep.emp(h:bw):Sep h bw.emp h:=λb=>.inl ⟨rfl,rfl⟩
def Sep.cCt{h h1:bw}(s:Sep h bw.emp h1):h=h1:=funext λb=>by
 rcases s b with ⟨_,c⟩|⟨a,c⟩
 ·exact c
 rw[c,a];rfl
def Sep.swap{h h1 h2 h3 h4:bw}(s:Sep h h1 h2)(t:Sep h2 h3 h4):∃k,Sep h h3 k/\Sep k h1 h4:=by
 refine⟨λb=>(h1 b).or (h4 b),λb=>?_,λb=>?_⟩
 ·rcases s b with ⟨a,c⟩|⟨a,c⟩<;>rcases t b with ⟨d,e⟩|⟨d,e⟩<;>simp_all
 rcases s b with ⟨a,c⟩|⟨a,c⟩<;>rcases t b with ⟨d,e⟩|⟨d,e⟩<;>simp_all
def Sep.assoc{h h1 h2 h3 h4:bw}(s:Sep h h1 h2)(t:Sep h1 h3 h4):∃k,Sep h h3 k/\Sep k h4 h2:=by
 obtain⟨k,a,b⟩:=s.symm.swap t;exact⟨k,a,b.symm⟩
def Sep.join{h h1 h2 h3 k:bw}(s:Sep h h3 k)(t:Sep k h1 h2):∃k',Sep h k' h2/\Sep k' h3 h1:=by
 obtain⟨k',a,b⟩:=s.swap t.symm;exact⟨k',a.symm,b⟩
inductive Chunk where
 | pt (b:Nat) (cs:Ξ) (t:Ι)
 | mp (b:Nat) (es:List MapEntry) (clock:Nat)
 | mem (H:bw)
 | ob (A:zC)
def ait(n:Nat)(f:Nat × Nat):Prop:=f.1=f.2\/n<=f.1
def Chunk.holds:Chunk->zC
 | .pt b cs t=>λh=>∃f,ait cs.length f/\h=bw.one b (.cells cs.toArray t f)
 | .mp b es c=>λh=>h=bw.one b (.map es.toArray c)
 | .mem H=>λh=>h=H
 | .ob A=>A
def star:List Chunk->zC
 | [],h=>h=bw.emp
 | c::l,h=>∃h1 h2,Sep h h1 h2/\c.holds h1/\star l h2
structure SL(W:Ζ)(l:List Chunk)(w:Ζ):Prop where
 os:w.os=W.os
 tape:w.tape=W.tape
 output:w.output=W.output
 out:∃h:bw,star l h/\∀b o,h b=some o->w.heap[b]?=some o
def cIw{A B:Chunk}{l:List Chunk}{h:bw}(s:star (A::B::l) h):star (B::A::l) h:=by
 obtain⟨h1,h2,s1,a,h3,h4,s2,b,r⟩:=s;obtain⟨k,x,y⟩:=s1.swap s2;exact⟨h3,k,x,b,h1,h4,y,a,r⟩
def cIv{l l':List Chunk}(p:l.Perm l'):∀{h:bw},star l h->star l' h:=by
 induction p with
 | nil=>exact λs=>s
 | cons x _ ih=>rintro h ⟨h1,h2,s,a,r⟩;exact⟨h1,h2,s,a,ih r⟩
 | swap x y l=>exact λs=>cIw s
 | trans _ _ i j=>exact λs=>j (i s)
def SL.perm{W:Ζ}{l l':List Chunk}{w:Ζ}(h:SL W l w)(p:l.Perm l'):SL W l' w:=
 ⟨h.os,h.tape,h.output,let ⟨k,s,m⟩:=h.out;⟨k,cIv p s,m⟩⟩
def X_{l l':List Chunk}:∀{h:bw},star (l++l') h↔∃h1 h2,Sep h h1 h2/\star l h1/\star l' h2:=by
 induction l with
 | nil=>
  intro h;constructor
  ·intro s;exact⟨bw.emp,h,Sep.emp h,rfl,s⟩
  rintro ⟨h1,h2,s,rfl,t⟩;rw[s.cCt];exact t
 | cons c l ih=>
  intro h;constructor
  ·rintro ⟨h1,h2,s,a,r⟩;obtain⟨h3,h4,t,b,d⟩:=ih.1 r;obtain⟨k,x,y⟩:=s.join t;exact⟨k,h4,x,⟨h1,h3,y,a,b⟩,d⟩
  rintro ⟨h1,h2,s,⟨h3,h4,t,a,b⟩,d⟩;obtain⟨k,x,y⟩:=s.assoc t;exact⟨h3,k,x,a,ih.2 ⟨h4,h2,y,b,d⟩⟩
section
variable {W w:Ζ} {l:List Chunk}
def SL.drop{c:Chunk}(h:SL W (c::l) w):SL W l w:=
 ⟨h.os,h.tape,h.output,let ⟨k,⟨h1,h2,s,a,r⟩,m⟩:=h.out;⟨h2,r,λb o e=>m b o (s.right b o e)⟩⟩
def SL.conv{c:Chunk}{l1:List Chunk}(h:SL W (c::l) w)(f:∀k,c.holds k->star l1 k):SL W (l1++l) w:=
 ⟨h.os,h.tape,h.output,let ⟨k,⟨h1,h2,s,a,r⟩,m⟩:=h.out;⟨k,X_.2 ⟨h1,h2,s,f _ a,r⟩,m⟩⟩
def SL.fold{c:Chunk}{l1:List Chunk}(h:SL W (l1++l) w)(f:∀k,star l1 k->c.holds k):SL W (c::l) w:=
 ⟨h.os,h.tape,h.output,let ⟨k,s,m⟩:=h.out;let ⟨h1,h2,s,a,r⟩:=X_.1 s;⟨k,⟨h1,h2,s,f _ a,r⟩,m⟩⟩
def jT{α:Type}(A:α->zC):zC:=λh=>∃x,A x h
def zH(p:Prop)(l:List Chunk):zC:=λh=>p/\star l h
def SL.ex{α:Type}{A:α->zC}:SL W (.ob (jT A)::l) w↔∃x,SL W (.ob (A x)::l) w:=by
 constructor
 ·rintro ⟨a,b,c,k,⟨h1,h2,s,⟨x,hx⟩,r⟩,m⟩;exact⟨x,a,b,c,k,⟨h1,h2,s,hx,r⟩,m⟩
 rintro ⟨x,a,b,c,k,⟨h1,h2,s,hx,r⟩,m⟩;exact⟨a,b,c,k,⟨h1,h2,s,⟨x,hx⟩,r⟩,m⟩
def SL.fact{p:Prop}{l1:List Chunk}:SL W (.ob (zH p l1)::l) w↔p/\SL W (l1++l) w:=by
 constructor
 ·intro h;obtain⟨k,⟨h1,h2,s,⟨hp,hx⟩,r⟩,m⟩:=h.out;exact⟨hp,h.conv (λ_ s=>s.2)⟩
 rintro ⟨hp,h⟩;exact h.fold (λ_ s=>⟨hp,s⟩)
inductive Has (c:Chunk):List Chunk->Prop where
 | hd {l:List Chunk}:Has c (c::l)
 | tl {d:Chunk} {l:List Chunk} (h:Has c l):Has c (d::l)
def Has.heap{c:Chunk}{l:List Chunk}(h:Has c l):∀{k:bw},star l k->∃h1,c.holds h1/\h1.le k:=by
 induction h with
 | hd=>rintro k ⟨h1,h2,s,a,r⟩;exact⟨h1,a,s.left⟩
 | tl _ ih=>
  rintro k ⟨h1,h2,s,a,r⟩;obtain⟨h3,b,e⟩:=ih r;exact⟨h3,b,λx o y=>s.right x o (e x o y)⟩
inductive gj (c d:Chunk):List Chunk->List Chunk->Prop where
 | hd {l:List Chunk}:gj c d (c::l) (d::l)
 | tl {e:Chunk} {l l':List Chunk} (h:gj c d l l'):gj c d (e::l) (e::l')
inductive fq (c:Chunk):List Chunk->List Chunk->Prop where
 | hd {l:List Chunk}:fq c (c::l) l
 | tl {d:Chunk} {l l':List Chunk} (h:fq c l l'):fq c (d::l) (d::l')
inductive gE:List Chunk->List Chunk->List Chunk->Prop where
 | nil {l:List Chunk}:gE [] l l
 | cons {c:Chunk} {p l l' F:List Chunk} (h:fq c l l') (k:gE p l' F):gE (c::p) l F
def fq.perm{c:Chunk}{l l':List Chunk}(h:fq c l l'):l.Perm (c::l'):=by
 induction h with
 | hd=>exact .refl _
 | tl _ ih=>exact (ih.cons _).trans (.swap _ _ _)
def gE.perm{p l F:List Chunk}(h:gE p l F):l.Perm (p++F):=by
 induction h with
 | nil=>exact .refl _
 | cons r _ ih=>exact r.perm.trans (ih.cons _)
def SL.pick{p F:List Chunk}(h:SL W l w)(k:gE p l F):SL W (p++F) w:=h.perm k.perm
def SL.o8{b:Nat}{cs:Ξ}{t:Ι}(h:SL W l w)(m:Has (.pt b cs t) l):∃f,ait cs.length f/\w.heap[b]?=some (.cells cs.toArray t f):=by
 obtain⟨k,s,x⟩:=h.out;obtain⟨h1,⟨f,hf,rfl⟩,le⟩:=m.heap s;exact⟨f,hf,x b _ (le b _ (by simp[bw.one]))⟩
def SL.cell{b o:Nat}{cs:Ξ}{t:Ι}{v:Ε}(h:SL W l w)(m:Has (.pt b cs t) l)(hv:cs[o]?=some v):w.cell? ⟨b,o,none⟩=some v:=by
 obtain⟨f,_,e⟩:=h.o8 m;simp[World.cell?,e,hv]
def SL.frozen{b o:Nat}{cs:Ξ}{t:Ι}{v:Ε}(h:SL W l w)(m:Has (.pt b cs t) l)(hv:cs[o]?=some v):w.frozen? ⟨b,o,none⟩=false:=by
 obtain⟨f,hf,e⟩:=h.o8 m;have dj:=(zzf.1 hv).1;obtain⟨x,y⟩:=f;simp only[World.frozen?,e];rcases hf with hf|hf
 ·simp only[Bool.and_eq_false_iff,xxc];simp only at hf;omega
 simp only[Bool.and_eq_false_iff,xxc];simp only at hf;omega
def bw.cell(H:bw)(b o:Nat):Option Ε:=match H b with
 | some (.cells c _ _)=>c[o]?
 | _=>none
def SL.Gq{H:bw}{b o:Nat}{v:Ε}(h:SL W l w)(m:Has (.mem H) l)(hv:H.cell b o=some v):w.cell? ⟨b,o,none⟩=some v:=by
 obtain⟨k,s,x⟩:=h.out;obtain⟨h1,rfl,le⟩:=m.heap s;unfold bw.cell at hv;split at hv
 ·rename_i c t f e;have:=x b _ (le b _ e);simp[World.cell?,this,hv]
 cases hv
def gj.perm{c d:Chunk}{l l':List Chunk}(u:gj c d l l'):∃r,l.Perm (c::r)/\l'.Perm (d::r):=by
 induction u with
 | hd=>exact⟨_,.refl _,.refl _⟩
 | tl _ ih=>
  obtain⟨r,p,q⟩:=ih;exact⟨_::r,(p.cons _).trans (.swap _ _ _),(q.cons _).trans (.swap _ _ _)⟩
def SL.rX{l':List Chunk}{c d:Chunk}{w':Ζ}{b:Nat}{o':Obj}(h:SL W l w)(u:gj c d l l')(hc:∀k,c.holds k->∃o,k=bw.one b o)(hd:d.holds (bw.one b o'))
  (hw:w'.heap[b]?=some o') (hk:∀x,x≠b->w'.heap[x]?=w.heap[x]?) (e1:w'.os=w.os) (e2:w'.tape=w.tape) (e3:w'.output=w.output):SL W l' w':=by
 obtain⟨r,p,q⟩:=u.perm;obtain⟨a1,a2,a3,k,⟨h1,h2,s,a,t⟩,m⟩:=h.perm p;obtain⟨o,rfl⟩:=hc _ a;have hb:h2 b=none:=by
  rcases s b with ⟨x,_⟩|⟨x,_⟩
  ·simp[bw.one]at x
  exact x
 suffices hs:SL W (d::r) w' from hs.perm q.symm
 refine⟨e1.trans a1,e2.trans a2,e3.trans a3,λx=>if x=b then some o' else h2 x,⟨bw.one b o',h2,λx=>?_,hd,t⟩,λx y e=>?_⟩
 ·by_cases hx:x=b
  ·subst hx;exact .inr ⟨hb,by simp[bw.one]⟩
  exact .inl ⟨by simp[bw.one,hx],by simp[hx]⟩
 by_cases hx:x=b
 ·subst hx;simp at e;rw[hw,e]
 simp[hx]at e
 rw[hk x hx];exact m x y (s.right x y e)
def SL.store{l':List Chunk}{b o:Nat}{cs:Ξ}{t:Ι}{v u:Ε}(h:SL W l w)(m:gj (.pt b cs t) (.pt b (cs.set o v) t) l l')(hu:cs[o]?=some u):SL W l' (w.setCell ⟨b,o,none⟩ v):=by
 have hm:Has (.pt b cs t) l:=by
  clear h;generalize hd:Chunk.pt b (cs.set o v) t=d at m;induction m with
  | hd=>exact .hd
  | tl _ ih=>exact .tl ih
 obtain⟨f,hf,e⟩:=h.o8 hm;refine h.rX (b:=b) (o':=.cells (cs.set o v).toArray t f) m ?_ ⟨f,by simpa using hf,rfl⟩ ?_ ?_ rfl rfl rfl
 ·rintro k ⟨f,_,rfl⟩;exact⟨_,rfl⟩
 ·show (w.heap.modify b _)[b]?=_;rw[vvf];simp[e]
 intro x hx;exact Below.heap_setCell w ⟨b,o,none⟩ v x hx
def SL.alloc{o:Obj}{c:Chunk}(h:SL W l w)(hc:c.holds (bw.one w.heap.size o)):SL W (c::l) (w.alloc o):=by
 obtain⟨a1,a2,a3,k,s,m⟩:=h;have hb:k w.heap.size=none:=by
  cases hx:k w.heap.size with
  | none=>rfl
  | some y=>have:=m _ _ hx;simp at this
 refine⟨a1,a2,a3,λx=>if x=w.heap.size then some o else k x,⟨bw.one w.heap.size o,k,λx=>?_,hc,s⟩,λx y e=>?_⟩
 ·by_cases hx:x=w.heap.size
  ·subst hx;exact .inr ⟨hb,by simp[bw.one]⟩
  exact .inl ⟨by simp[bw.one,hx],by simp[hx]⟩
 by_cases hx:x=w.heap.size
 ·subst hx;simp at e;subst e;exact heap_alloc_new w o
 simp[hx]at e
 have:=m x y e;have dj:x<w.heap.size:=(yy9.1 this).1;rw[Below.heap_alloc w o x dj];exact this
def SL.new{cs:Ξ}{t:Ι}(h:SL W l w):SL W (.pt w.heap.size cs t::l) (w.alloc (.cells cs.toArray t)):=
 h.alloc ⟨(0,0),.inl rfl,rfl⟩
def SL.drew(h:SL W l w):SL W l w.drew:=⟨h.os,h.tape,h.output,h.out⟩
def bw.of(w:Ζ):bw:=λb=>w.heap[b]?
def SL.init(w:Ζ):SL w [.mem (bw.of w)] w:=by
 refine⟨rfl,rfl,rfl,bw.of w,⟨bw.of w,bw.emp,λb=>.inr ⟨rfl,rfl⟩,rfl,rfl⟩,λb o e=>e⟩
def bw.le_refl(H:bw):H.le H:=λ_ _ e=>e
def bw.le_trans{H K L:bw}(h:H.le K)(k:K.le L):H.le L:=λb o e=>k b o (h b o e)
def bw.a_t{H K:bw}(h:H.le K){b o:Nat}{v:Ε}(e:H.cell b o=some v):K.cell b o=some v:=by
 unfold bw.cell at *
 split at e
 ·rename_i c t f he;rw[h _ _ he];exact e
 cases e
def SL.freeze{H:bw}{b:Nat}{cs:Ξ}{t:Ι}(h:SL W (.mem H::.pt b cs t::l) w):∃H',H.le H'/\(∀o v,cs[o]?=some v->H'.cell b o=some v)/\SL W (.mem H'::l) w:=by
 obtain⟨a1,a2,a3,k,⟨h1,h2,s,rfl,h3,h4,s',⟨f,hf,rfl⟩,r⟩,m⟩:=h;obtain⟨k',x,y⟩:=s.join s';refine⟨k',λb o e=>?_,λo v e=>?_,a1,a2,a3,k,⟨k',h4,x,rfl,r⟩,m⟩
 ·exact y.left b o e
 have:k' b=some (.cells cs.toArray t f):=y.right b _ (by simp[bw.one]);simp[bw.cell,this,e]
def SL.below{H:bw}(h:SL W l w)(m:Has (.mem H) l)(hH:(bw.of W).le H):Below W.heap.size W w:=by
 obtain⟨k,s,x⟩:=h.out;obtain⟨h1,rfl,le⟩:=m.heap s;have hk:∀b,b<W.heap.size->w.heap[b]?=W.heap[b]?:=λb hb=>by
  have e:W.heap[b]?=some (W.heap[b]):=wwr hb;rw[e];exact x b _ (le b _ (hH b _ e))
 refine⟨h.os,h.tape,h.output,?_,hk⟩;rcases yy6 W.heap.size with h0|h0
 ·omega
 have e:=hk (W.heap.size-1) (by omega);have e2:W.heap[W.heap.size-1]?=some (W.heap[W.heap.size-1]):=wwr (by omega);rw[e2]at e
 have:=(yy9.1 e).1;omega
end
section
variable {W w:Ζ} {l l':List Chunk}
def cHb{a:Addr}{K:Ε->Prop}(h:K (.pointer (some a))):qn (.pointer (some a)) K:=⟨a,rfl,h⟩
def yN{b o off:Nat}{K:Ε->Prop}(h:K (.pointer (some ⟨b,o+off,none⟩))):zl off (.pointer (some ⟨b,o,none⟩)) K:=by
 refine⟨_,rfl,?_⟩;rw[yye];exact h
def zT{b o:Nat}{cs:Ξ}{t:Ι}{v:Ε}{K:Ε->Prop}(hS:SL W l w)(m:Has (.pt b cs t) l)(hv:cs[o]?=some v)(h:K v):cC (.pointer (some ⟨b,o,none⟩)) w K:=
 ⟨_,v,rfl,hS.cell m hv,h⟩
def GN{H:bw}{b o:Nat}{v:Ε}{K:Ε->Prop}(hS:SL W l w)(m:Has (.mem H) l)(hv:H.cell b o=some v)(h:K v):cC (.pointer (some ⟨b,o,none⟩)) w K:=
 ⟨_,v,rfl,hS.Gq m hv,h⟩
def yC{b o n:Nat}{cs vs:Ξ}{t:Ι}{K:Ε->Prop}(hS:SL W l w)(m:Has (.pt b cs t) l)(hn:vs.length=n)(hv:∀j v,vs[j]?=some v->cs[o+j]?=some v)(h:K (.agg vs.toArray)):ze n (.pointer (some ⟨b,o,none⟩)) w K:=
 ⟨_,vs,rfl,hn,λj v e=>by rw[yye];exact hS.cell m (hv j v e),h⟩
def zr{b n:Nat}{cs:Ξ}{t:Ι}{K:Ε->Prop}(hS:SL W l w)(m:Has (.pt b cs t) l)(hn:cs.length=n)(h:K (.agg cs.toArray)):ze n (Δ b) w K:=
 yC hS m hn (λj v e=>by rw[yya];exact e) h
def Q3{H:bw}{b o n:Nat}{vs:Ξ}{K:Ε->Prop}(hS:SL W l w)(m:Has (.mem H) l)(hn:vs.length=n)(hv:∀j v,vs[j]?=some v->H.cell b (o+j)=some v)(h:K (.agg vs.toArray)):ze n (.pointer (some ⟨b,o,none⟩)) w K:=
 ⟨_,vs,rfl,hn,λj v e=>by rw[yye];exact hS.Gq m (hv j v e),h⟩
def Zu{b o:Nat}{cs:Ξ}{t:Ι}{v u:Ε}{K:Ζ->Prop}(hS:SL W l w)(m:gj (.pt b cs t) (.pt b (cs.set o v) t) l l')(hu:cs[o]?=some u)(h1:v.oneCell'=true)(h:∀w',SL W l' w'->K w'):
  eE (.pointer (some ⟨b,o,none⟩)) v w K:=by
 have hm:Has (.pt b cs t) l:=by
  clear hS h;generalize hd:Chunk.pt b (cs.set o v) t=d at m;induction m with
  | hd=>exact .hd
  | tl _ ih=>exact .tl ih
 exact⟨_,u,rfl,h1,hS.cell hm hu,hS.frozen hm hu,h _ (hS.store m hu)⟩
def rj(cs:Ξ)(o:Nat):Ξ->Ξ
 | []=>cs
 | v::r=>rj (cs.set o v) (o+1) r
def gj.has{c d:Chunk}(u:gj c d l l'):Has c l:=by
 induction u with
 | hd=>exact .hd
 | tl _ ih=>exact .tl ih
def gj.other{c d:Chunk}(u:gj c d l l')(e:Chunk):∃l2,gj c e l l2/\gj e d l2 l':=by
 induction u with
 | hd=>exact⟨_,.hd,.hd⟩
 | tl _ ih=>obtain⟨l2,p,q⟩:=ih;exact⟨_,.tl p,.tl q⟩
def BW{b:Nat}{t:Ι}{K:Ζ->Prop}:∀(vs:Ξ) (o i:Nat) (cs:Ξ) (w:Ζ) (l l':List Chunk),SL W l w->gj (.pt b cs t) (.pt b (rj cs (o+i) vs) t) l l'->o+i+vs.length<=cs.length->(∀v∈vs,v.oneCell'=true) ->
  (∀w',SL W l' w'->K w')->ud ⟨b,o,none⟩ i vs w K
 | [],o,i,cs,w,l,l',hS,u,hl,h1,h=>by
  refine h w ?_;simp only[rj]at u;have:l=l':=by
   clear hS h;generalize hc:Chunk.pt b cs t=c at u;revert hc;induction u with
   | hd=>intro;rfl
   | tl _ ih=>intro hc;rw[ih hc]
  rw[<- this];exact hS
 | v::r,o,i,cs,w,l,l',hS,u,hl,h1,h=>by
  simp only[zzj]at hl;have hc:cs[o+i]?=some (cs[o+i]'(by omega)):=zzc (by omega);obtain⟨l2,p,q⟩:=u.other (.pt b (cs.set (o+i) v) t);refine⟨h1 v (by simp),⟨_,by rw[yye];exact hS.cell u.has hc⟩,by rw[yye];exact hS.frozen u.has hc,?_⟩;rw[yye];exact BW r o (i+1) _ _ l2 l' (hS.store p hc) (by simpa [rj,vvk] using q) (by simp;omega) (λv hv=>h1 v (by simp[hv])) h
def BJ:∀(vs cs:Ξ) (o:Nat),o+vs.length<=cs.length->rj cs o vs=cs.take o++vs++cs.drop (o+vs.length)
 | [],cs,o,_=>by simp[rj]
 | v::r,cs,o,h=>by
  simp only[zzj]at h;obtain⟨A,x,B,rfl,hA⟩:∃A x B,cs=A++x::B/\A.length=o:=by
   refine⟨cs.take o,cs[o]'(by omega),cs.drop (o+1),?_,by simp;omega⟩;rw[<- yyq,yyk]
  subst hA;rw[rj,BJ r _ _ (by simp at h ⊢;omega)];have e1:(A++x::B).set A.length v=A++v::B:=by simp
  have e2:(A++v::B).take (A.length+1)=A++[v]:=by rw[xx0];simp
  have e3:(A++v::B).drop (A.length+1+r.length)=B.drop r.length:=by rw[show A.length+1+r.length=A.length+(r.length+1) by omega,xxe];simp
  have e5:(A++x::B).drop (A.length+(r.length+1))=B.drop r.length:=by rw[xxe];simp
  simp only[zzj]at *
  rw[e1,e2,e3,e5];simp
def zt{b n:Nat}{cs vs:Ξ}{t:Ι}{K:Ζ->Prop}(hS:SL W l w)(m:gj (.pt b cs t) (.pt b vs t) l l')(hn:vs.length=n)(hc:cs.length=n)(h1:∀v∈vs,v.oneCell'=true)(h:∀w',SL W l' w'->K w'):
  zj n (Δ b) (.agg vs.toArray) w K:=by
 refine⟨_,vs,rfl,rfl,hn,BW (t:=t) vs 0 0 cs w l l' hS ?_ (by omega) h1 h⟩;rw[BJ _ _ _ (by omega)];have:cs.drop (0+0+vs.length)=[]:=yy7 (by omega);rw[this];simpa using m
def ZT{b o n:Nat}{cs vs:Ξ}{t:Ι}{K:Ζ->Prop}(hS:SL W l w)(m:gj (.pt b cs t) (.pt b (cs.take o++vs++cs.drop (o+n)) t) l l')(hn:vs.length=n)(hc:o+n<=cs.length)(h1:∀v∈vs,v.oneCell'=true)(h:∀w',SL W l' w'->K w'):
  zj n (.pointer (some ⟨b,o,none⟩)) (.agg vs.toArray) w K:=by
 refine⟨_,vs,rfl,rfl,hn,BW (t:=t) vs o 0 cs w l l' hS ?_ (by omega) h1 h⟩;rw[xxp,BJ _ _ _ (by omega),hn];exact m
def zE{cs:Ξ}{t:Ι}{K:Ε->Ζ->Prop}(hS:SL W l w)(h:∀b w',SL W (.pt b cs t::l) w'->K (Δ b) w'):zg cs t w K:=h _ _ hS.new
def cGl{a b:Ε}{K:Ε->Prop}(h:K a):zf 0 (.tuple #[a,b]) K:=⟨_,a,rfl,rfl,h⟩
def cGm{a b:Ε}{K:Ε->Prop}(h:K b):zf 1 (.tuple #[a,b]) K:=⟨_,b,rfl,rfl,h⟩
def cGn{a b c:Ε}{K:Ε->Prop}(h:K a):zf 0 (.tuple #[a,b,c]) K:=⟨_,a,rfl,rfl,h⟩
def cGo{a b c:Ε}{K:Ε->Prop}(h:K b):zf 1 (.tuple #[a,b,c]) K:=⟨_,b,rfl,rfl,h⟩
def cGp{a b c:Ε}{K:Ε->Prop}(h:K c):zf 2 (.tuple #[a,b,c]) K:=⟨_,c,rfl,rfl,h⟩
def cGq{a b c d:Ε}{K:Ε->Prop}(h:K a):zf 0 (.tuple #[a,b,c,d]) K:=⟨_,a,rfl,rfl,h⟩
def cGr{a b c d:Ε}{K:Ε->Prop}(h:K b):zf 1 (.tuple #[a,b,c,d]) K:=⟨_,b,rfl,rfl,h⟩
def cGs{a b c d:Ε}{K:Ε->Prop}(h:K c):zf 2 (.tuple #[a,b,c,d]) K:=⟨_,c,rfl,rfl,h⟩
def cGt{a b c d:Ε}{K:Ε->Prop}(h:K d):zf 3 (.tuple #[a,b,c,d]) K:=⟨_,d,rfl,rfl,h⟩
def z7{a:Option Addr}{n c:Nat}{K:Ε->Prop}(h:K (Γ n)):zd (.slice a n c) K:=⟨a,n,c,rfl,h⟩
def cG1{s:Η}{K:Ε->Prop}(h:K (Γ s.size)):zX (.string s) K:=⟨s,rfl,h⟩
def zG{b o len cap sz j:Nat}{k:IntKind}{K:Ε->Prop}(hj:j<len)(h:K (.pointer (some ⟨b,o+j*sz,none⟩))):zk sz (.slice (some ⟨b,o,none⟩) len cap) (.int k (j:Int)) K:=
 ⟨_,len,cap,k,j,rfl,rfl,hj,by rw[yye];exact h⟩
def yU{b:Bool}{A B:Prop}(h1:b=true->A)(h2:b=false->B):df (.bool b) A B:=⟨b,rfl,h1,h2⟩
def za{p:Prop}[Decidable p]{A B:Prop}(h1:p->A)(h2:¬p->B):df (.bool (decide p)) A B:=⟨_,rfl,λe=>h1 (zzp e),λe=>h2 (yy2 e)⟩
def Χ{p:Prop}[Decidable p]{A B:Prop}(h:B)(n:¬p:=by first|exact λh=>absurd rfl h|omega|decide|(intro h;cases h)):df (.bool (decide p)) A B:=za (λh=>absurd h n) (λ_=>h)
def Υ{p:Prop}[Decidable p]{A B:Prop}(h:A)(n:p:=by first|exact rfl|omega|decide):df (.bool (decide p)) A B:=za (λ_=>h) (λh=>absurd n h)
def zq{A B:Prop}(h:A):df (.bool true) A B:=⟨_,rfl,λ_=>h,λe=>by cases e⟩
def zp{A B:Prop}(h:B):df (.bool false) A B:=⟨_,rfl,(λe=>(by cases e)),λ_=>h⟩
def zy{A B:Prop}{b:Bool}(h1:b=false->A)(h2:b=true->B):df (.bool !b) A B:=⟨_,rfl,(λe=>h1 (by simpa using e)),(λe=>h2 (by simpa using e))⟩
def KX{a b:Int}{K:Ε->Prop}(hr : -9223372036854775808<=a+b/\a+b<=9223372036854775807)(h:K (Γ (a+b))):zc .add (Γ a) (Γ b) K:=
 ⟨_,rfl,by rw[xx1 _ hr];exact h⟩
def cHk{a b:Int}{K:Ε->Prop}(hr : -9223372036854775808<=a-b/\a-b<=9223372036854775807)(h:K (Γ (a-b))):zc .sub (Γ a) (Γ b) K:=
 ⟨_,rfl,by rw[xx1 _ hr];exact h⟩
def cG8{a b:Int}{K:Ε->Prop}(hr : -9223372036854775808<=a*b/\a*b<=9223372036854775807)(h:K (Γ (a*b))):zc .mul (Γ a) (Γ b) K:=
 ⟨_,rfl,by rw[xx1 _ hr];exact h⟩
def ZH{a b:Nat}{K:Ε->Prop}(hr:a+b<=9223372036854775807)(h:K (Γ ((a+b:Nat):Int))):zc .add (Γ (a:Int)) (Γ (b:Int)) K:=
 KX (by omega) (by rw[show (a:Int)+(b:Int)=((a+b:Nat):Int) by omega];exact h)
def QZ{a:Nat}{K:Ε->Prop}(hr:a+1<=9223372036854775807)(h:K (Γ ((a+1:Nat):Int))):zc .add (Γ (a:Int)) (Γ 1) K:=
 KX (by omega) (by rw[show (a:Int)+1=((a+1:Nat):Int) by omega];exact h)
def Zt{k:IntKind}{a b:Int}{K:Ε->Prop}(hb:b≠0)(h:K (.int k (a.tmod b))):zc .rem (.int k a) (.int k b) K:=
 ⟨.int k (a.tmod b),by simp[jJ,hb],h⟩
def K1{a b:Int}{K:Ε->Prop}(hb:b≠0)(hr : -9223372036854775808<=a.tdiv b/\a.tdiv b<=9223372036854775807)(h:K (Γ (a.tdiv b))):zc .quo (Γ a) (Γ b) K:=
 ⟨Γ (a.tdiv b),by simp[jJ,hb,xx1 _ hr],h⟩
def Q6{k:IntKind}{a b:Nat}{K:Ε->Prop}(hb:0<b)(h:K (.int k ((a % b:Nat):Int))):zc .rem (.int k (a:Int)) (.int k (b:Int)) K:=
 Zt (by omega) (by rw[xx2 (by omega)];exact h)
def Xz{k:IntKind}{a b:Int}{K:Ε->Prop}(h:K (.bool (decide (a=b)))):zc .eql (.int k a) (.int k b) K:=⟨.bool (decide (a=b)),by simp[jJ];rfl,h⟩
def BR{k:IntKind}{a b:Int}{K:Ε->Prop}(h:K (.bool (decide (a≠b)))):zc .neq (.int k a) (.int k b) K:=⟨.bool (decide (a≠b)),by simp[jJ,bne];rfl,h⟩
def D7{k:IntKind}{a b:Int}{K:Ε->Prop}(h:K (.bool (decide (a<b)))):zc .lss (.int k a) (.int k b) K:=⟨_,by simp[jJ],h⟩
def cG0{k:IntKind}{a b:Int}{K:Ε->Prop}(h:K (.bool (decide (a<=b)))):zc .leq (.int k a) (.int k b) K:=⟨_,by simp[jJ],h⟩
def KY{k:IntKind}{a b:Int}{K:Ε->Prop}(h:K (.bool (decide (b<a)))):zc .gtr (.int k a) (.int k b) K:=⟨_,by simp[jJ],h⟩
def cGu{k:IntKind}{a b:Int}{K:Ε->Prop}(h:K (.bool (decide (b<=a)))):zc .geq (.int k a) (.int k b) K:=⟨_,by simp[jJ],h⟩
def str_inj{s t:Η}(h:s.toList=t.toList):s=t:=by
 rw[ByteArray.toList_eq,ByteArray.toList_eq]at h
 cases s;cases t;congr 1;exact Array.toList_inj.1 h
def cGk{a b:Η}{K:Ε->Prop}(h:K (.bool (decide (a=b)))):zc .eql (.string a) (.string b) K:=by
 refine⟨.bool (decide (a=b)),?_,h⟩;by_cases e:a=b
 ·subst e;simp[jJ]
 have:¬a.toList=b.toList:=λx=>e (str_inj x);simp[jJ,e,this]
def cHa{a b:Η}{K:Ε->Prop}(h:K (.bool (decide (a≠b)))):zc .neq (.string a) (.string b) K:=by
 refine⟨.bool (decide (a≠b)),?_,h⟩;by_cases e:a=b
 ·subst e;simp[jJ]
 have:¬a.toList=b.toList:=λx=>e (str_inj x);simp[jJ,e,this]
def cGj{a b:Bool}{K:Ε->Prop}(h:K (.bool (decide (a=b)))):HEq .bool false (.bool a) (.bool b) K:=⟨a == b,rfl,by cases a<;>cases b<;>simpa using h⟩
def cG9{a b:Bool}{K:Ε->Prop}(h:K (.bool (decide (a≠b)))):HEq .bool true (.bool a) (.bool b) K:=⟨a == b,rfl,by cases a<;>cases b<;>simpa using h⟩
def Ym{t:Ι}{a:Option Addr}{K:Ε->Prop}(h:K (.bool a.isNone)):HEq (.pointer t) false (.pointer a) (.pointer none) K:=⟨a.isNone,by cases a<;>rfl,h⟩
def KZ{t:Ι}{a:Option Addr}{K:Ε->Prop}(h:K (.bool a.isSome)):HEq (.pointer t) true (.pointer a) (.pointer none) K:=⟨a.isNone,by cases a<;>rfl,by cases a<;>exact h⟩
def z8{b:Bool}{K:Ε->Prop}(h:K (.bool !b)):y6 (.bool b) K:=⟨b,rfl,h⟩
def zW{j:IntKind}{n:Int}{k:IntKind}{K:Ε->Prop}(h:K (.int k (k.wrap n))):zP k (.int j n) K:=⟨j,n,rfl,h⟩
def yA{j:IntKind}{n:Int}{K:Ε->Prop}(hr : -9223372036854775808<=n/\n<=9223372036854775807)(h:K (Γ n)):zP .i64 (.int j n) K:=⟨j,n,rfl,by rw[xx1 _ hr];exact h⟩
def cG7{k:IntKind}{a b:Int}{K:Ε->Prop}(h:K (.int k (min a b))):Z2 (.int k a) (.int k b) K:=
 ⟨k,a,b,rfl,rfl,by rw[show (if b<a then b else a)=min a b by split<;>omega];exact h⟩
def cG6{k:IntKind}{a b:Int}{K:Ε->Prop}(h:K (.int k (max a b))):yW (.int k a) (.int k b) K:=
 ⟨k,a,b,rfl,rfl,by rw[show (if b>a then b else a)=max a b by split<;>omega];exact h⟩
def yZ{z cells:Ξ}{ps:List (Nat × Nat × Ε)}{K:Ε->Prop}(hc:ib z ps=some cells)(h:K (.agg cells.toArray)):zn z ps K:=⟨cells,hc,h⟩
def zM{z cells:Ξ}{ps:List (Nat × Nat × Ε)}{e:Ι}{n:Nat}{K:Ε->Ζ->Prop}(hS:SL W l w)(hc:ib z ps=some cells)
  (h:∀b w',SL W (.pt b cells e::l) w'->K (.slice (some ⟨b,0,none⟩) n n) w'):zm z ps e n w K:=⟨cells,hc,h _ _ hS.new⟩
def XC{z:Ξ}{gn n c:Nat}{e:Ι}{kl kc:IntKind}{K:Ε->Ζ->Prop}(hS:SL W l w)(h1:n<=c)(h2:gn*c<=281474976710656)(h3:c<9223372036854775808)
  (h:∀b w',SL W (.pt b (cQ z c) e::l) w'->K (.slice (some ⟨b,0,none⟩) n c) w'):B9 z gn e (.int kl (n:Int)) (.int kc (c:Int)) w K:=⟨n,c,kl,kc,rfl,rfl,h1,h2,h3,h _ _ hS.new⟩
def yp{K:Ζ->Prop}(hS:SL W l w)(h:∀w',SL W l w'->K w'):zi w K:=h _ hS.drew
def app:List Chunk->List Chunk->List Chunk
 | [],F=>F
 | c::r,F=>c::app r F
def AH:∀(p F:List Chunk),app p F=p++F
 | [],_=>rfl
 | c::r,F=>by rw[app,AH r F];rfl
def SL.take{p F:List Chunk}(h:SL W l w)(k:gE p l F):SL W (app p F) w:=by rw[AH];exact h.pick k
def Spec(P:Program)(f:FuncId)(args:Ξ)(pre:List Chunk)(Q:Ε->List Chunk->Prop):Prop:=
 ∀W F w,SL W (app pre F) w->zB P f args w λv w'=>∃post,Q v post/\SL W (app post F) w'
def Enzz{P:Program}{f:FuncId}{args:Ξ}{pre:List Chunk}{Q:Ε->List Chunk->Prop}{l:List Chunk->List Chunk}{G:Ζ->List Chunk->Ζ->Prop}(k:∀W F w,SL W (l F) w->G W F w)(h:(∀W F w,SL W (l F) w->G W F w)->Spec P f args pre Q:=by
 intro kk W F w hS
 (try simp only[app]at hS)
 exact kk W F w hS):Spec P f args pre Q:=h k
def yK{P:Program}{f:FuncId}{args:Ξ}{pre F:List Chunk}{Q:Ε->List Chunk->Prop}{K:Ε->Ζ->Prop}(c:Spec P f args pre Q)(hS:SL W l w)(p:gE pre l F)
  (h:∀v post,Q v post->∀w',SL W (app post F) w'->K v w'):zB P f args w K:=
 (c W F w (hS.take p)).mono λv w' ⟨post,hq,hs⟩=>h v post hq w' hs
def ye{P:Program}{T:List Bool}{f:FuncId}{first captured:Array Ε}{args args':Ξ}{pre F:List Chunk}{Q:Ε->List Chunk->Prop}{K:Ε->Ζ->Prop}(hT:T.getD f false=true)(c:Spec P f args' pre Q)
  (ha:first.toList++args++captured.toList=args') (hS:SL W l w) (p:gE pre l F)
  (h:∀v post,Q v post->∀w',SL W (app post F) w'->K v w'):zK P T (.func (.func f) first captured) args w K:=
 ⟨f,first,captured,rfl,hT,by rw[ha];exact yK c hS p h⟩
def Spec.mono{P:Program}{f:FuncId}{args:Ξ}{pre:List Chunk}{Q Q':Ε->List Chunk->Prop}(h:Spec P f args pre Q)(hq:∀v post,Q v post->Q' v post):Spec P f args pre Q':=
 λW F w hS=>(h W F w hS).mono λv w' ⟨post,hp,hs⟩=>⟨post,hq v post hp,hs⟩
def cE(u:Ε)(q:List Chunk):Ε->List Chunk->Prop:=λv post=>v=u/\post=q
inductive j_:List Chunk->List Chunk->Prop where
 | refl {l:List Chunk}:j_ l l
 | cons {c:Chunk} {t l l':List Chunk} (h:fq c l l') (k:j_ t l'):j_ (c::t) l
 | drop {d:Chunk} {t l:List Chunk} (k:j_ t l):j_ t (d::l)
def j_.spec{t l:List Chunk}(k:j_ t l):∃r,l.Perm (t++r):=by
 induction k with
 | refl=>exact⟨[],by simp⟩
 | cons h _ ih=>obtain⟨r,p⟩:=ih;exact⟨r,h.perm.trans (p.cons _)⟩
 | @drop d t l _ ih=>obtain⟨r,p⟩:=ih;exact⟨d::r,(p.cons d).trans vv4.symm⟩
def SL.S7:∀{r t:List Chunk} {w:Ζ},SL W (t++r) w->SL W t w
 | [],t,w,h=>by simpa using h
 | c::r,t,w,h=>SL.S7 (r:=r) (SL.drop (c:=c) (h.perm vv4))
def SL.cD{t:List Chunk}(h:SL W l w)(k:j_ t l):SL W t w:=by
 obtain⟨r,p⟩:=k.spec;exact (h.perm p).S7
def y1{α:Type}{a:α}{p:Prop}(h:p):a=a/\p:=⟨rfl,h⟩
end
class iL (P:Prop) (Q:outParam Prop):Prop where
 h:Q->P
def Q0{P Q:Prop}[i:iL P Q](h:Q):P:=i.h h
section
variable {K:Ε->Prop}
instance {a:Addr}:iL (qn (.pointer (some a)) K) (K (.pointer (some a))):=⟨cHb⟩
instance {a b:Ε}:iL (zf 0 (.tuple #[a,b]) K) (K a):=⟨cGl⟩
instance {a b:Ε}:iL (zf 1 (.tuple #[a,b]) K) (K b):=⟨cGm⟩
instance {a b c:Ε}:iL (zf 0 (.tuple #[a,b,c]) K) (K a):=⟨cGn⟩
instance {a b c:Ε}:iL (zf 1 (.tuple #[a,b,c]) K) (K b):=⟨cGo⟩
instance {a b c:Ε}:iL (zf 2 (.tuple #[a,b,c]) K) (K c):=⟨cGp⟩
instance {a b c d:Ε}:iL (zf 0 (.tuple #[a,b,c,d]) K) (K a):=⟨cGq⟩
instance {a b c d:Ε}:iL (zf 1 (.tuple #[a,b,c,d]) K) (K b):=⟨cGr⟩
instance {a b c d:Ε}:iL (zf 2 (.tuple #[a,b,c,d]) K) (K c):=⟨cGs⟩
instance {a b c d:Ε}:iL (zf 3 (.tuple #[a,b,c,d]) K) (K d):=⟨cGt⟩
instance {b o off:Nat}:iL (zl off (.pointer (some ⟨b,o,none⟩)) K) (K (.pointer (some ⟨b,o+off,none⟩))):=⟨yN⟩
instance {a:Option Addr} {n c:Nat}:iL (zd (.slice a n c) K) (K (Γ n)):=⟨z7⟩
instance {s:Η}:iL (zX (.string s) K) (K (Γ s.size)):=⟨cG1⟩
instance {k:IntKind} {a b:Int}:iL (zc .eql (.int k a) (.int k b) K) (K (.bool (decide (a=b)))):=⟨Xz⟩
instance {k:IntKind} {a b:Int}:iL (zc .neq (.int k a) (.int k b) K) (K (.bool (decide (a≠b)))):=⟨BR⟩
instance {k:IntKind} {a b:Int}:iL (zc .lss (.int k a) (.int k b) K) (K (.bool (decide (a<b)))):=⟨D7⟩
instance {k:IntKind} {a b:Int}:iL (zc .leq (.int k a) (.int k b) K) (K (.bool (decide (a<=b)))):=⟨cG0⟩
instance {k:IntKind} {a b:Int}:iL (zc .gtr (.int k a) (.int k b) K) (K (.bool (decide (b<a)))):=⟨KY⟩
instance {k:IntKind} {a b:Int}:iL (zc .geq (.int k a) (.int k b) K) (K (.bool (decide (b<=a)))):=⟨cGu⟩
instance {a b:Η}:iL (zc .eql (.string a) (.string b) K) (K (.bool (decide (a=b)))):=⟨cGk⟩
instance {a b:Η}:iL (zc .neq (.string a) (.string b) K) (K (.bool (decide (a≠b)))):=⟨cHa⟩
instance {a b:Bool}:iL (HEq .bool false (.bool a) (.bool b) K) (K (.bool (decide (a=b)))):=⟨cGj⟩
instance {a b:Bool}:iL (HEq .bool true (.bool a) (.bool b) K) (K (.bool (decide (a≠b)))):=⟨cG9⟩
instance {t:Ι} {a:Option Addr}:iL (HEq (.pointer t) false (.pointer a) (.pointer none) K) (K (.bool a.isNone)):=⟨Ym⟩
instance {t:Ι} {a:Option Addr}:iL (HEq (.pointer t) true (.pointer a) (.pointer none) K) (K (.bool a.isSome)):=⟨KZ⟩
instance {b:Bool}:iL (y6 (.bool b) K) (K (.bool !b)):=⟨z8⟩
instance {k:IntKind} {a b:Int}:iL (Z2 (.int k a) (.int k b) K) (K (.int k (min a b))):=⟨cG7⟩
instance {k:IntKind} {a b:Int}:iL (yW (.int k a) (.int k b) K) (K (.int k (max a b))):=⟨cG6⟩
instance {A B:Prop}:iL (df (.bool true) A B) A:=⟨zq⟩
instance {A B:Prop}:iL (df (.bool false) A B) B:=⟨zp⟩
instance {α:Type} {a:α} {p:Prop}:iL (a=a/\p) p:=⟨y1⟩
end
class Ar (op:BinOp) (x y:Ε) (z:outParam Ε) (c:outParam Prop):Prop where
 h:∀{K:Ε->Prop},c->K z->zc op x y K
instance (priority:=high) {a:Nat}:Ar .add (Γ (a:Int)) (Γ 1) (Γ ((a+1:Nat):Int)) (a+1<=9223372036854775807):=⟨QZ⟩
instance {a b:Nat}:Ar .add (Γ (a:Int)) (Γ (b:Int)) (Γ ((a+b:Nat):Int)) (a+b<=9223372036854775807):=⟨ZH⟩
instance (priority:=low) {a b:Int}:Ar .add (Γ a) (Γ b) (Γ (a+b)) (-9223372036854775808<=a+b/\a+b<=9223372036854775807):=⟨KX⟩
instance {k:IntKind} {a b:Nat}:Ar .rem (.int k (a:Int)) (.int k (b:Int)) (.int k ((a % b:Nat):Int)) (0<b):=⟨Q6⟩
instance {a b:Int}:Ar .sub (Γ a) (Γ b) (Γ (a-b)) (-9223372036854775808<=a-b/\a-b<=9223372036854775807):=⟨cHk⟩
section
variable {W w:Ζ} {l l' p F:List Chunk} {c d:Chunk}
def Qb{op:BinOp}{x y z:Ε}{c:Prop}{K:Ε->Prop}[i:Ar op x y z c](h:K z)(hc:c:=by omega):zc op x y K:=i.h hc h
def Xh(h:Has c l:=by (repeat (first|exact Has.hd|apply Has.tl))):Has c l:=h
def Xu(h:gj c d l l':=by (repeat (first|exact gj.hd|apply gj.tl))):gj c d l l':=h
def Xr(h:fq c l l':=by (repeat (first|exact fq.hd|apply fq.tl))):fq c l l':=h
def Xp(h:gE p l F:=by (repeat (first|(with_reducible exact gE.nil)|((with_reducible apply gE.cons);(focus ((repeat (first|(with_reducible exact fq.hd)|(with_reducible apply fq.tl)));done)))))):gE p l F:=h
def Xi(h:j_ p l:=by ((try simp only[app]);repeat (first|(with_reducible exact j_.refl)|((with_reducible apply j_.cons);(focus ((repeat (first|(with_reducible exact fq.hd)|(with_reducible apply fq.tl)));done)))|(with_reducible apply j_.drop)))):j_ p l:=h
def aR{W w:Ζ}{p l:List Chunk}(x:SL W l w)(h:j_ p l:=by ((try simp only[app]);repeat (first|(with_reducible exact j_.refl)|((with_reducible apply j_.cons);(focus ((repeat (first|(with_reducible exact fq.hd)|(with_reducible apply fq.tl)));done)))|(with_reducible apply j_.drop)))):SL W p w:=SL.cD x h
def cF{W w:Ζ}{u:Ε}{q l F:List Chunk}(x:SL W l w)(h:j_ (app q F) l:=by ((try simp only[app]);repeat (first|(with_reducible exact j_.refl)|((with_reducible apply j_.cons);(focus ((repeat (first|(with_reducible exact fq.hd)|(with_reducible apply fq.tl)));done)))|(with_reducible apply j_.drop)))):∃y,cE u q u y/\SL W (app y F) w:=⟨_,⟨rfl,rfl⟩,SL.cD x h⟩
def Qa{b o:Nat}{cs:Ξ}{t:Ι}{v:Ε}{K:Ε->Prop}(hS:SL W l w)(h:K v)(m:Has (.pt b cs t) l:=by (with_unfolding_all (repeat (first|exact Has.hd|apply Has.tl))))(hv:cs[o]?=some v:=by (with_unfolding_all rfl)):cC (.pointer (some ⟨b,o,none⟩)) w K:=zT hS m hv h
def Qc{b n:Nat}{cs:Ξ}{t:Ι}{K:Ε->Prop}(hS:SL W l w)(h:K (.agg cs.toArray))(m:Has (.pt b cs t) l:=by (with_unfolding_all (repeat (first|exact Has.hd|apply Has.tl))))(hn:cs.length=n:=by (with_unfolding_all rfl)):ze n (Δ b) w K:=zr hS m hn h
def Qd{z cells:Ξ}{ps:List (Nat × Nat × Ε)}{K:Ε->Prop}(h:K (.agg cells.toArray))(hc:ib z ps=some cells:=by (with_unfolding_all (simp[ib,Value.cells];rfl))):zn z ps K:=yZ hc h
def Qe{b o:Nat}{cs:Ξ}{t:Ι}{v u:Ε}{K:Ζ->Prop}(hS:SL W l w)(h:∀w',SL W l' w'->K w')(m:gj (.pt b cs t) (.pt b (cs.set o v) t) l l':=by (with_unfolding_all (repeat (first|exact gj.hd|apply gj.tl))))(hu:cs[o]?=some u:=by (with_unfolding_all rfl))(h1:v.oneCell'=true:=by (with_unfolding_all (first|rfl|assumption))):
  eE (.pointer (some ⟨b,o,none⟩)) v w K:=Zu hS m hu h1 h
def Qf{b n:Nat}{cs vs:Ξ}{t:Ι}{K:Ζ->Prop}(hS:SL W l w)(h:∀w',SL W l' w'->K w')(m:gj (.pt b cs t) (.pt b vs t) l l':=by (with_unfolding_all (repeat (first|exact gj.hd|apply gj.tl))))(hn:vs.length=n:=by (with_unfolding_all rfl))(hc:cs.length=n:=by (with_unfolding_all rfl))(h1:vs.all Value.oneCell'=true:=by (with_unfolding_all rfl)):
  zj n (Δ b) (.agg vs.toArray) w K:=zt hS m hn hc (zz5.1 h1) h
def Tl{z cs:Ξ}{n:Nat}(hc:cs.length=n)(hz:z.length=n):ib (cQ z 1) [(0,n,.agg cs.toArray)]=some cs:=by
 subst hc;simp[ib,cQ,Value.cells,hz]
def Qh{z cs:Ξ}{e:Ι}{n:Nat}{K:Ε->Ζ->Prop}(hS:SL W l w)
  (h:∀b w',SL W (.pt b cs e::l) w'->K (.slice (some ⟨b,0,none⟩) 1 1) w') (hc:cs.length=n:=by (with_unfolding_all rfl)) (hz:z.length=n:=by (with_unfolding_all rfl)):zm (cQ z 1) [(0,n,.agg cs.toArray)] e 1 w K:=zM hS (Tl hc hz) h
def Qg{z cells:Ξ}{ps:List (Nat × Nat × Ε)}{e:Ι}{n:Nat}{K:Ε->Ζ->Prop}(hS:SL W l w)
  (h:∀b w',SL W (.pt b cells e::l) w'->K (.slice (some ⟨b,0,none⟩) n n) w') (hc:ib z ps=some cells:=by (with_unfolding_all (simp[ib,Value.cells,cQ];rfl))):zm z ps e n w K:=zM hS hc h
end
structure Wr(Q:Prop):Prop where
 h:Q
def Gp{P Q:Prop}(k:Q) (h:Wr Q->P:=by
 intro kk
 (with_reducible first|apply Q0|refine Qa hS ?_|refine Qb ?_|refine Qc hS ?_|refine Qd ?_)
 repeat (with_reducible first|apply Q0|refine Qa hS ?_|refine Qb ?_|refine Qc hS ?_|refine Qd ?_)
 exact kk.h):P:=h ⟨k⟩
def cA{P p A B:Prop}{i:Decidable p}(x:p->A)(y:¬p->B)(h:Wr (df (.bool (decide p)) A B)->P:=by
 intro kk
 (with_reducible first|apply Q0|refine Qa hS ?_|refine Qb ?_|refine Qc hS ?_|refine Qd ?_)
 repeat (with_reducible first|apply Q0|refine Qa hS ?_|refine Qb ?_|refine Qc hS ?_|refine Qd ?_)
 exact kk.h):P:=h (.mk (za x y))
def Gw{W:Ζ}{l:List Chunk}{P:Prop}{G:Ζ->Prop}(k:∀w,SL W l w->G w) (h:(∀w,SL W l w->G w)->P:=by
 intro kk;first
  | ((with_reducible refine Qe hS ?_);intro w hS;simp only[List.set]at hS)
  | ((with_reducible first|refine yp hS ?_|refine Qf hS ?_);intro w hS)
 repeat (first
  | (with_reducible first|apply Q0|refine Qa hS ?_|refine Qb ?_|refine Qc hS ?_|refine Qd ?_)
  | ((with_reducible refine Qe hS ?_);intro w hS;simp only[List.set]at hS)
  | ((with_reducible first|refine yp hS ?_|refine Qf hS ?_);intro w hS))
 exact kk w hS):P:=h k
def Gb{W:Ζ}{l:Nat->List Chunk}{P:Prop}{G:Nat->Ζ->Prop}(k:∀b w,SL W (l b) w->G b w) (h:(∀b w,SL W (l b) w->G b w)->P:=by
 intro kk
 (with_reducible first|refine zE hS ?_|refine Qh hS ?_|refine Qg hS ?_)
 intro b w hS;repeat (first
  | (with_reducible first|apply Q0|refine Qa hS ?_|refine Qb ?_|refine Qc hS ?_|refine Qd ?_)
  | ((with_reducible refine Qe hS ?_);intro w hS;simp only[List.set]at hS)
  | ((with_reducible first|refine yp hS ?_|refine Qf hS ?_);intro w hS))
 exact kk b w hS):P:=h k
def Gn{W:Ζ}{l:List Chunk}{P:Prop}{G:Ζ->Prop}(k:∀w,SL W l w->G w) (h:(∀w,SL W l w->G w)->P:=by
 intro kk;try simp only[app]at hS
 repeat (first
  | (with_reducible first|apply Q0|refine Qa hS ?_|refine Qb ?_|refine Qc hS ?_|refine Qd ?_)
  | ((with_reducible refine Qe hS ?_);intro w hS;simp only[List.set]at hS)
  | ((with_reducible first|refine yp hS ?_|refine Qf hS ?_);intro w hS))
 exact kk w hS):P:=h k
def Gm{W:Ζ}{l:Nat->List Chunk}{P:Prop}{G:Nat->Ζ->Prop}(k:∀b w,SL W (l b) w->G b w) (h:(∀b w,SL W (l b) w->G b w)->P:=by
 intro kk;try simp only[app]at hS
 repeat (first
  | (with_reducible first|apply Q0|refine Qa hS ?_|refine Qb ?_|refine Qc hS ?_|refine Qd ?_)
  | ((with_reducible refine Qe hS ?_);intro w hS;simp only[List.set]at hS)
  | ((with_reducible first|refine yp hS ?_|refine Qf hS ?_);intro w hS))
 (with_reducible first|refine zE hS ?_|refine Qh hS ?_|refine Qg hS ?_)
 intro b w hS;repeat (first
  | (with_reducible first|apply Q0|refine Qa hS ?_|refine Qb ?_|refine Qc hS ?_|refine Qd ?_)
  | ((with_reducible refine Qe hS ?_);intro w hS;simp only[List.set]at hS)
  | ((with_reducible first|refine yp hS ?_|refine Qf hS ?_);intro w hS))
 exact kk b w hS):P:=h k
def Cc{W w:Ζ}{l pre F:List Chunk}{P:Program}{f:FuncId}{args:Ξ}{Q:Ε->List Chunk->Prop}{K:Ε->Ζ->Prop}(c:Spec P f args pre Q)(h:∀v post,Q v post->∀w',SL W (app post F) w'->K v w')
  (hs:SL W l w:=by exact hS) (p:gE pre l F:=by (repeat (first|(with_reducible exact gE.nil)|((with_reducible apply gE.cons);(focus ((repeat (first|(with_reducible exact fq.hd)|(with_reducible apply fq.tl)));done)))))):zB P f args w K:=yK c hs p h
def Cg{W w:Ζ}{l l' pre q F:List Chunk}{P:Program}{f:FuncId}{args:Ξ}{u:Ε}{K:Ε->Ζ->Prop}{G:Ζ->Prop}(c:Spec P f args pre (cE u q))(k:∀w,SL W l' w->G w)
  (hs:SL W l w:=by exact hS) (p:gE pre l F:=by (repeat (first|(with_reducible exact gE.nil)|((with_reducible apply gE.cons);(focus ((repeat (first|(with_reducible exact fq.hd)|(with_reducible apply fq.tl)));done))))))
  (e:(∀w,SL W l' w->G w)->∀w,SL W (app q F) w->K u w:=by
   intro kk w hS;try simp only[app]at hS
   repeat (first
    | (with_reducible first|apply Q0|refine Qa hS ?_|refine Qb ?_|refine Qc hS ?_|refine Qd ?_)
    | ((with_reducible refine Qe hS ?_);intro w hS;simp only[List.set]at hS)
    | ((with_reducible first|refine yp hS ?_|refine Qf hS ?_);intro w hS))
   exact kk w hS):zB P f args w K:=yK c hs p λv post ⟨h1,h2⟩ w' hw=>by subst h1 h2;exact e k w' hw
def bF(v:Ε)(t:Ι)(sz n:Nat)(cells:Ξ):zC:=jT λx:Option (Nat × Nat × Ξ)=>match x with
 | none=>zH ((∃a,v= .slice a 0 0)/\n=0/\cells=[]) []
 | some (b,cap,rest)=>zH (v= .slice (some ⟨b,0,none⟩) n cap/\n<=cap/\cells.length=n*sz/\rest.length=(cap-n)*sz) [.pt b (cells++rest) t]
section
variable {W w:Ζ} {l:List Chunk}
def bF.open{v:Ε}{t:Ι}{sz n:Nat}{cells:Ξ}(h:SL W (.ob (bF v t sz n cells)::l) w):
  ((∃a,v= .slice a 0 0)/\n=0/\cells=[]/\SL W l w)\/∃b cap rest,v= .slice (some ⟨b,0,none⟩) n cap/\n<=cap/\cells.length=n*sz/\rest.length=(cap-n)*sz/\SL W (.pt b (cells++rest) t::l) w:=by
 unfold bF at h;obtain⟨x,h⟩:=SL.ex.1 h
 match x,h with
 | none,h=>
  obtain⟨⟨h1,h2,h3⟩,h⟩:=SL.fact.1 h;exact .inl ⟨h1,h2,h3,h⟩
 | some (b,cap,rest),h=>
  obtain⟨⟨h1,h2,h3,h4⟩,h⟩:=SL.fact.1 h;exact .inr ⟨b,cap,rest,h1,h2,h3,h4,h⟩
def bF.nil{t:Ι}{sz:Nat}(h:SL W l w):SL W (.ob (bF Θ t sz 0 [])::l) w:=by
 unfold bF;exact SL.ex.2 ⟨none,SL.fact.2 ⟨⟨⟨_,rfl⟩,rfl,rfl⟩,h⟩⟩
def bF.ri{a:Option Addr}{t:Ι}{sz:Nat}(h:SL W l w):SL W (.ob (bF (.slice a 0 0) t sz 0 [])::l) w:=by
 unfold bF;exact SL.ex.2 ⟨none,SL.fact.2 ⟨⟨⟨_,rfl⟩,rfl,rfl⟩,h⟩⟩
def bF.mk{b n cap:Nat}{t:Ι}{sz:Nat}{cells rest:Ξ}(h1:n<=cap)(h2:cells.length=n*sz)(h3:rest.length=(cap-n)*sz)(h:SL W (.pt b (cells++rest) t::l) w):
  SL W (.ob (bF (.slice (some ⟨b,0,none⟩) n cap) t sz n cells)::l) w:=by
 unfold bF;exact SL.ex.2 ⟨some (b,cap,rest),SL.fact.2 ⟨⟨rfl,h1,h2,h3⟩,h⟩⟩
def bF.full{b n:Nat}{t:Ι}{sz:Nat}{cells:Ξ}(h2:cells.length=n*sz)(h:SL W (.pt b cells t::l) w):SL W (.ob (bF (.slice (some ⟨b,0,none⟩) n n) t sz n cells)::l) w:=
 bF.mk (rest:=[]) (zzi _) h2 (by simp) (by simpa using h)
def X9{b o m cap sz:Nat}{cs pQ:Ξ}{t:Ι}(hS:SL W l w)(hm:Has (.pt b pQ t) l)(hl:cs.length=m*sz)(hc:∀j v,cs[j]?=some v->pQ[o+j]?=some v):kL w sz (.slice (some ⟨b,o,none⟩) m cap) m cs:=
 ⟨rfl,hl,λj v e=>by rw[yye];exact hS.cell hm (hc j v e)⟩
def jR{b m cap sz:Nat}{cs:Ξ}{t:Ι}(hS:SL W l w)(hm:Has (.pt b cs t) l)(hl:cs.length=m*sz):kL w sz (.slice (some ⟨b,0,none⟩) m cap) m cs:=
 X9 hS hm hl λj v e=>by rw[yya];exact e
def cIt{s:Η}:kL w 1 (.string s) s.size (s.data.toList.map λb=>.int .u8 b.toNat):=⟨rfl,rfl⟩
def WT{cells rest cs:Ξ}:cs.length<=rest.length->rj (cells++rest) cells.length cs=cells++cs++rest.drop cs.length:=λh=>by
 rw[BJ _ _ _ (by simp;omega)];simp
def zJ{x y:Ε}{t:Ι}{sz gn n m:Nat}{z cells cs:Ξ}{F:List Chunk}{K:Ε->Ζ->Prop}(hS:SL W l w)(hr:fq (.ob (bF x t sz n cells)) l F)(iD:kL w sz y m cs)
  (hl:cs.length=m*sz) (hz:z.length=sz) (h1:∀v∈cs,v.oneCell'=true) (hb:(n+m)*gn<=140737488355328) (hn:n+m<=140737488355328)
  (h:∀v' w',SL W (.ob (bF v' t sz (n+m) (cells++cs))::F) w'->K v' w'):zx sz gn z t x y w K:=by
 rcases bF.open (hS.perm hr.perm) with ⟨⟨a,rfl⟩,rfl,rfl,fY⟩|⟨b,cap,rest,rfl,hc,hlen,jD,fY⟩
 ·refine⟨a,0,0,m,cs,rfl,iD,hb,hn,λh0=>?_,λh0=>⟨[],(by cases a with|none=>exact⟨rfl,rfl⟩|some p=>exact⟨rfl,by simp,λj v e=>by simp at e⟩),λc gl ju=>?_⟩⟩
  ·have hm:m=0:=by omega
   subst hm;have:cs=[]:=zzl (by simpa using hl);subst this;cases a with
   | none=>exact h _ _ (bF.ri fY)
   | some p=>exact h _ _ (bF.ri fY)
  refine h _ _ ?_;have:=bF.mk (sz:=sz) (n:=0+m) (cells:=cs) (rest:=cQ z (c-(0+m))) (cap:=c) gl (by simpa using hl) (by rw[l7,hz]) (SL.new (cs:=cs++cQ z (c-(0+m))) (t:=t) (fY.drew));simpa using this
 refine⟨some ⟨b,0,none⟩,n,cap,m,cs,rfl,iD,hb,hn,λh0=>?_,λh0=>?_⟩
 ·have p7:cs.length<=rest.length:=by
   rw[hl,jD];exact yyv _ (by omega)
  show ud (Addr.add ⟨b,0,none⟩ (n*sz)) 0 cs w _;rw[yye];refine BW (t:=t) cs (0+n*sz) 0 (cells++rest) w (.pt b (cells++rest) t::F) _ fY .hd (by simp[hlen];omega) h1 (λw' pZ=>h _ _ ?_);have e:rj (cells++rest) (0+n*sz+0) cs=cells++cs++rest.drop cs.length:=by
   rw[show 0+n*sz+0=cells.length by omega];exact WT p7
  rw[e]at pZ
  exact bF.mk (n:=n+m) (cells:=cells++cs) (rest:=rest.drop cs.length) h0 (by simp[hlen,hl,yyu]) (by
   rw[zzs,jD,hl,<- wws];congr 1;omega) pZ
 refine⟨cells,⟨rfl,hlen,λj v e=>?_⟩,λc gl ju=>h _ _ ?_⟩
 ·rw[yye];refine fY.cell .hd ?_;rw[yya];rw[zzm (zzf.1 e).1];exact e
 exact bF.mk (n:=n+m) (cells:=cells++cs) (rest:=cQ z (c-(n+m))) gl (by simp[hlen,hl,yyu]) (by rw[l7,hz]) (SL.new (fY.drop.drew))
def de(H:bw)(sz:Nat)(v:Ε)(n:Nat)(cells:Ξ):Prop:=
 cells.length=n*sz/\∃a cap,v= .slice a n cap/\n<=cap/\(n=0\/∃b o,a=some ⟨b,o,none⟩/\∀j u,cells[j]?=some u->H.cell b (o+j)=some u)
def de.mono{H H':bw}(hh:H.le H'){sz n:Nat}{v:Ε}{cells:Ξ}(h:de H sz v n cells):de H' sz v n cells:=by
 obtain⟨h1,a,cap,h2,h3,h4⟩:=h;refine⟨h1,a,cap,h2,h3,h4.imp id ?_⟩;rintro ⟨b,o,h5,h6⟩;exact⟨b,o,h5,λj u hu=>bw.a_t hh (h6 j u hu)⟩
def de.nil(H:bw)(sz:Nat):de H sz Θ 0 []:=⟨by simp,none,0,rfl,zzi _,.inl rfl⟩
def bF.freeze{H:bw}{v:Ε}{t:Ι}{sz n:Nat}{cells:Ξ}(h:SL W (.mem H::.ob (bF v t sz n cells)::l) w):∃H',H.le H'/\de H' sz v n cells/\SL W (.mem H'::l) w:=by
 rcases bF.open (h.perm (.swap _ _ _)) with ⟨⟨a,rfl⟩,rfl,rfl,hS⟩|⟨b,cap,rest,rfl,hc,hlen,jD,hS⟩
 ·exact⟨H,bw.le_refl H,⟨by simp,a,0,rfl,zzi _,.inl rfl⟩,hS⟩
 obtain⟨H',h1,h2,h3⟩:=SL.freeze (hS.perm (.swap _ _ _));refine⟨H',h1,⟨hlen,_,cap,rfl,hc,.inr ⟨b,0,rfl,λj u hu=>?_⟩⟩,h3⟩;rw[yya];refine h2 j u ?_;rw[zzm (zzf.1 hu).1];exact hu
def de.one{H:bw}{sz n:Nat}{v:Ε}{cells:Ξ}(h:de H sz v n cells):v.oneCell'=true:=by
 obtain⟨_,a,cap,rfl,_,_⟩:=h;rfl
def D_{H:bw}{y:Ε}{sz m:Nat}{cs:Ξ}(hS:SL W l w)(hm:Has (.mem H) l)(h:de H sz y m cs):kL w sz y m cs:=by
 obtain⟨h1,a,cap,rfl,h3,h4⟩:=h;cases a with
 | none=>
  rcases h4 with rfl|⟨b,o,h5,_⟩
  ·exact⟨rfl,zzl (by simpa using h1)⟩
  cases h5
 | some p=>
  refine⟨rfl,h1,λj v e=>?_⟩;rcases h4 with rfl|⟨b,o,h5,h6⟩
  ·have:cs=[]:=zzl (by simpa using h1);subst this;simp at e
  cases h5;rw[yye];exact hS.Gq hm (h6 j v e)
def zo{H:bw}{v:Ε}{sz n:Nat}{cells:Ξ}{K:Ε->Prop}(h:de H sz v n cells)(k:K (Γ n)):zd v K:=by
 obtain⟨_,a,cap,rfl,_,_⟩:=h;exact z7 k
def Yo{H:bw}{v:Ε}{sz n j:Nat}{k:IntKind}{cells:Ξ}{K:Ε->Prop}(h:de H sz v n cells)(hj:j<n)
  (hK:∀b o,(∀i u,i<sz->cells[j*sz+i]?=some u->H.cell b (o+i)=some u)->K (.pointer (some ⟨b,o,none⟩))):zk sz v (.int k (j:Int)) K:=by
 obtain⟨_,a,cap,rfl,_,h4⟩:=h;rcases h4 with rfl|⟨b,o,rfl,h6⟩
 ·omega
 refine zG hj (hK b (o+j*sz) λi u hi hu=>?_);have:=h6 _ u hu
 rwa [<- vvk]at this
def yT{H:bw}{v u:Ε}{n j:Nat}{k:IntKind}{cells:Ξ}{K:Ε->Prop}(hS:SL W l w)(hm:Has (.mem H) l)(h:de H 1 v n cells)(hj:j<n)(hu:cells[j]?=some u)(hK:K u):
  zk 1 v (.int k (j:Int)) λp=>cC p w K:=
 Yo h hj λb o hb=>GN hS hm (hb 0 u (by omega) (by simpa using hu)) hK
end
