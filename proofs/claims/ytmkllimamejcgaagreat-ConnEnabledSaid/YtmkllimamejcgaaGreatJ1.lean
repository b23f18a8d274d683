/- Part of the proof. -/
import Derived.Test.YtmkllimamejcgaaGreatQEng10
namespace Go.Proofs.YtmkllimamejcgaaGreat
set_option linter.all false
open Go.RowKit
abbrev Ζ:=UInt8
abbrev Ε:=TypeId
abbrev Β:=ByteArray
abbrev Α:=World
abbrev Ω:=Value
abbrev Φ:=List Nat
abbrev Ξ:=List Int
abbrev Θ:=List Β
abbrev Δ:=List Ζ
abbrev Γ:=List Ω
def zzh:=@List.getElem?_eq_some_iff
def yy7:=@decide_eq_false_iff_not
def ww2:=@Array.getElem?_modify
def xxh:=@Array.getElem?_eq_some_iff
def ww3:=@Array.getElem?_eq_getElem
def yy8:=@Nat.eq_zero_or_pos
def yyb:=@Addr.add_lit
def yyd:=@Nat.zero_add
def zzj:=@List.length_cons
def zzd:=@List.getElem?_eq_getElem
def ww9:=@Nat.add_assoc
def yyq:=@List.drop_eq_getElem_cons
def yyl:=@List.take_append_drop
def wwa:=@List.take_length_add_append
def xxr:=@List.drop_length_add_append
def yy3:=@List.drop_eq_nil_of_le
def xxg:=@Nat.add_zero
def zzl:=@of_decide_eq_true
def yyz:=@of_decide_eq_false
def wwb:=@IntWalk.i64_in
def xxt:=@Int.tmod_eq_emod_of_nonneg
def vvy:=@List.perm_middle
def zz5:=@List.all_eq_true
def zzi:=@Nat.le_refl
def zzo:=@List.eq_nil_of_length_eq_zero
def yyt:=@Nat.mul_le_mul_right
def yyy:=@Nat.add_mul
def zzq:=@List.length_drop
def wwf:=@Nat.mul_sub_right_distrib
def zzr:=@List.getElem?_append_left
abbrev bw:=Nat->Option Obj
abbrev zB:=bw->Prop
def bw.emp:bw:=λ_=>none
def bw.one(b:Nat)(o:Obj):bw:=λk=>if k=b then some o else none
def Sep(h h1 h2:bw):Prop:=∀b,(h1 b=none/\h b=h2 b)\/(h2 b=none/\h b=h1 b)
def bw.le(h k:bw):Prop:=∀b o,h b=some o->k b=some o
def Sep.symm{h h1 h2:bw}(s:Sep h h1 h2):Sep h h2 h1:=λb=>(s b).symm
def Sep.left{h h1 h2:bw}(s:Sep h h1 h2):h1.le h:=λb o e=>by
 rcases s b with ⟨a,c⟩|⟨a,c⟩
 ·rw[a]at e;cases e
 rw[c,e]
def Sep.right{h h1 h2:bw}(s:Sep h h1 h2):h2.le h:=s.symm.left
def Sep.emp(h:bw):Sep h bw.emp h:=λb=>.inl ⟨rfl,rfl⟩
def Sep.fwp{h h1:bw}(s:Sep h bw.emp h1):h=h1:=funext λb=>by
 rcases s b with ⟨_,c⟩|⟨a,c⟩
 ·exact c
 rw[c,a];rfl
def Sep.swap{h h1 h2 h3 h4:bw}(s:Sep h h1 h2)(t:Sep h2 h3 h4):∃k,Sep h h3 k/\Sep k h1 h4:=by
 refine⟨λb=>(h1 b).or (h4 b),λb=>?_,λb=>?_⟩
 ·rcases s b with ⟨a,c⟩|⟨a,c⟩<;>rcases t b with ⟨d,e⟩|⟨d,e⟩<;>simp_all
 rcases s b with ⟨a,c⟩|⟨a,c⟩<;>rcases t b with ⟨d,e⟩|⟨d,e⟩<;>simp_all
def Sep.assoc{h h1 h2 h3 h4:bw}(s:Sep h h1 h2)(t:Sep h1 h3 h4):∃k,Sep h h3 k/\Sep k h4 h2:=by
 obtain⟨k,a,b⟩:=s.symm.swap t;exact⟨k,a,b.symm⟩
def Sep.join{h h1 h2 h3 k:bw}(s:Sep h h3 k)(t:Sep k h1 h2):∃k',Sep h k' h2/\Sep k' h3 h1:=by
 obtain⟨k',a,b⟩:=s.swap t.symm;exact⟨k',a.symm,b⟩
inductive Chunk where
 | pt (b:Nat) (cs:Γ) (t:Ε)
 | mp (b:Nat) (es:List MapEntry) (clock:Nat)
 | mem (H:bw)
 | ob (A:zB)
def aFy(n:Nat)(f:Nat × Nat):Prop:=f.1=f.2\/n<=f.1
def Chunk.holds:Chunk->zB
 | .pt b cs t=>λh=>∃f,aFy cs.length f/\h=bw.one b (.cells cs.toArray t f)
 | .mp b es c=>λh=>h=bw.one b (.map es.toArray c)
 | .mem H=>λh=>h=H
 | .ob A=>A
def star:List Chunk->zB
 | [],h=>h=bw.emp
 | c::l,h=>∃h1 h2,Sep h h1 h2/\c.holds h1/\star l h2
structure SL(W:Α)(l:List Chunk)(w:Α):Prop where
 os:w.os=W.os
 tape:w.tape=W.tape
 output:w.output=W.output
 out:∃h:bw,star l h/\∀b o,h b=some o->w.heap[b]?=some o
def gih{A B:Chunk}{l:List Chunk}{h:bw}(s:star (A::B::l) h):star (B::A::l) h:=by
 obtain⟨h1,h2,s1,a,h3,h4,s2,b,r⟩:=s;obtain⟨k,x,y⟩:=s1.swap s2;exact⟨h3,k,x,b,h1,h4,y,a,r⟩
def gig{l l':List Chunk}(p:l.Perm l'):∀{h:bw},star l h->star l' h:=by
 induction p with
 | nil=>exact λs=>s
 | cons x _ ih=>rintro h ⟨h1,h2,s,a,r⟩;exact⟨h1,h2,s,a,ih r⟩
 | swap x y l=>exact λs=>gih s
 | trans _ _ i j=>exact λs=>j (i s)
def SL.perm{W:Α}{l l':List Chunk}{w:Α}(h:SL W l w)(p:l.Perm l'):SL W l' w:=
 ⟨h.os,h.tape,h.output,let ⟨k,s,m⟩:=h.out;⟨k,gig p s,m⟩⟩
def aFc{l l':List Chunk}:∀{h:bw},star (l++l') h↔∃h1 h2,Sep h h1 h2/\star l h1/\star l' h2:=by
 induction l with
 | nil=>
  intro h;constructor
  ·intro s;exact⟨bw.emp,h,Sep.emp h,rfl,s⟩
  rintro ⟨h1,h2,s,rfl,t⟩;rw[s.fwp];exact t
 | cons c l ih=>
  intro h;constructor
  ·rintro ⟨h1,h2,s,a,r⟩;obtain⟨h3,h4,t,b,d⟩:=ih.1 r;obtain⟨k,x,y⟩:=s.join t;exact⟨k,h4,x,⟨h1,h3,y,a,b⟩,d⟩
  rintro ⟨h1,h2,s,⟨h3,h4,t,a,b⟩,d⟩;obtain⟨k,x,y⟩:=s.assoc t;exact⟨h3,k,x,a,ih.2 ⟨h4,h2,y,b,d⟩⟩
section
variable {W w:Α} {l:List Chunk}
def SL.drop{c:Chunk}(h:SL W (c::l) w):SL W l w:=
 ⟨h.os,h.tape,h.output,let ⟨k,⟨h1,h2,s,a,r⟩,m⟩:=h.out;⟨h2,r,λb o e=>m b o (s.right b o e)⟩⟩
def SL.conv{c:Chunk}{l1:List Chunk}(h:SL W (c::l) w)(f:∀k,c.holds k->star l1 k):SL W (l1++l) w:=
 ⟨h.os,h.tape,h.output,let ⟨k,⟨h1,h2,s,a,r⟩,m⟩:=h.out;⟨k,aFc.2 ⟨h1,h2,s,f _ a,r⟩,m⟩⟩
def SL.fold{c:Chunk}{l1:List Chunk}(h:SL W (l1++l) w)(f:∀k,star l1 k->c.holds k):SL W (c::l) w:=
 ⟨h.os,h.tape,h.output,let ⟨k,s,m⟩:=h.out;let ⟨h1,h2,s,a,r⟩:=aFc.1 s;⟨k,⟨h1,h2,s,f _ a,r⟩,m⟩⟩
def nT{α:Type}(A:α->zB):zB:=λh=>∃x,A x h
def zG(p:Prop)(l:List Chunk):zB:=λh=>p/\star l h
def SL.ex{α:Type}{A:α->zB}:SL W (.ob (nT A)::l) w↔∃x,SL W (.ob (A x)::l) w:=by
 constructor
 ·rintro ⟨a,b,c,k,⟨h1,h2,s,⟨x,hx⟩,r⟩,m⟩;exact⟨x,a,b,c,k,⟨h1,h2,s,hx,r⟩,m⟩
 rintro ⟨x,a,b,c,k,⟨h1,h2,s,hx,r⟩,m⟩;exact⟨a,b,c,k,⟨h1,h2,s,⟨x,hx⟩,r⟩,m⟩
def SL.fact{p:Prop}{l1:List Chunk}:SL W (.ob (zG p l1)::l) w↔p/\SL W (l1++l) w:=by
 constructor
 ·intro h;obtain⟨k,⟨h1,h2,s,⟨hp,hx⟩,r⟩,m⟩:=h.out;exact⟨hp,h.conv (λ_ s=>s.2)⟩
 rintro ⟨hp,h⟩;exact h.fold (λ_ s=>⟨hp,s⟩)
inductive Has (c:Chunk):List Chunk->Prop where
 | hd {l:List Chunk}:Has c (c::l)
 | tl {d:Chunk} {l:List Chunk} (h:Has c l):Has c (d::l)
def Has.heap{c:Chunk}{l:List Chunk}(h:Has c l):∀{k:bw},star l k->∃h1,c.holds h1/\h1.le k:=by
 induction h with
 | hd=>rintro k ⟨h1,h2,s,a,r⟩;exact⟨h1,a,s.left⟩
 | tl _ ih=>
  rintro k ⟨h1,h2,s,a,r⟩;obtain⟨h3,b,e⟩:=ih r;exact⟨h3,b,λx o y=>s.right x o (e x o y)⟩
inductive lk (c d:Chunk):List Chunk->List Chunk->Prop where
 | hd {l:List Chunk}:lk c d (c::l) (d::l)
 | tl {e:Chunk} {l l':List Chunk} (h:lk c d l l'):lk c d (e::l) (e::l')
inductive lg (c:Chunk):List Chunk->List Chunk->Prop where
 | hd {l:List Chunk}:lg c (c::l) l
 | tl {d:Chunk} {l l':List Chunk} (h:lg c l l'):lg c (d::l) (d::l')
inductive lJ:List Chunk->List Chunk->List Chunk->Prop where
 | nil {l:List Chunk}:lJ [] l l
 | cons {c:Chunk} {p l l' F:List Chunk} (h:lg c l l') (k:lJ p l' F):lJ (c::p) l F
def lg.perm{c:Chunk}{l l':List Chunk}(h:lg c l l'):l.Perm (c::l'):=by
 induction h with
 | hd=>exact .refl _
 | tl _ ih=>exact (ih.cons _).trans (.swap _ _ _)
def lJ.perm{p l F:List Chunk}(h:lJ p l F):l.Perm (p++F):=by
 induction h with
 | nil=>exact .refl _
 | cons r _ ih=>exact r.perm.trans (ih.cons _)
def SL.pick{p F:List Chunk}(h:SL W l w)(k:lJ p l F):SL W (p++F) w:=h.perm k.perm
def SL.tM{b:Nat}{cs:Γ}{t:Ε}(h:SL W l w)(m:Has (.pt b cs t) l):∃f,aFy cs.length f/\w.heap[b]?=some (.cells cs.toArray t f):=by
 obtain⟨k,s,x⟩:=h.out;obtain⟨h1,⟨f,hf,rfl⟩,le⟩:=m.heap s;exact⟨f,hf,x b _ (le b _ (by simp[bw.one]))⟩
def SL.cell{b o:Nat}{cs:Γ}{t:Ε}{v:Ω}(h:SL W l w)(m:Has (.pt b cs t) l)(hv:cs[o]?=some v):w.cell? ⟨b,o,none⟩=some v:=by
 obtain⟨f,_,e⟩:=h.tM m;simp[World.cell?,e,hv]
def SL.frozen{b o:Nat}{cs:Γ}{t:Ε}{v:Ω}(h:SL W l w)(m:Has (.pt b cs t) l)(hv:cs[o]?=some v):w.frozen? ⟨b,o,none⟩=false:=by
 obtain⟨f,hf,e⟩:=h.tM m;have iw:=(zzh.1 hv).1;obtain⟨x,y⟩:=f;simp only[World.frozen?,e];rcases hf with hf|hf
 ·simp only[Bool.and_eq_false_iff,yy7];simp only at hf;omega
 simp only[Bool.and_eq_false_iff,yy7];simp only at hf;omega
def bw.cell(H:bw)(b o:Nat):Option Ω:=match H b with
 | some (.cells c _ _)=>c[o]?
 | _=>none
def SL.L5{H:bw}{b o:Nat}{v:Ω}(h:SL W l w)(m:Has (.mem H) l)(hv:H.cell b o=some v):w.cell? ⟨b,o,none⟩=some v:=by
 obtain⟨k,s,x⟩:=h.out;obtain⟨h1,rfl,le⟩:=m.heap s;unfold bw.cell at hv;split at hv
 ·rename_i c t f e;have:=x b _ (le b _ e);simp[World.cell?,this,hv]
 cases hv
def lk.perm{c d:Chunk}{l l':List Chunk}(u:lk c d l l'):∃r,l.Perm (c::r)/\l'.Perm (d::r):=by
 induction u with
 | hd=>exact⟨_,.refl _,.refl _⟩
 | tl _ ih=>
  obtain⟨r,p,q⟩:=ih;exact⟨_::r,(p.cons _).trans (.swap _ _ _),(q.cons _).trans (.swap _ _ _)⟩
def SL.vI{l':List Chunk}{c d:Chunk}{w':Α}{b:Nat}{o':Obj}(h:SL W l w)(u:lk c d l l')(hc:∀k,c.holds k->∃o,k=bw.one b o)(hd:d.holds (bw.one b o'))
  (hw:w'.heap[b]?=some o') (hk:∀x,x≠b->w'.heap[x]?=w.heap[x]?) (e1:w'.os=w.os) (e2:w'.tape=w.tape) (e3:w'.output=w.output):SL W l' w':=by
 obtain⟨r,p,q⟩:=u.perm;obtain⟨a1,a2,a3,k,⟨h1,h2,s,a,t⟩,m⟩:=h.perm p;obtain⟨o,rfl⟩:=hc _ a;have hb:h2 b=none:=by
  rcases s b with ⟨x,_⟩|⟨x,_⟩
  ·simp[bw.one]at x
  exact x
 suffices hs:SL W (d::r) w' from hs.perm q.symm
 refine⟨e1.trans a1,e2.trans a2,e3.trans a3,λx=>if x=b then some o' else h2 x,⟨bw.one b o',h2,λx=>?_,hd,t⟩,λx y e=>?_⟩
 ·by_cases hx:x=b
  ·subst hx;exact .inr ⟨hb,by simp[bw.one]⟩
  exact .inl ⟨by simp[bw.one,hx],by simp[hx]⟩
 by_cases hx:x=b
 ·subst hx;simp at e;rw[hw,e]
 simp[hx]at e
 rw[hk x hx];exact m x y (s.right x y e)
def SL.store{l':List Chunk}{b o:Nat}{cs:Γ}{t:Ε}{v u:Ω}(h:SL W l w)(m:lk (.pt b cs t) (.pt b (cs.set o v) t) l l')(hu:cs[o]?=some u):SL W l' (w.setCell ⟨b,o,none⟩ v):=by
 have hm:Has (.pt b cs t) l:=by
  clear h;generalize hd:Chunk.pt b (cs.set o v) t=d at m;induction m with
  | hd=>exact .hd
  | tl _ ih=>exact .tl ih
 obtain⟨f,hf,e⟩:=h.tM hm;refine h.vI (b:=b) (o':=.cells (cs.set o v).toArray t f) m ?_ ⟨f,by simpa using hf,rfl⟩ ?_ ?_ rfl rfl rfl
 ·rintro k ⟨f,_,rfl⟩;exact⟨_,rfl⟩
 ·show (w.heap.modify b _)[b]?=_;rw[ww2];simp[e]
 intro x hx;exact Below.heap_setCell w ⟨b,o,none⟩ v x hx
def SL.alloc{o:Obj}{c:Chunk}(h:SL W l w)(hc:c.holds (bw.one w.heap.size o)):SL W (c::l) (w.alloc o):=by
 obtain⟨a1,a2,a3,k,s,m⟩:=h;have hb:k w.heap.size=none:=by
  cases hx:k w.heap.size with
  | none=>rfl
  | some y=>have:=m _ _ hx;simp at this
 refine⟨a1,a2,a3,λx=>if x=w.heap.size then some o else k x,⟨bw.one w.heap.size o,k,λx=>?_,hc,s⟩,λx y e=>?_⟩
 ·by_cases hx:x=w.heap.size
  ·subst hx;exact .inr ⟨hb,by simp[bw.one]⟩
  exact .inl ⟨by simp[bw.one,hx],by simp[hx]⟩
 by_cases hx:x=w.heap.size
 ·subst hx;simp at e;subst e;exact heap_alloc_new w o
 simp[hx]at e
 have:=m x y e;have iw:x<w.heap.size:=(xxh.1 this).1;rw[Below.heap_alloc w o x iw];exact this
def SL.new{cs:Γ}{t:Ε}(h:SL W l w):SL W (.pt w.heap.size cs t::l) (w.alloc (.cells cs.toArray t)):=
 h.alloc ⟨(0,0),.inl rfl,rfl⟩
def SL.drew(h:SL W l w):SL W l w.drew:=⟨h.os,h.tape,h.output,h.out⟩
def bw.of(w:Α):bw:=λb=>w.heap[b]?
def SL.init(w:Α):SL w [.mem (bw.of w)] w:=by
 refine⟨rfl,rfl,rfl,bw.of w,⟨bw.of w,bw.emp,λb=>.inr ⟨rfl,rfl⟩,rfl,rfl⟩,λb o e=>e⟩
def bw.le_refl(H:bw):H.le H:=λ_ _ e=>e
def bw.le_trans{H K L:bw}(h:H.le K)(k:K.le L):H.le L:=λb o e=>k b o (h b o e)
def bw.bw6{H K:bw}(h:H.le K){b o:Nat}{v:Ω}(e:H.cell b o=some v):K.cell b o=some v:=by
 unfold bw.cell at *
 split at e
 ·rename_i c t f he;rw[h _ _ he];exact e
 cases e
def SL.freeze{H:bw}{b:Nat}{cs:Γ}{t:Ε}(h:SL W (.mem H::.pt b cs t::l) w):∃H',H.le H'/\(∀o v,cs[o]?=some v->H'.cell b o=some v)/\SL W (.mem H'::l) w:=by
 obtain⟨a1,a2,a3,k,⟨h1,h2,s,rfl,h3,h4,s',⟨f,hf,rfl⟩,r⟩,m⟩:=h;obtain⟨k',x,y⟩:=s.join s';refine⟨k',λb o e=>?_,λo v e=>?_,a1,a2,a3,k,⟨k',h4,x,rfl,r⟩,m⟩
 ·exact y.left b o e
 have:k' b=some (.cells cs.toArray t f):=y.right b _ (by simp[bw.one]);simp[bw.cell,this,e]
def SL.below{H:bw}(h:SL W l w)(m:Has (.mem H) l)(hH:(bw.of W).le H):Below W.heap.size W w:=by
 obtain⟨k,s,x⟩:=h.out;obtain⟨h1,rfl,le⟩:=m.heap s;have hk:∀b,b<W.heap.size->w.heap[b]?=W.heap[b]?:=λb hb=>by
  have e:W.heap[b]?=some (W.heap[b]):=ww3 hb;rw[e];exact x b _ (le b _ (hH b _ e))
 refine⟨h.os,h.tape,h.output,?_,hk⟩;rcases yy8 W.heap.size with h0|h0
 ·omega
 have e:=hk (W.heap.size-1) (by omega);have e2:W.heap[W.heap.size-1]?=some (W.heap[W.heap.size-1]):=ww3 (by omega);rw[e2]at e
 have:=(xxh.1 e).1;omega
end
section
variable {W w:Α} {l l':List Chunk}
def fW5{a:Addr}{K:Ω->Prop}(h:K (.pointer (some a))):Y6 (.pointer (some a)) K:=⟨a,rfl,h⟩
def yI{b o off:Nat}{K:Ω->Prop}(h:K (.pointer (some ⟨b,o+off,none⟩))):zn off (.pointer (some ⟨b,o,none⟩)) K:=by
 refine⟨_,rfl,?_⟩;rw[yyb];exact h
def zV{b o:Nat}{cs:Γ}{t:Ε}{v:Ω}{K:Ω->Prop}(hS:SL W l w)(m:Has (.pt b cs t) l)(hv:cs[o]?=some v)(h:K v):cI (.pointer (some ⟨b,o,none⟩)) w K:=
 ⟨_,v,rfl,hS.cell m hv,h⟩
def I5{H:bw}{b o:Nat}{v:Ω}{K:Ω->Prop}(hS:SL W l w)(m:Has (.mem H) l)(hv:H.cell b o=some v)(h:K v):cI (.pointer (some ⟨b,o,none⟩)) w K:=
 ⟨_,v,rfl,hS.L5 m hv,h⟩
def yD{b o n:Nat}{cs vs:Γ}{t:Ε}{K:Ω->Prop}(hS:SL W l w)(m:Has (.pt b cs t) l)(hn:vs.length=n)(hv:∀j v,vs[j]?=some v->cs[o+j]?=some v)(h:K (.agg vs.toArray)):ze n (.pointer (some ⟨b,o,none⟩)) w K:=
 ⟨_,vs,rfl,hn,λj v e=>by rw[yyb];exact hS.cell m (hv j v e),h⟩
def zC{b n:Nat}{cs:Γ}{t:Ε}{K:Ω->Prop}(hS:SL W l w)(m:Has (.pt b cs t) l)(hn:cs.length=n)(h:K (.agg cs.toArray)):ze n (.pointer (some ⟨b,0,none⟩)) w K:=
 yD hS m hn (λj v e=>by rw[yyd];exact e) h
def QN{H:bw}{b o n:Nat}{vs:Γ}{K:Ω->Prop}(hS:SL W l w)(m:Has (.mem H) l)(hn:vs.length=n)(hv:∀j v,vs[j]?=some v->H.cell b (o+j)=some v)(h:K (.agg vs.toArray)):ze n (.pointer (some ⟨b,o,none⟩)) w K:=
 ⟨_,vs,rfl,hn,λj v e=>by rw[yyb];exact hS.L5 m (hv j v e),h⟩
def Zz{b o:Nat}{cs:Γ}{t:Ε}{v u:Ω}{K:Α->Prop}(hS:SL W l w)(m:lk (.pt b cs t) (.pt b (cs.set o v) t) l l')(hu:cs[o]?=some u)(h1:v.oneCell'=true)(h:∀w',SL W l' w'->K w'):
  jN (.pointer (some ⟨b,o,none⟩)) v w K:=by
 have hm:Has (.pt b cs t) l:=by
  clear hS h;generalize hd:Chunk.pt b (cs.set o v) t=d at m;induction m with
  | hd=>exact .hd
  | tl _ ih=>exact .tl ih
 exact⟨_,u,rfl,h1,hS.cell hm hu,hS.frozen hm hu,h _ (hS.store m hu)⟩
def uZ(cs:Γ)(o:Nat):Γ->Γ
 | []=>cs
 | v::r=>uZ (cs.set o v) (o+1) r
def lk.has{c d:Chunk}(u:lk c d l l'):Has c l:=by
 induction u with
 | hd=>exact .hd
 | tl _ ih=>exact .tl ih
def lk.other{c d:Chunk}(u:lk c d l l')(e:Chunk):∃l2,lk c e l l2/\lk e d l2 l':=by
 induction u with
 | hd=>exact⟨_,.hd,.hd⟩
 | tl _ ih=>obtain⟨l2,p,q⟩:=ih;exact⟨_,.tl p,.tl q⟩
def Em{b:Nat}{t:Ε}{K:Α->Prop}:∀(vs:Γ) (o i:Nat) (cs:Γ) (w:Α) (l l':List Chunk),SL W l w->lk (.pt b cs t) (.pt b (uZ cs (o+i) vs) t) l l'->o+i+vs.length<=cs.length->(∀v∈vs,v.oneCell'=true) ->
  (∀w',SL W l' w'->K w')->xF ⟨b,o,none⟩ i vs w K
 | [],o,i,cs,w,l,l',hS,u,hl,h1,h=>by
  refine h w ?_;simp only[uZ]at u;have:l=l':=by
   clear hS h;generalize hc:Chunk.pt b cs t=c at u;revert hc;induction u with
   | hd=>intro;rfl
   | tl _ ih=>intro hc;rw[ih hc]
  rw[<- this];exact hS
 | v::r,o,i,cs,w,l,l',hS,u,hl,h1,h=>by
  simp only[zzj]at hl;have hc:cs[o+i]?=some (cs[o+i]'(by omega)):=zzd (by omega);obtain⟨l2,p,q⟩:=u.other (.pt b (cs.set (o+i) v) t);refine⟨h1 v (by simp),⟨_,by rw[yyb];exact hS.cell u.has hc⟩,by rw[yyb];exact hS.frozen u.has hc,?_⟩;rw[yyb];exact Em r o (i+1) _ _ l2 l' (hS.store p hc) (by simpa [uZ,ww9] using q) (by simp;omega) (λv hv=>h1 v (by simp[hv])) h
def D_:∀(vs cs:Γ) (o:Nat),o+vs.length<=cs.length->uZ cs o vs=cs.take o++vs++cs.drop (o+vs.length)
 | [],cs,o,_=>by simp[uZ]
 | v::r,cs,o,h=>by
  simp only[zzj]at h;obtain⟨A,x,B,rfl,hA⟩:∃A x B,cs=A++x::B/\A.length=o:=by
   refine⟨cs.take o,cs[o]'(by omega),cs.drop (o+1),?_,by simp;omega⟩;rw[<- yyq,yyl]
  subst hA;rw[uZ,D_ r _ _ (by simp at h ⊢;omega)];have e1:(A++x::B).set A.length v=A++v::B:=by simp
  have e2:(A++v::B).take (A.length+1)=A++[v]:=by rw[wwa];simp
  have e3:(A++v::B).drop (A.length+1+r.length)=B.drop r.length:=by rw[show A.length+1+r.length=A.length+(r.length+1) by omega,xxr];simp
  have e5:(A++x::B).drop (A.length+(r.length+1))=B.drop r.length:=by rw[xxr];simp
  simp only[zzj]at *
  rw[e1,e2,e3,e5];simp
def zr{b n:Nat}{cs vs:Γ}{t:Ε}{K:Α->Prop}(hS:SL W l w)(m:lk (.pt b cs t) (.pt b vs t) l l')(hn:vs.length=n)(hc:cs.length=n)(h1:∀v∈vs,v.oneCell'=true)(h:∀w',SL W l' w'->K w'):
  zi n (.pointer (some ⟨b,0,none⟩)) (.agg vs.toArray) w K:=by
 refine⟨_,vs,rfl,rfl,hn,Em (t:=t) vs 0 0 cs w l l' hS ?_ (by omega) h1 h⟩;rw[D_ _ _ _ (by omega)];have:cs.drop (0+0+vs.length)=[]:=yy3 (by omega);rw[this];simpa using m
def Yd{b o n:Nat}{cs vs:Γ}{t:Ε}{K:Α->Prop}(hS:SL W l w)(m:lk (.pt b cs t) (.pt b (cs.take o++vs++cs.drop (o+n)) t) l l')(hn:vs.length=n)(hc:o+n<=cs.length)(h1:∀v∈vs,v.oneCell'=true)(h:∀w',SL W l' w'->K w'):
  zi n (.pointer (some ⟨b,o,none⟩)) (.agg vs.toArray) w K:=by
 refine⟨_,vs,rfl,rfl,hn,Em (t:=t) vs o 0 cs w l l' hS ?_ (by omega) h1 h⟩;rw[xxg,D_ _ _ _ (by omega),hn];exact m
def zD{cs:Γ}{t:Ε}{K:Ω->Α->Prop}(hS:SL W l w)(h:∀b w',SL W (.pt b cs t::l) w'->K (.pointer (some ⟨b,0,none⟩)) w'):zh cs t w K:=h _ _ hS.new
def fWf{a b:Ω}{K:Ω->Prop}(h:K a):zf 0 (.tuple #[a,b]) K:=⟨_,a,rfl,rfl,h⟩
def fWg{a b:Ω}{K:Ω->Prop}(h:K b):zf 1 (.tuple #[a,b]) K:=⟨_,b,rfl,rfl,h⟩
def fWh{a b c:Ω}{K:Ω->Prop}(h:K a):zf 0 (.tuple #[a,b,c]) K:=⟨_,a,rfl,rfl,h⟩
def fWi{a b c:Ω}{K:Ω->Prop}(h:K b):zf 1 (.tuple #[a,b,c]) K:=⟨_,b,rfl,rfl,h⟩
def fWj{a b c:Ω}{K:Ω->Prop}(h:K c):zf 2 (.tuple #[a,b,c]) K:=⟨_,c,rfl,rfl,h⟩
def fWk{a b c d:Ω}{K:Ω->Prop}(h:K a):zf 0 (.tuple #[a,b,c,d]) K:=⟨_,a,rfl,rfl,h⟩
def fWl{a b c d:Ω}{K:Ω->Prop}(h:K b):zf 1 (.tuple #[a,b,c,d]) K:=⟨_,b,rfl,rfl,h⟩
def fWm{a b c d:Ω}{K:Ω->Prop}(h:K c):zf 2 (.tuple #[a,b,c,d]) K:=⟨_,c,rfl,rfl,h⟩
def fWn{a b c d:Ω}{K:Ω->Prop}(h:K d):zf 3 (.tuple #[a,b,c,d]) K:=⟨_,d,rfl,rfl,h⟩
def yc{a:Option Addr}{n c:Nat}{K:Ω->Prop}(h:K (.int .i64 n)):zd (.slice a n c) K:=⟨a,n,c,rfl,h⟩
def fWv{s:Β}{K:Ω->Prop}(h:K (.int .i64 s.size)):zX (.string s) K:=⟨s,rfl,h⟩
def zF{b o len cap sz j:Nat}{k:IntKind}{K:Ω->Prop}(hj:j<len)(h:K (.pointer (some ⟨b,o+j*sz,none⟩))):zl sz (.slice (some ⟨b,o,none⟩) len cap) (.int k (j:Int)) K:=
 ⟨_,len,cap,k,j,rfl,rfl,hj,by rw[yyb];exact h⟩
def yF{b:Bool}{A B:Prop}(h1:b=true->A)(h2:b=false->B):iy (.bool b) A B:=⟨b,rfl,h1,h2⟩
def za{p:Prop}[Decidable p]{A B:Prop}(h1:p->A)(h2:¬p->B):iy (.bool (decide p)) A B:=⟨_,rfl,λe=>h1 (zzl e),λe=>h2 (yyz e)⟩
def zq{A B:Prop}(h:A):iy (.bool true) A B:=⟨_,rfl,λ_=>h,λe=>by cases e⟩
def zp{A B:Prop}(h:B):iy (.bool false) A B:=⟨_,rfl,(λe=>(by cases e)),λ_=>h⟩
def zu{A B:Prop}{b:Bool}(h1:b=false->A)(h2:b=true->B):iy (.bool !b) A B:=⟨_,rfl,(λe=>h1 (by simpa using e)),(λe=>h2 (by simpa using e))⟩
def MK{a b:Int}{K:Ω->Prop}(hr : -9223372036854775808<=a+b/\a+b<=9223372036854775807)(h:K (.int .i64 (a+b))):zc .add (.int .i64 a) (.int .i64 b) K:=
 ⟨_,rfl,by rw[wwb _ hr];exact h⟩
def f_e{a b:Int}{K:Ω->Prop}(hr : -9223372036854775808<=a-b/\a-b<=9223372036854775807)(h:K (.int .i64 (a-b))):zc .sub (.int .i64 a) (.int .i64 b) K:=
 ⟨_,rfl,by rw[wwb _ hr];exact h⟩
def fW2{a b:Int}{K:Ω->Prop}(hr : -9223372036854775808<=a*b/\a*b<=9223372036854775807)(h:K (.int .i64 (a*b))):zc .mul (.int .i64 a) (.int .i64 b) K:=
 ⟨_,rfl,by rw[wwb _ hr];exact h⟩
def Zy{a b:Nat}{K:Ω->Prop}(hr:a+b<=9223372036854775807)(h:K (.int .i64 ((a+b:Nat):Int))):zc .add (.int .i64 (a:Int)) (.int .i64 (b:Int)) K:=
 MK (by omega) (by rw[show (a:Int)+(b:Int)=((a+b:Nat):Int) by omega];exact h)
def QJ{a:Nat}{K:Ω->Prop}(hr:a+1<=9223372036854775807)(h:K (.int .i64 ((a+1:Nat):Int))):zc .add (.int .i64 (a:Int)) (.int .i64 1) K:=
 MK (by omega) (by rw[show (a:Int)+1=((a+1:Nat):Int) by omega];exact h)
def ZL{k:IntKind}{a b:Int}{K:Ω->Prop}(hb:b≠0)(h:K (.int k (a.tmod b))):zc .rem (.int k a) (.int k b) K:=
 ⟨.int k (a.tmod b),by simp[nH,hb],h⟩
def awh{a b:Int}{K:Ω->Prop}(hb:b≠0)(hr : -9223372036854775808<=a.tdiv b/\a.tdiv b<=9223372036854775807)(h:K (.int .i64 (a.tdiv b))):zc .quo (.int .i64 a) (.int .i64 b) K:=
 ⟨.int .i64 (a.tdiv b),by simp[nH,hb,wwb _ hr],h⟩
def QP{k:IntKind}{a b:Nat}{K:Ω->Prop}(hb:0<b)(h:K (.int k ((a % b:Nat):Int))):zc .rem (.int k (a:Int)) (.int k (b:Int)) K:=
 ZL (by omega) (by rw[xxt (by omega)];exact h)
def awe{k:IntKind}{a b:Int}{K:Ω->Prop}(h:K (.bool (decide (a=b)))):zc .eql (.int k a) (.int k b) K:=⟨.bool (decide (a=b)),by simp[nH];rfl,h⟩
def Eh{k:IntKind}{a b:Int}{K:Ω->Prop}(h:K (.bool (decide (a≠b)))):zc .neq (.int k a) (.int k b) K:=⟨.bool (decide (a≠b)),by simp[nH,bne];rfl,h⟩
def Gx{k:IntKind}{a b:Int}{K:Ω->Prop}(h:K (.bool (decide (a<b)))):zc .lss (.int k a) (.int k b) K:=⟨_,by simp[nH],h⟩
def fWu{k:IntKind}{a b:Int}{K:Ω->Prop}(h:K (.bool (decide (a<=b)))):zc .leq (.int k a) (.int k b) K:=⟨_,by simp[nH],h⟩
def ML{k:IntKind}{a b:Int}{K:Ω->Prop}(h:K (.bool (decide (b<a)))):zc .gtr (.int k a) (.int k b) K:=⟨_,by simp[nH],h⟩
def fWo{k:IntKind}{a b:Int}{K:Ω->Prop}(h:K (.bool (decide (b<=a)))):zc .geq (.int k a) (.int k b) K:=⟨_,by simp[nH],h⟩
def str_inj{s t:Β}(h:s.toList=t.toList):s=t:=by
 rw[ByteArray.toList_eq,ByteArray.toList_eq]at h
 cases s;cases t;congr 1;exact Array.toList_inj.1 h
def fWe{a b:Β}{K:Ω->Prop}(h:K (.bool (decide (a=b)))):zc .eql (.string a) (.string b) K:=by
 refine⟨.bool (decide (a=b)),?_,h⟩;by_cases e:a=b
 ·subst e;simp[nH]
 have:¬a.toList=b.toList:=λx=>e (str_inj x);simp[nH,e,this]
def fW4{a b:Β}{K:Ω->Prop}(h:K (.bool (decide (a≠b)))):zc .neq (.string a) (.string b) K:=by
 refine⟨.bool (decide (a≠b)),?_,h⟩;by_cases e:a=b
 ·subst e;simp[nH]
 have:¬a.toList=b.toList:=λx=>e (str_inj x);simp[nH,e,this]
def fWd{a b:Bool}{K:Ω->Prop}(h:K (.bool (decide (a=b)))):HEq .bool false (.bool a) (.bool b) K:=⟨a == b,rfl,by cases a<;>cases b<;>simpa using h⟩
def fW3{a b:Bool}{K:Ω->Prop}(h:K (.bool (decide (a≠b)))):HEq .bool true (.bool a) (.bool b) K:=⟨a == b,rfl,by cases a<;>cases b<;>simpa using h⟩
def Ya{t:Ε}{a:Option Addr}{K:Ω->Prop}(h:K (.bool a.isNone)):HEq (.pointer t) false (.pointer a) (.pointer none) K:=⟨a.isNone,by cases a<;>rfl,h⟩
def MM{t:Ε}{a:Option Addr}{K:Ω->Prop}(h:K (.bool a.isSome)):HEq (.pointer t) true (.pointer a) (.pointer none) K:=⟨a.isNone,by cases a<;>rfl,by cases a<;>exact h⟩
def zZ{b:Bool}{K:Ω->Prop}(h:K (.bool !b)):Zf (.bool b) K:=⟨b,rfl,h⟩
def zW{j:IntKind}{n:Int}{k:IntKind}{K:Ω->Prop}(h:K (.int k (k.wrap n))):zJ k (.int j n) K:=⟨j,n,rfl,h⟩
def yv{j:IntKind}{n:Int}{K:Ω->Prop}(hr : -9223372036854775808<=n/\n<=9223372036854775807)(h:K (.int .i64 n)):zJ .i64 (.int j n) K:=⟨j,n,rfl,by rw[wwb _ hr];exact h⟩
def fW1{k:IntKind}{a b:Int}{K:Ω->Prop}(h:K (.int k (min a b))):ZS (.int k a) (.int k b) K:=
 ⟨k,a,b,rfl,rfl,by rw[show (if b<a then b else a)=min a b by split<;>omega];exact h⟩
def fW0{k:IntKind}{a b:Int}{K:Ω->Prop}(h:K (.int k (max a b))):y2 (.int k a) (.int k b) K:=
 ⟨k,a,b,rfl,rfl,by rw[show (if b>a then b else a)=max a b by split<;>omega];exact h⟩
def yT{z cells:Γ}{ps:List (Nat × Nat × Ω)}{K:Ω->Prop}(hc:mq z ps=some cells)(h:K (.agg cells.toArray)):zk z ps K:=⟨cells,hc,h⟩
def zL{z cells:Γ}{ps:List (Nat × Nat × Ω)}{e:Ε}{n:Nat}{K:Ω->Α->Prop}(hS:SL W l w)(hc:mq z ps=some cells)
  (h:∀b w',SL W (.pt b cells e::l) w'->K (.slice (some ⟨b,0,none⟩) n n) w'):zm z ps e n w K:=⟨cells,hc,h _ _ hS.new⟩
def awg{z:Γ}{l5 n c:Nat}{e:Ε}{kl kc:IntKind}{K:Ω->Α->Prop}(hS:SL W l w)(h1:n<=c)(h2:l5*c<=281474976710656)(h3:c<9223372036854775808)
  (h:∀b w',SL W (.pt b (fR z c) e::l) w'->K (.slice (some ⟨b,0,none⟩) n c) w'):ED z l5 e (.int kl (n:Int)) (.int kc (c:Int)) w K:=⟨n,c,kl,kc,rfl,rfl,h1,h2,h3,h _ _ hS.new⟩
def yw{K:Α->Prop}(hS:SL W l w)(h:∀w',SL W l w'->K w'):zj w K:=h _ hS.drew
def app:List Chunk->List Chunk->List Chunk
 | [],F=>F
 | c::r,F=>c::app r F
def EU:∀(p F:List Chunk),app p F=p++F
 | [],_=>rfl
 | c::r,F=>by rw[app,EU r F];rfl
def SL.take{p F:List Chunk}(h:SL W l w)(k:lJ p l F):SL W (app p F) w:=by rw[EU];exact h.pick k
def Spec(P:Program)(f:FuncId)(args:Γ)(pre:List Chunk)(Q:Ω->List Chunk->Prop):Prop:=
 ∀W F w,SL W (app pre F) w->zQ P f args w λv w'=>∃post,Q v post/\SL W (app post F) w'
def Enzz{P:Program}{f:FuncId}{args:Γ}{pre:List Chunk}{Q:Ω->List Chunk->Prop}{l:List Chunk->List Chunk}{G:Α->List Chunk->Α->Prop}(k:∀W F w,SL W (l F) w->G W F w)(h:(∀W F w,SL W (l F) w->G W F w)->Spec P f args pre Q:=by
 intro kk W F w hS
 (try simp only[app]at hS)
 exact kk W F w hS):Spec P f args pre Q:=h k
def yE{P:Program}{f:FuncId}{args:Γ}{pre F:List Chunk}{Q:Ω->List Chunk->Prop}{K:Ω->Α->Prop}(c:Spec P f args pre Q)(hS:SL W l w)(p:lJ pre l F)
  (h:∀v post,Q v post->∀w',SL W (app post F) w'->K v w'):zQ P f args w K:=
 (c W F w (hS.take p)).mono λv w' ⟨post,hq,hs⟩=>h v post hq w' hs
def yf{P:Program}{T:List Bool}{f:FuncId}{first captured:Array Ω}{args args':Γ}{pre F:List Chunk}{Q:Ω->List Chunk->Prop}{K:Ω->Α->Prop}(hT:T.getD f false=true)(c:Spec P f args' pre Q)
  (ha:first.toList++args++captured.toList=args') (hS:SL W l w) (p:lJ pre l F)
  (h:∀v post,Q v post->∀w',SL W (app post F) w'->K v w'):zS P T (.func (.func f) first captured) args w K:=
 ⟨f,first,captured,rfl,hT,by rw[ha];exact yE c hS p h⟩
def Spec.mono{P:Program}{f:FuncId}{args:Γ}{pre:List Chunk}{Q Q':Ω->List Chunk->Prop}(h:Spec P f args pre Q)(hq:∀v post,Q v post->Q' v post):Spec P f args pre Q':=
 λW F w hS=>(h W F w hS).mono λv w' ⟨post,hp,hs⟩=>⟨post,hq v post hp,hs⟩
def e_(u:Ω)(q:List Chunk):Ω->List Chunk->Prop:=λv post=>v=u/\post=q
inductive oq:List Chunk->List Chunk->Prop where
 | refl {l:List Chunk}:oq l l
 | cons {c:Chunk} {t l l':List Chunk} (h:lg c l l') (k:oq t l'):oq (c::t) l
 | drop {d:Chunk} {t l:List Chunk} (k:oq t l):oq t (d::l)
def oq.spec{t l:List Chunk}(k:oq t l):∃r,l.Perm (t++r):=by
 induction k with
 | refl=>exact⟨[],by simp⟩
 | cons h _ ih=>obtain⟨r,p⟩:=ih;exact⟨r,h.perm.trans (p.cons _)⟩
 | @drop d t l _ ih=>obtain⟨r,p⟩:=ih;exact⟨d::r,(p.cons d).trans vvy.symm⟩
def SL.Uq:∀{r t:List Chunk} {w:Α},SL W (t++r) w->SL W t w
 | [],t,w,h=>by simpa using h
 | c::r,t,w,h=>SL.Uq (r:=r) (SL.drop (c:=c) (h.perm vvy))
def SL.cR{t:List Chunk}(h:SL W l w)(k:oq t l):SL W t w:=by
 obtain⟨r,p⟩:=k.spec;exact (h.perm p).Uq
def YZ{α:Type}{a:α}{p:Prop}(h:p):a=a/\p:=⟨rfl,h⟩
end
class mB (P:Prop) (Q:outParam Prop):Prop where
 h:Q->P
def Q0{P Q:Prop}[i:mB P Q](h:Q):P:=i.h h
section
variable {K:Ω->Prop}
instance {a:Addr}:mB (Y6 (.pointer (some a)) K) (K (.pointer (some a))):=⟨fW5⟩
instance {a b:Ω}:mB (zf 0 (.tuple #[a,b]) K) (K a):=⟨fWf⟩
instance {a b:Ω}:mB (zf 1 (.tuple #[a,b]) K) (K b):=⟨fWg⟩
instance {a b c:Ω}:mB (zf 0 (.tuple #[a,b,c]) K) (K a):=⟨fWh⟩
instance {a b c:Ω}:mB (zf 1 (.tuple #[a,b,c]) K) (K b):=⟨fWi⟩
instance {a b c:Ω}:mB (zf 2 (.tuple #[a,b,c]) K) (K c):=⟨fWj⟩
instance {a b c d:Ω}:mB (zf 0 (.tuple #[a,b,c,d]) K) (K a):=⟨fWk⟩
instance {a b c d:Ω}:mB (zf 1 (.tuple #[a,b,c,d]) K) (K b):=⟨fWl⟩
instance {a b c d:Ω}:mB (zf 2 (.tuple #[a,b,c,d]) K) (K c):=⟨fWm⟩
instance {a b c d:Ω}:mB (zf 3 (.tuple #[a,b,c,d]) K) (K d):=⟨fWn⟩
instance {b o off:Nat}:mB (zn off (.pointer (some ⟨b,o,none⟩)) K) (K (.pointer (some ⟨b,o+off,none⟩))):=⟨yI⟩
instance {a:Option Addr} {n c:Nat}:mB (zd (.slice a n c) K) (K (.int .i64 n)):=⟨yc⟩
instance {s:Β}:mB (zX (.string s) K) (K (.int .i64 s.size)):=⟨fWv⟩
instance {k:IntKind} {a b:Int}:mB (zc .eql (.int k a) (.int k b) K) (K (.bool (decide (a=b)))):=⟨awe⟩
instance {k:IntKind} {a b:Int}:mB (zc .neq (.int k a) (.int k b) K) (K (.bool (decide (a≠b)))):=⟨Eh⟩
instance {k:IntKind} {a b:Int}:mB (zc .lss (.int k a) (.int k b) K) (K (.bool (decide (a<b)))):=⟨Gx⟩
instance {k:IntKind} {a b:Int}:mB (zc .leq (.int k a) (.int k b) K) (K (.bool (decide (a<=b)))):=⟨fWu⟩
instance {k:IntKind} {a b:Int}:mB (zc .gtr (.int k a) (.int k b) K) (K (.bool (decide (b<a)))):=⟨ML⟩
instance {k:IntKind} {a b:Int}:mB (zc .geq (.int k a) (.int k b) K) (K (.bool (decide (b<=a)))):=⟨fWo⟩
instance {a b:Β}:mB (zc .eql (.string a) (.string b) K) (K (.bool (decide (a=b)))):=⟨fWe⟩
instance {a b:Β}:mB (zc .neq (.string a) (.string b) K) (K (.bool (decide (a≠b)))):=⟨fW4⟩
instance {a b:Bool}:mB (HEq .bool false (.bool a) (.bool b) K) (K (.bool (decide (a=b)))):=⟨fWd⟩
instance {a b:Bool}:mB (HEq .bool true (.bool a) (.bool b) K) (K (.bool (decide (a≠b)))):=⟨fW3⟩
instance {t:Ε} {a:Option Addr}:mB (HEq (.pointer t) false (.pointer a) (.pointer none) K) (K (.bool a.isNone)):=⟨Ya⟩
instance {t:Ε} {a:Option Addr}:mB (HEq (.pointer t) true (.pointer a) (.pointer none) K) (K (.bool a.isSome)):=⟨MM⟩
instance {b:Bool}:mB (Zf (.bool b) K) (K (.bool !b)):=⟨zZ⟩
instance {k:IntKind} {a b:Int}:mB (ZS (.int k a) (.int k b) K) (K (.int k (min a b))):=⟨fW1⟩
instance {k:IntKind} {a b:Int}:mB (y2 (.int k a) (.int k b) K) (K (.int k (max a b))):=⟨fW0⟩
instance {A B:Prop}:mB (iy (.bool true) A B) A:=⟨zq⟩
instance {A B:Prop}:mB (iy (.bool false) A B) B:=⟨zp⟩
instance {α:Type} {a:α} {p:Prop}:mB (a=a/\p) p:=⟨YZ⟩
end
class C2 (op:BinOp) (x y:Ω) (z:outParam Ω) (c:outParam Prop):Prop where
 h:∀{K:Ω->Prop},c->K z->zc op x y K
instance (priority:=high) {a:Nat}:C2 .add (.int .i64 (a:Int)) (.int .i64 1) (.int .i64 ((a+1:Nat):Int)) (a+1<=9223372036854775807):=⟨QJ⟩
instance {a b:Nat}:C2 .add (.int .i64 (a:Int)) (.int .i64 (b:Int)) (.int .i64 ((a+b:Nat):Int)) (a+b<=9223372036854775807):=⟨Zy⟩
instance (priority:=low) {a b:Int}:C2 .add (.int .i64 a) (.int .i64 b) (.int .i64 (a+b)) (-9223372036854775808<=a+b/\a+b<=9223372036854775807):=⟨MK⟩
instance {k:IntKind} {a b:Nat}:C2 .rem (.int k (a:Int)) (.int k (b:Int)) (.int k ((a % b:Nat):Int)) (0<b):=⟨QP⟩
instance {a b:Int}:C2 .sub (.int .i64 a) (.int .i64 b) (.int .i64 (a-b)) (-9223372036854775808<=a-b/\a-b<=9223372036854775807):=⟨f_e⟩
section
variable {W w:Α} {l l' p F:List Chunk} {c d:Chunk}
def Qb{op:BinOp}{x y z:Ω}{c:Prop}{K:Ω->Prop}[i:C2 op x y z c](h:K z)(hc:c:=by omega):zc op x y K:=i.h hc h
def Xh(h:Has c l:=by (repeat (first|exact Has.hd|apply Has.tl))):Has c l:=h
def Xu(h:lk c d l l':=by (repeat (first|exact lk.hd|apply lk.tl))):lk c d l l':=h
def Xr(h:lg c l l':=by (repeat (first|exact lg.hd|apply lg.tl))):lg c l l':=h
def Xp(h:lJ p l F:=by (repeat (first|(with_reducible exact lJ.nil)|((with_reducible apply lJ.cons);(focus ((repeat (first|(with_reducible exact lg.hd)|(with_reducible apply lg.tl)));done)))))):lJ p l F:=h
def Xi(h:oq p l:=by ((try simp only[app]);repeat (first|(with_reducible exact oq.refl)|((with_reducible apply oq.cons);(focus ((repeat (first|(with_reducible exact lg.hd)|(with_reducible apply lg.tl)));done)))|(with_reducible apply oq.drop)))):oq p l:=h
def aW{W w:Α}{p l:List Chunk}(x:SL W l w)(h:oq p l:=by ((try simp only[app]);repeat (first|(with_reducible exact oq.refl)|((with_reducible apply oq.cons);(focus ((repeat (first|(with_reducible exact lg.hd)|(with_reducible apply lg.tl)));done)))|(with_reducible apply oq.drop)))):SL W p w:=SL.cR x h
def dW{W w:Α}{u:Ω}{q l F:List Chunk}(x:SL W l w)(h:oq (app q F) l:=by ((try simp only[app]);repeat (first|(with_reducible exact oq.refl)|((with_reducible apply oq.cons);(focus ((repeat (first|(with_reducible exact lg.hd)|(with_reducible apply lg.tl)));done)))|(with_reducible apply oq.drop)))):∃y,e_ u q u y/\SL W (app y F) w:=⟨_,⟨rfl,rfl⟩,SL.cR x h⟩
def Qa{b o:Nat}{cs:Γ}{t:Ε}{v:Ω}{K:Ω->Prop}(hS:SL W l w)(h:K v)(m:Has (.pt b cs t) l:=by (with_unfolding_all (repeat (first|exact Has.hd|apply Has.tl))))(hv:cs[o]?=some v:=by (with_unfolding_all rfl)):cI (.pointer (some ⟨b,o,none⟩)) w K:=zV hS m hv h
def Qc{b n:Nat}{cs:Γ}{t:Ε}{K:Ω->Prop}(hS:SL W l w)(h:K (.agg cs.toArray))(m:Has (.pt b cs t) l:=by (with_unfolding_all (repeat (first|exact Has.hd|apply Has.tl))))(hn:cs.length=n:=by (with_unfolding_all rfl)):ze n (.pointer (some ⟨b,0,none⟩)) w K:=zC hS m hn h
def Qd{z cells:Γ}{ps:List (Nat × Nat × Ω)}{K:Ω->Prop}(h:K (.agg cells.toArray))(hc:mq z ps=some cells:=by (with_unfolding_all (simp[mq,Value.cells];rfl))):zk z ps K:=yT hc h
def Qe{b o:Nat}{cs:Γ}{t:Ε}{v u:Ω}{K:Α->Prop}(hS:SL W l w)(h:∀w',SL W l' w'->K w')(m:lk (.pt b cs t) (.pt b (cs.set o v) t) l l':=by (with_unfolding_all (repeat (first|exact lk.hd|apply lk.tl))))(hu:cs[o]?=some u:=by (with_unfolding_all rfl))(h1:v.oneCell'=true:=by (with_unfolding_all (first|rfl|assumption))):
  jN (.pointer (some ⟨b,o,none⟩)) v w K:=Zz hS m hu h1 h
def Qf{b n:Nat}{cs vs:Γ}{t:Ε}{K:Α->Prop}(hS:SL W l w)(h:∀w',SL W l' w'->K w')(m:lk (.pt b cs t) (.pt b vs t) l l':=by (with_unfolding_all (repeat (first|exact lk.hd|apply lk.tl))))(hn:vs.length=n:=by (with_unfolding_all rfl))(hc:cs.length=n:=by (with_unfolding_all rfl))(h1:vs.all Value.oneCell'=true:=by (with_unfolding_all rfl)):
  zi n (.pointer (some ⟨b,0,none⟩)) (.agg vs.toArray) w K:=zr hS m hn hc (zz5.1 h1) h
def UF{z cs:Γ}{n:Nat}(hc:cs.length=n)(hz:z.length=n):mq (fR z 1) [(0,n,.agg cs.toArray)]=some cs:=by
 subst hc;simp[mq,fR,Value.cells,hz]
def Qh{z cs:Γ}{e:Ε}{n:Nat}{K:Ω->Α->Prop}(hS:SL W l w)
  (h:∀b w',SL W (.pt b cs e::l) w'->K (.slice (some ⟨b,0,none⟩) 1 1) w') (hc:cs.length=n:=by (with_unfolding_all rfl)) (hz:z.length=n:=by (with_unfolding_all rfl)):zm (fR z 1) [(0,n,.agg cs.toArray)] e 1 w K:=zL hS (UF hc hz) h
def Qg{z cells:Γ}{ps:List (Nat × Nat × Ω)}{e:Ε}{n:Nat}{K:Ω->Α->Prop}(hS:SL W l w)
  (h:∀b w',SL W (.pt b cells e::l) w'->K (.slice (some ⟨b,0,none⟩) n n) w') (hc:mq z ps=some cells:=by (with_unfolding_all (simp[mq,Value.cells,fR];rfl))):zm z ps e n w K:=zL hS hc h
end
structure Wr(Q:Prop):Prop where
 h:Q
def Gp{P Q:Prop}(k:Q) (h:Wr Q->P:=by
 intro kk
 (with_reducible first|apply Q0|refine Qa hS ?_|refine Qb ?_|refine Qc hS ?_|refine Qd ?_)
 repeat (with_reducible first|apply Q0|refine Qa hS ?_|refine Qb ?_|refine Qc hS ?_|refine Qd ?_)
 exact kk.h):P:=h ⟨k⟩
def cF{P p A B:Prop}{i:Decidable p}(x:p->A)(y:¬p->B)(h:Wr (iy (.bool (decide p)) A B)->P:=by
 intro kk
 (with_reducible first|apply Q0|refine Qa hS ?_|refine Qb ?_|refine Qc hS ?_|refine Qd ?_)
 repeat (with_reducible first|apply Q0|refine Qa hS ?_|refine Qb ?_|refine Qc hS ?_|refine Qd ?_)
 exact kk.h):P:=h (.mk (za x y))
def Gw{W:Α}{l:List Chunk}{P:Prop}{G:Α->Prop}(k:∀w,SL W l w->G w) (h:(∀w,SL W l w->G w)->P:=by
 intro kk;first
  | ((with_reducible refine Qe hS ?_);intro w hS;simp only[List.set]at hS)
  | ((with_reducible first|refine yw hS ?_|refine Qf hS ?_);intro w hS)
 repeat (first
  | (with_reducible first|apply Q0|refine Qa hS ?_|refine Qb ?_|refine Qc hS ?_|refine Qd ?_)
  | ((with_reducible refine Qe hS ?_);intro w hS;simp only[List.set]at hS)
  | ((with_reducible first|refine yw hS ?_|refine Qf hS ?_);intro w hS))
 exact kk w hS):P:=h k
def Gb{W:Α}{l:Nat->List Chunk}{P:Prop}{G:Nat->Α->Prop}(k:∀b w,SL W (l b) w->G b w) (h:(∀b w,SL W (l b) w->G b w)->P:=by
 intro kk
 (with_reducible first|refine zD hS ?_|refine Qh hS ?_|refine Qg hS ?_)
 intro b w hS;repeat (first
  | (with_reducible first|apply Q0|refine Qa hS ?_|refine Qb ?_|refine Qc hS ?_|refine Qd ?_)
  | ((with_reducible refine Qe hS ?_);intro w hS;simp only[List.set]at hS)
  | ((with_reducible first|refine yw hS ?_|refine Qf hS ?_);intro w hS))
 exact kk b w hS):P:=h k
def Gn{W:Α}{l:List Chunk}{P:Prop}{G:Α->Prop}(k:∀w,SL W l w->G w) (h:(∀w,SL W l w->G w)->P:=by
 intro kk;try simp only[app]at hS
 repeat (first
  | (with_reducible first|apply Q0|refine Qa hS ?_|refine Qb ?_|refine Qc hS ?_|refine Qd ?_)
  | ((with_reducible refine Qe hS ?_);intro w hS;simp only[List.set]at hS)
  | ((with_reducible first|refine yw hS ?_|refine Qf hS ?_);intro w hS))
 exact kk w hS):P:=h k
def Gm{W:Α}{l:Nat->List Chunk}{P:Prop}{G:Nat->Α->Prop}(k:∀b w,SL W (l b) w->G b w) (h:(∀b w,SL W (l b) w->G b w)->P:=by
 intro kk;try simp only[app]at hS
 repeat (first
  | (with_reducible first|apply Q0|refine Qa hS ?_|refine Qb ?_|refine Qc hS ?_|refine Qd ?_)
  | ((with_reducible refine Qe hS ?_);intro w hS;simp only[List.set]at hS)
  | ((with_reducible first|refine yw hS ?_|refine Qf hS ?_);intro w hS))
 (with_reducible first|refine zD hS ?_|refine Qh hS ?_|refine Qg hS ?_)
 intro b w hS;repeat (first
  | (with_reducible first|apply Q0|refine Qa hS ?_|refine Qb ?_|refine Qc hS ?_|refine Qd ?_)
  | ((with_reducible refine Qe hS ?_);intro w hS;simp only[List.set]at hS)
  | ((with_reducible first|refine yw hS ?_|refine Qf hS ?_);intro w hS))
 exact kk b w hS):P:=h k
def Cc{W w:Α}{l pre F:List Chunk}{P:Program}{f:FuncId}{args:Γ}{Q:Ω->List Chunk->Prop}{K:Ω->Α->Prop}(c:Spec P f args pre Q)(h:∀v post,Q v post->∀w',SL W (app post F) w'->K v w')
  (hs:SL W l w:=by exact hS) (p:lJ pre l F:=by (repeat (first|(with_reducible exact lJ.nil)|((with_reducible apply lJ.cons);(focus ((repeat (first|(with_reducible exact lg.hd)|(with_reducible apply lg.tl)));done)))))):zQ P f args w K:=yE c hs p h
def Cg{W w:Α}{l l' pre q F:List Chunk}{P:Program}{f:FuncId}{args:Γ}{u:Ω}{K:Ω->Α->Prop}{G:Α->Prop}(c:Spec P f args pre (e_ u q))(k:∀w,SL W l' w->G w)
  (hs:SL W l w:=by exact hS) (p:lJ pre l F:=by (repeat (first|(with_reducible exact lJ.nil)|((with_reducible apply lJ.cons);(focus ((repeat (first|(with_reducible exact lg.hd)|(with_reducible apply lg.tl)));done))))))
  (e:(∀w,SL W l' w->G w)->∀w,SL W (app q F) w->K u w:=by
   intro kk w hS;try simp only[app]at hS
   repeat (first
    | (with_reducible first|apply Q0|refine Qa hS ?_|refine Qb ?_|refine Qc hS ?_|refine Qd ?_)
    | ((with_reducible refine Qe hS ?_);intro w hS;simp only[List.set]at hS)
    | ((with_reducible first|refine yw hS ?_|refine Qf hS ?_);intro w hS))
   exact kk w hS):zQ P f args w K:=yE c hs p λv post ⟨h1,h2⟩ w' hw=>by subst h1 h2;exact e k w' hw
def bR(v:Ω)(t:Ε)(sz n:Nat)(cells:Γ):zB:=nT λx:Option (Nat × Nat × Γ)=>match x with
 | none=>zG ((∃a,v= .slice a 0 0)/\n=0/\cells=[]) []
 | some (b,cap,rest)=>zG (v= .slice (some ⟨b,0,none⟩) n cap/\n<=cap/\cells.length=n*sz/\rest.length=(cap-n)*sz) [.pt b (cells++rest) t]
section
variable {W w:Α} {l:List Chunk}
def bR.open{v:Ω}{t:Ε}{sz n:Nat}{cells:Γ}(h:SL W (.ob (bR v t sz n cells)::l) w):
  ((∃a,v= .slice a 0 0)/\n=0/\cells=[]/\SL W l w)\/∃b cap rest,v= .slice (some ⟨b,0,none⟩) n cap/\n<=cap/\cells.length=n*sz/\rest.length=(cap-n)*sz/\SL W (.pt b (cells++rest) t::l) w:=by
 unfold bR at h;obtain⟨x,h⟩:=SL.ex.1 h
 match x,h with
 | none,h=>
  obtain⟨⟨h1,h2,h3⟩,h⟩:=SL.fact.1 h;exact .inl ⟨h1,h2,h3,h⟩
 | some (b,cap,rest),h=>
  obtain⟨⟨h1,h2,h3,h4⟩,h⟩:=SL.fact.1 h;exact .inr ⟨b,cap,rest,h1,h2,h3,h4,h⟩
def bR.nil{t:Ε}{sz:Nat}(h:SL W l w):SL W (.ob (bR (.slice none 0 0) t sz 0 [])::l) w:=by
 unfold bR;exact SL.ex.2 ⟨none,SL.fact.2 ⟨⟨⟨_,rfl⟩,rfl,rfl⟩,h⟩⟩
def bR.vz{a:Option Addr}{t:Ε}{sz:Nat}(h:SL W l w):SL W (.ob (bR (.slice a 0 0) t sz 0 [])::l) w:=by
 unfold bR;exact SL.ex.2 ⟨none,SL.fact.2 ⟨⟨⟨_,rfl⟩,rfl,rfl⟩,h⟩⟩
def bR.mk{b n cap:Nat}{t:Ε}{sz:Nat}{cells rest:Γ}(h1:n<=cap)(h2:cells.length=n*sz)(h3:rest.length=(cap-n)*sz)(h:SL W (.pt b (cells++rest) t::l) w):
  SL W (.ob (bR (.slice (some ⟨b,0,none⟩) n cap) t sz n cells)::l) w:=by
 unfold bR;exact SL.ex.2 ⟨some (b,cap,rest),SL.fact.2 ⟨⟨rfl,h1,h2,h3⟩,h⟩⟩
def bR.full{b n:Nat}{t:Ε}{sz:Nat}{cells:Γ}(h2:cells.length=n*sz)(h:SL W (.pt b cells t::l) w):SL W (.ob (bR (.slice (some ⟨b,0,none⟩) n n) t sz n cells)::l) w:=
 bR.mk (rest:=[]) (zzi _) h2 (by simp) (by simpa using h)
def aFa{b o m cap sz:Nat}{cs uC:Γ}{t:Ε}(hS:SL W l w)(hm:Has (.pt b uC t) l)(hl:cs.length=m*sz)(hc:∀j v,cs[j]?=some v->uC[o+j]?=some v):oZ w sz (.slice (some ⟨b,o,none⟩) m cap) m cs:=
 ⟨rfl,hl,λj v e=>by rw[yyb];exact hS.cell hm (hc j v e)⟩
def oG{b m cap sz:Nat}{cs:Γ}{t:Ε}(hS:SL W l w)(hm:Has (.pt b cs t) l)(hl:cs.length=m*sz):oZ w sz (.slice (some ⟨b,0,none⟩) m cap) m cs:=
 aFa hS hm hl λj v e=>by rw[yyd];exact e
def gie{s:Β}:oZ w 1 (.string s) s.size (s.data.toList.map λb=>.int .u8 b.toNat):=⟨rfl,rfl⟩
def X9{cells rest cs:Γ}:cs.length<=rest.length->uZ (cells++rest) cells.length cs=cells++cs++rest.drop cs.length:=λh=>by
 rw[D_ _ _ _ (by simp;omega)];simp
def zI{x y:Ω}{t:Ε}{sz l5 n m:Nat}{z cells cs:Γ}{F:List Chunk}{K:Ω->Α->Prop}(hS:SL W l w)(hr:lg (.ob (bR x t sz n cells)) l F)(mr:oZ w sz y m cs)
  (hl:cs.length=m*sz) (hz:z.length=sz) (h1:∀v∈cs,v.oneCell'=true) (hb:(n+m)*l5<=140737488355328) (hn:n+m<=140737488355328)
  (h:∀v' w',SL W (.ob (bR v' t sz (n+m) (cells++cs))::F) w'->K v' w'):zx sz l5 z t x y w K:=by
 rcases bR.open (hS.perm hr.perm) with ⟨⟨a,rfl⟩,rfl,rfl,lL⟩|⟨b,cap,rest,rfl,hc,hlen,nY,lL⟩
 ·refine⟨a,0,0,m,cs,rfl,mr,hb,hn,λh0=>?_,λh0=>⟨[],(by cases a with|none=>exact⟨rfl,rfl⟩|some p=>exact⟨rfl,by simp,λj v e=>by simp at e⟩),λc lP oz=>?_⟩⟩
  ·have hm:m=0:=by omega
   subst hm;have:cs=[]:=zzo (by simpa using hl);subst this;cases a with
   | none=>exact h _ _ (bR.vz lL)
   | some p=>exact h _ _ (bR.vz lL)
  refine h _ _ ?_;have:=bR.mk (sz:=sz) (n:=0+m) (cells:=cs) (rest:=fR z (c-(0+m))) (cap:=c) lP (by simpa using hl) (by rw[p5,hz]) (SL.new (cs:=cs++fR z (c-(0+m))) (t:=t) (lL.drew));simpa using this
 refine⟨some ⟨b,0,none⟩,n,cap,m,cs,rfl,mr,hb,hn,λh0=>?_,λh0=>?_⟩
 ·have uP:cs.length<=rest.length:=by
   rw[hl,nY];exact yyt _ (by omega)
  show xF (Addr.add ⟨b,0,none⟩ (n*sz)) 0 cs w _;rw[yyb];refine Em (t:=t) cs (0+n*sz) 0 (cells++rest) w (.pt b (cells++rest) t::F) _ lL .hd (by simp[hlen];omega) h1 (λw' uL=>h _ _ ?_);have e:uZ (cells++rest) (0+n*sz+0) cs=cells++cs++rest.drop cs.length:=by
   rw[show 0+n*sz+0=cells.length by omega];exact X9 uP
  rw[e]at uL
  exact bR.mk (n:=n+m) (cells:=cells++cs) (rest:=rest.drop cs.length) h0 (by simp[hlen,hl,yyy]) (by
   rw[zzq,nY,hl,<- wwf];congr 1;omega) uL
 refine⟨cells,⟨rfl,hlen,λj v e=>?_⟩,λc lP oz=>h _ _ ?_⟩
 ·rw[yyb];refine lL.cell .hd ?_;rw[yyd];rw[zzr (zzh.1 e).1];exact e
 exact bR.mk (n:=n+m) (cells:=cells++cs) (rest:=fR z (c-(n+m))) lP (by simp[hlen,hl,yyy]) (by rw[p5,hz]) (SL.new (lL.drop.drew))
def iD(H:bw)(sz:Nat)(v:Ω)(n:Nat)(cells:Γ):Prop:=
 cells.length=n*sz/\∃a cap,v= .slice a n cap/\n<=cap/\(n=0\/∃b o,a=some ⟨b,o,none⟩/\∀j u,cells[j]?=some u->H.cell b (o+j)=some u)
def iD.mono{H H':bw}(hh:H.le H'){sz n:Nat}{v:Ω}{cells:Γ}(h:iD H sz v n cells):iD H' sz v n cells:=by
 obtain⟨h1,a,cap,h2,h3,h4⟩:=h;refine⟨h1,a,cap,h2,h3,h4.imp id ?_⟩;rintro ⟨b,o,h5,h6⟩;exact⟨b,o,h5,λj u hu=>bw.bw6 hh (h6 j u hu)⟩
def iD.nil(H:bw)(sz:Nat):iD H sz (.slice none 0 0) 0 []:=⟨by simp,none,0,rfl,zzi _,.inl rfl⟩
def bR.freeze{H:bw}{v:Ω}{t:Ε}{sz n:Nat}{cells:Γ}(h:SL W (.mem H::.ob (bR v t sz n cells)::l) w):∃H',H.le H'/\iD H' sz v n cells/\SL W (.mem H'::l) w:=by
 rcases bR.open (h.perm (.swap _ _ _)) with ⟨⟨a,rfl⟩,rfl,rfl,hS⟩|⟨b,cap,rest,rfl,hc,hlen,nY,hS⟩
 ·exact⟨H,bw.le_refl H,⟨by simp,a,0,rfl,zzi _,.inl rfl⟩,hS⟩
 obtain⟨H',h1,h2,h3⟩:=SL.freeze (hS.perm (.swap _ _ _));refine⟨H',h1,⟨hlen,_,cap,rfl,hc,.inr ⟨b,0,rfl,λj u hu=>?_⟩⟩,h3⟩;rw[yyd];refine h2 j u ?_;rw[zzr (zzh.1 hu).1];exact hu
def iD.one{H:bw}{sz n:Nat}{v:Ω}{cells:Γ}(h:iD H sz v n cells):v.oneCell'=true:=by
 obtain⟨_,a,cap,rfl,_,_⟩:=h;rfl
def MQ{H:bw}{y:Ω}{sz m:Nat}{cs:Γ}(hS:SL W l w)(hm:Has (.mem H) l)(h:iD H sz y m cs):oZ w sz y m cs:=by
 obtain⟨h1,a,cap,rfl,h3,h4⟩:=h;cases a with
 | none=>
  rcases h4 with rfl|⟨b,o,h5,_⟩
  ·exact⟨rfl,zzo (by simpa using h1)⟩
  cases h5
 | some p=>
  refine⟨rfl,h1,λj v e=>?_⟩;rcases h4 with rfl|⟨b,o,h5,h6⟩
  ·have:cs=[]:=zzo (by simpa using h1);subst this;simp at e
  cases h5;rw[yyb];exact hS.L5 hm (h6 j v e)
def zo{H:bw}{v:Ω}{sz n:Nat}{cells:Γ}{K:Ω->Prop}(h:iD H sz v n cells)(k:K (.int .i64 n)):zd v K:=by
 obtain⟨_,a,cap,rfl,_,_⟩:=h;exact yc k
def Yb{H:bw}{v:Ω}{sz n j:Nat}{k:IntKind}{cells:Γ}{K:Ω->Prop}(h:iD H sz v n cells)(hj:j<n)
  (hK:∀b o,(∀i u,i<sz->cells[j*sz+i]?=some u->H.cell b (o+i)=some u)->K (.pointer (some ⟨b,o,none⟩))):zl sz v (.int k (j:Int)) K:=by
 obtain⟨_,a,cap,rfl,_,h4⟩:=h;rcases h4 with rfl|⟨b,o,rfl,h6⟩
 ·omega
 refine zF hj (hK b (o+j*sz) λi u hi hu=>?_);have:=h6 _ u hu
 rwa [<- ww9]at this
def yU{H:bw}{v u:Ω}{n j:Nat}{k:IntKind}{cells:Γ}{K:Ω->Prop}(hS:SL W l w)(hm:Has (.mem H) l)(h:iD H 1 v n cells)(hj:j<n)(hu:cells[j]?=some u)(hK:K u):
  zl 1 v (.int k (j:Int)) λp=>cI p w K:=
 Yb h hj λb o hb=>I5 hS hm (hb 0 u (by omega) (by simpa using hu)) hK
end
