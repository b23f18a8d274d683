/- Part. -/
import Derived.WalkLawsBesides
import Derived.Deep.RegionHeld3
import Derived.Deep.AppendLies
namespace Go.Proofs.YtgfbifafbkkghaaGreatDoor
set_option linter.all false
open Go.RowKit
abbrev Κ:=UInt8
abbrev Ι:=TypeId
abbrev Η:=ByteArray
abbrev Ζ:=World
abbrev Ε:=Value
abbrev Α:=List Nat
abbrev Ω:=List Int
abbrev Ψ:=List Η
abbrev Φ:=List Κ
abbrev Ξ:=List Ε
abbrev Θ:Ε:= .slice none 0 0
abbrev Δ(b:Nat):Ε:= .pointer (some ⟨b,0,none⟩)
abbrev Γ(n:Int):Ε:= .int .i64 n
def zzv:=@List.mem_cons
def zzu:=@run_underlying
def wwp:=@run_loadCells_list
def zzz:=@Nat.le_refl
def zzt:=@List.flatten_cons
def zzs:=@List.getElem?_append_left
def wwm:=@Nat.mod_eq_of_lt
def zz3:=@List.getElem?_append_right
def yyo:=@Nat.add_mul
def zza:=@List.length_append
def yy7:=@Nat.eq_zero_or_pos
def uun:=@Nat.mod_lt
def zzc:=@List.getElem?_eq_getElem
def vv5:=@getElem!_pos
def xxu:=@IntWalk.i64_in
def zzm:=@List.eq_nil_of_length_eq_zero
inductive fu where
 | v (x:Ε)
 | t
 | f
 | u
def fu.val:fu->Ε
 | .v x=>x
 | .t=>.bool true
 | .f=>.bool false
 | .u=>undef
abbrev Env:=List (Nat × fu)
def Env.get:Env->Nat->Option fu
 | [],_=>none
 | (k,e)::r,t=>match Nat.beq k t with
  | true=>some e
  | false=>Env.get r t
def BW:Ε->fu
 | .bool true=>.t
 | .bool false=>.f
 | v=>.v v
def Env.fa(E:Env):Operand->Option fu
 | .tmp t=>E.get t
 | .const v=>some (BW v)
 | .global g=>some (.v (Δ g))
 | .func f=>some (.v (.func (.func f) #[] #[]))
def Env.ev(E:Env)(x:Operand):Ε:=match E.fa x with
 | some e=>e.val
 | none=>undef
def Env.has(E:Env)(x:Operand):Bool:=match E.fa x with
 | some _=>true
 | none=>false
def Env.hasAll(E:Env):List Operand->Bool
 | []=>true
 | x::r=>match E.has x with
  | true=>Env.hasAll E r
  | false=>false
def Env.put(n:Nat)(E:Env)(d:Option Nat)(e:fu):Env:=match d with
 | none=>E
 | some d=>match Nat.blt d n with
  | true=>(d,e)::E
  | false=>E
def RG(v:Ε):(BW v).val=v:=by
 unfold BW;split<;>rfl
structure dd(X:Α)(n:Nat)(E:Env)(a:Act):Prop where
 size:a.tmps.size=n
 defers:a.defers=[]
 get:∀t e,t∉X->E.get t=some e->a.tmps[t]?=some e.val
def ri(X:Α)(x:Operand):Prop:=∀t,x= .tmp t->t∉X
def ri.nil(x:Operand):ri [] x:=λ_ _ h=>by cases h
def dd.fa{X:Α}{n:Nat}{E:Env}{a:Act}(h:dd X n E a){x:Operand}(hX:ri X x){e:fu}(he:E.fa x=some e):a.eval x=e.val:=by
 cases x with
 | tmp t=>
  have:=h.get t e (hX t rfl) he;simp[Act.eval,Array.getD_eq_getD_getElem?,this]
 | const v=>simp[Env.fa]at he;subst he;exact (RG v).symm
 | global g=>simp[Env.fa]at he;subst he;rfl
 | func f=>simp[Env.fa]at he;subst he;rfl
def dd.ev{X:Α}{n:Nat}{E:Env}{a:Act}(h:dd X n E a){x:Operand}(hX:ri X x)(hx:E.has x=true):a.eval x=E.ev x:=by
 unfold Env.has at hx;unfold Env.ev;split at hx
 ·rename_i e he;exact h.fa hX he
 cases hx
def Env.xN{E:Env}:∀{l:List Operand},E.hasAll l=true->∀x∈l,E.has x=true
 | [],_,x,hx=>by cases hx
 | y::r,h,x,hx=>by
  unfold Env.hasAll at h;split at h
  ·rename_i hy;rcases zzv.1 hx with rfl|hx
   ·exact hy
   exact Env.xN h x hx
  cases h
def beq_iff{k t:Nat}:Nat.beq k t=true↔k=t:=⟨Nat.eq_of_beq_eq_true,λh=>by subst h;exact Nat.beq_refl k⟩
def dd.put{X:Α}{n:Nat}{E:Env}{a:Act}(h:dd X n E a)(d:Option Nat)(e:fu):dd X n (E.put n d e) (a.put d e.val):=by
 cases d with
 | none=>exact h
 | some d=>
  unfold Env.put;refine⟨by simp[Act.put,h.size],h.defers,λt e' hX he=>?_⟩;cases hb:Nat.blt d n with
  | true=>
   simp only[hb]at he;have cA:d<n:=Nat.le_of_ble_eq_true hb;simp only[Env.get]at he;cases hk:Nat.beq d t with
   | true=>
    rw[hk]at he;cases he
    obtain rfl:=beq_iff.1 hk;simp[Act.put,h.size,cA]
   | false=>
    rw[hk]at he
    have d_:d≠t:=λx=>by rw[beq_iff.2 x]at hk;cases hk
    simp[Act.put,Array.getElem?_setIfInBounds_ne d_,h.get t e' hX he]
  | false=>
   simp only[hb]at he;have cA:¬d<n:=λhl=>by
    have:Nat.blt d n=true:=Nat.ble_eq_true_of_le hl;rw[hb]at this;cases this
   simp only[Act.put];rw[Array.setIfInBounds_eq_of_size_le (by rw[h.size];omega)];exact h.get t e' hX he
inductive TK where
 | one
 | agg (n:Nat)
 | bad
def tk(P:Program)(t:Ι):TK:=match P.underlying t with
 | some (.struct _)=>match P.info? t with
  | some i=>.agg i.size
  | none=>.bad
 | some (.array _ _)=>match P.info? t with
  | some i=>.agg i.size
  | none=>.bad
 | some _=>match P.info? t with
  | some _=>.one
  | none=>.bad
 | none=>.bad
def iH(P:Program)(t:Ι):Option Nat:=match P.info? t with
 | some i=>some i.size
 | none=>none
def o8(P:Program)(t:Ι):Nat:=match P.info? t with
 | some i=>i.bytes
 | none=>0
def p_(P:Program)(t:Ι):Option Ξ:=match P.info? t with
 | some i=>match i.zero with
  | some z=>some z.cells.toList
  | none=>none
 | none=>none
def zR(P:Program)(s:Sem Ε)(w:Ζ)(K:Ε->Ζ->Prop):Prop:=∃v w',s.run P w= .ok v w'/\K v w'
def dC(P:Program)(s:Sem Ε)(w:Ζ)(K:Ε->Prop):Prop:=∃v,s.run P w= .ok v w/\K v
def bx(x:Ε)(w:Ζ)(K:Ε->Prop):Prop:=∃a v,x= .pointer (some a)/\w.cell? a=some v/\K v
def zf(n:Nat)(x:Ε)(w:Ζ)(K:Ε->Prop):Prop:=
 ∃(a:Addr) (vs:Ξ),x= .pointer (some a)/\vs.length=n/\(∀j v,vs[j]?=some v->w.cell? (a.add j)=some v)/\K (.agg vs.toArray)
def cR(x v:Ε)(w:Ζ)(K:Ζ->Prop):Prop:=∃a u,x= .pointer (some a)/\v.oneCell'=true/\w.cell? a=some u/\w.frozen? a=false/\K (w.setCell a v)
def om:Addr->Nat->Ξ->Ζ->(Ζ->Prop)->Prop
 | _,_,[],w,K=>K w
 | a,i,v::r,w,K=>v.oneCell'=true/\(∃u,w.cell? (a.add i)=some u)/\w.frozen? (a.add i)=false/\om a (i+1) r (w.setCell (a.add i) v) K
def zn(n:Nat)(x v:Ε)(w:Ζ)(K:Ζ->Prop):Prop:=
 ∃(a:Addr) (vs:Ξ),x= .pointer (some a)/\v= .agg vs.toArray/\vs.length=n/\om a 0 vs w K
def zi(cs:Ξ)(t:Ι)(w:Ζ)(K:Ε->Ζ->Prop):Prop:=K (Δ w.heap.size) (w.alloc (.cells cs.toArray t))
def YC(x:Ε)(K:Ε->Prop):Prop:=∃a,x= .pointer (some a)/\K (.pointer (some a))
def zm(off:Nat)(x:Ε)(K:Ε->Prop):Prop:=∃a,x= .pointer (some a)/\K (.pointer (some (a.add off)))
def zj(sz:Nat)(x i:Ε)(K:Ε->Prop):Prop:=
 ∃(a:Addr) (len cap:Nat) (k:IntKind) (j:Nat),x= .slice (some a) len cap/\i= .int k (((j:Nat):Int))/\j<len/\K (.pointer (some (a.add (j*sz))))
def yx(sz n:Nat)(x i:Ε)(K:Ε->Prop):Prop:=
 ∃(a:Addr) (k:IntKind) (j:Nat),x= .pointer (some a)/\i= .int k (((j:Nat):Int))/\j<n/\K (.pointer (some (a.add (j*sz))))
def zg(i:Nat)(x:Ε)(K:Ε->Prop):Prop:=∃vs v,x= .tuple vs/\vs[i]?=some v/\K v
def zd(x:Ε)(K:Ε->Prop):Prop:=∃a n c,x= .slice a n c/\K (Γ n)
def yr(x:Ε)(K:Ε->Prop):Prop:=∃s,x= .string s/\K (Γ s.size)
def zL(P:Program)(f:FuncId)(args:Ξ)(w:Ζ)(K:Ε->Ζ->Prop):Prop:=
 Calls P f args.toArray w λe w'=>∃v,e= .returned v/\K v w'
def gv:BinOp->Ε->Ε->Option Ε
 | .shl,.int k a,.int _ b=>if b<0 then none else some (.int k (k.wrap (a*2 ^ (min b.toNat k.bits))))
 | .shr,.int k a,.int _ b=>if b<0 then none else some (.int k (a.fdiv (2 ^ (min b.toNat k.bits))))
 | .add,.int k a,.int k' b=>if k=k' then some (.int k (k.wrap (a+b))) else none
 | .sub,.int k a,.int k' b=>if k=k' then some (.int k (k.wrap (a-b))) else none
 | .mul,.int k a,.int k' b=>if k=k' then some (.int k (k.wrap (a*b))) else none
 | .quo,.int k a,.int k' b=>if k=k' then if b=0 then none else some (.int k (k.wrap (a.tdiv b))) else none
 | .rem,.int k a,.int k' b=>if k=k' then if b=0 then none else some (.int k (a.tmod b)) else none
 | .and,.int k a,.int k' b=>if k=k' then some (.int k (k.wrap (BitVec.ofInt k.bits a &&& BitVec.ofInt k.bits b).toNat)) else none
 | .or,.int k a,.int k' b=>if k=k' then some (.int k (k.wrap (BitVec.ofInt k.bits a ||| BitVec.ofInt k.bits b).toNat)) else none
 | .xor,.int k a,.int k' b=>if k=k' then some (.int k (k.wrap (BitVec.ofInt k.bits a ^^^ BitVec.ofInt k.bits b).toNat)) else none
 | .eql,.int k a,.int k' b=>if k=k' then some (.bool (a == b)) else none
 | .neq,.int k a,.int k' b=>if k=k' then some (.bool (a != b)) else none
 | .lss,.int k a,.int k' b=>if k=k' then some (.bool (decide (a<b))) else none
 | .leq,.int k a,.int k' b=>if k=k' then some (.bool (decide (a<=b))) else none
 | .gtr,.int k a,.int k' b=>if k=k' then some (.bool (decide (a>b))) else none
 | .geq,.int k a,.int k' b=>if k=k' then some (.bool (decide (a≥b))) else none
 | .add,.string a,.string b=>if ((a.size+b.size:Nat):Int)>IntKind.i64.max then none else some (.string (a++b))
 | .eql,.string a,.string b=>some (.bool (a.toList == b.toList))
 | .neq,.string a,.string b=>some (.bool (!(a.toList == b.toList)))
 | .lss,.string a,.string b=>some (.bool (Op.bytesLess a.toList b.toList))
 | _,_,_=>none
def zc(op:BinOp)(x y:Ε)(K:Ε->Prop):Prop:=∃v,gv op x y=some v/\K v
def px:TypeDesc->Ε->Ε->Option Bool
 | .bool,.bool a,.bool b=>some (a == b)
 | .pointer _,.pointer none,.pointer b=>some b.isNone
 | .pointer _,.pointer (some _),.pointer none=>some false
 | .slice _,.slice a _ _,.slice none _ _=>some a.isNone
 | .map _ _,.map a,.map none=>some a.isNone
 | .func _ _ _,.nilFunc,.nilFunc=>some true
 | .func _ _ _,.func _ _ _,.nilFunc=>some false
 | _,_,_=>none
def HEq(d:TypeDesc)(neg:Bool)(x y:Ε)(K:Ε->Prop):Prop:=∃b,px d x y=some b/\K (.bool (match neg with|true=>!b|false=>b))
def ZB(P:Program)(t:Ι)(neg:Bool)(x y:Ε)(w:Ζ)(K:Ε->Prop):Prop:=
 ∃xs ys b,x= .agg xs/\y= .agg ys/\(Op.equal t x y).run P w= .ok b w/\K (.bool (match neg with|true=>!b|false=>b))
open Go.RowKit
def zP(P:Program)(T:List Bool)(g:Ε)(args:Ξ)(w:Ζ)(K:Ε->Ζ->Prop):Prop:=
 ∃f first captured,g= .func (.func f) first captured/\T.getD f false=true/\zL P f (first.toList++args++captured.toList) w K
def wE(P:Program)(f:FuncId)(args:Ξ)(w:Ζ)(K:Ε->Ζ->Prop):Prop:=∃v w',(callFunc f args.toArray).run P w= .ok (.value v) w'/\K v w'
def zC(k:IntKind)(x:Ε)(K:Ε->Prop):Prop:=∃j n,x= .int j n/\K (.int k (k.wrap n))
def EN(x:Ε)(K:Ε->Prop):Prop:=∃s,x= .string s/\K (.string s)
def yM(x:Ε)(K:Ε->Prop):Prop:=∃b,x= .bool b/\K (.bool !b)
def QZ(x:Ε)(K:Ε->Prop):Prop:=∃k n,x= .int k n/\K (.int k (k.wrap (BitVec.ofInt k.bits (if k.signed then -1 else k.max) ^^^ BitVec.ofInt k.bits n).toNat))
def EO(x:Ε)(K:Ε->Prop):Prop:=∃k n,x= .int k n/\K (.int k (k.wrap (0-n)))
def oE:Option Ε->Nat->Nat->Prop
 | none,d,l=>l=d
 | some v,_,l=>∃k,v= .int k (((l:Nat):Int))
def dD(sz:Nat)(x:Ε)(lo hi mx:Option Ε)(K:Ε->Prop):Prop:=
 ∃a len cap l h m,x= .slice a len cap/\oE mx cap m/\oE hi len h/\oE lo 0 l/\l<=h/\h<=m/\m<=cap /\
  K (.slice (if m=l then a else a.map (·.add (l*sz))) (h-l) (m-l))
def A8(x:Ε)(lo hi:Option Ε)(K:Ε->Prop):Prop:=
 ∃s l h,x= .string s/\oE hi s.size h/\oE lo 0 l/\l<=h/\h<=s.size/\K (.string (s.extract l h))
def YB(x y:Ε)(K:Ε->Prop):Prop:=∃k a b,x= .int k a/\y= .int k b/\K (.int k (if b<a then b else a))
def YA(x y:Ε)(K:Ε->Prop):Prop:=∃k a b,x= .int k a/\y= .int k b/\K (.int k (if b>a then b else a))
def bq(z:Ξ)(n:Nat):Ξ:=(List.replicate n z).flatten
def uh(z:Ξ)(bytes:Nat)(e:Ι)(x y:Ε)(w:Ζ)(K:Ε->Ζ->Prop):Prop:=
 ∃(n c:Nat) (kl kc:IntKind),x= .int kl (((n:Nat):Int))/\y= .int kc (((c:Nat):Int))/\n<=c/\bytes*c<=281474976710656/\c<9223372036854775808 /\
  K (.slice (some ⟨w.heap.size,0,none⟩) n c) (w.alloc (.cells (bq z c).toArray e))
def eV:Ξ->List (Nat × Nat × Ε)->Option Ξ
 | cells,[]=>some cells
 | cells,(off,size,v)::r=>
  if v.cells.size=size/\off+size<=cells.length then eV (cells.take off++v.cells.toList++cells.drop (off+size)) r else none
def zp(z:Ξ)(ps:List (Nat × Nat × Ε))(K:Ε->Prop):Prop:=∃cells,eV z ps=some cells/\K (.agg cells.toArray)
def zk(z:Ξ)(ps:List (Nat × Nat × Ε))(e:Ι)(len:Nat)(w:Ζ)(K:Ε->Ζ->Prop):Prop:=
 ∃cells,eV z ps=some cells/\K (.slice (some ⟨w.heap.size,0,none⟩) len len) (w.alloc (.cells cells.toArray e))
def il(w:Ζ)(sz:Nat)(y:Ε)(n:Nat)(cs:Ξ):Prop:=
 match y with
 | .slice (some b) len _=>n=len/\cs.length=n*sz/\∀j v,cs[j]?=some v->w.cell? (b.add j)=some v
 | .slice none len _=>n=len/\cs=[]
 | .string s=>n=s.size/\cs=s.data.toList.map λb=>.int .u8 b.toNat
 | _=>False
def zq(sz bytes:Nat)(z:Ξ)(e:Ι)(x y:Ε)(w:Ζ)(K:Ε->Ζ->Prop):Prop:=
 ∃a len cap n cs,x= .slice a len cap/\il w sz y n cs/\(len+n)*bytes<=140737488355328/\len+n<=140737488355328 /\
  (len+n<=cap->match a with
   | some p=>om (p.add (len*sz)) 0 cs w λw'=>K (.slice (some p) (len+n) cap) w'
   | none=>K (.slice none (len+n) cap) w) /\
  (cap<len+n->∃nq,il w sz x len nq/\∀c,len+n<=c->c<=9223372036854775807 ->
   K (.slice (some ⟨w.heap.size,0,none⟩) (len+n) c) (w.drew.alloc (.cells (nq++cs++bq z (c-(len+n))).toArray e)))
def sW(P:Program):List Field->Option (List (Nat × Nat))
 | []=>some []
 | f::r=>match iH P f.type with
  | some n=>match sW P r with
   | some l=>some ((f.offset,n)::l)
   | none=>none
  | none=>none
def mm(pl:List (Nat × Nat))(ev:Operand->Ε):List (Nat × Operand)->Option (List (Nat × Nat × Ε))
 | []=>some []
 | (i,x)::r=>match pl[i]? with
  | some (off,n)=>match mm pl ev r with
   | some l=>some ((off,n,ev x)::l)
   | none=>none
  | none=>none
def Cs(P:Program)(s:Ι)(f:Nat):Option Nat:=match P.underlying s with
 | some (.struct fields)=>match fields[f]? with
  | some d=>match iH P d.type with
   | some (_+1)=>some d.offset
   | _=>none
  | none=>none
 | _=>none
def cQ(P:Program)(T:List Bool)(o:Op)(ty:Ι)(ev:Operand->Ε)(w:Ζ)(K:Ε->Ζ->Prop):Prop:=
 match o with
 | .move x=>K (ev x) w
 | .assign x=>K (ev x) w
 | .alloc e=>match p_ P e with
  | some z=>zi z e w K
  | none=>False
 | .box e x=>match tk P e with
  | .one=>(ev x).oneCell'=true/\zi [ev x] e w K
  | .agg _=>∃vs:Ξ,ev x= .agg vs.toArray/\zi vs e w K
  | .bad=>False
 | .build t ps=>match P.underlying t with
  | some (.struct fields)=>match p_ P t with
   | some z=>match sW P fields.toList with
    | some pl=>match mm pl ev ps.toList with
     | some l=>zp z l λv=>K v w
     | none=>False
    | none=>False
   | none=>False
  | _=>False
 | .buildSlice t len ps=>match P.underlying t with
  | some (.slice e)=>match p_ P e with
   | some z=>match iH P e with
    | some n=>match mm ((List.range len).map λi=>(i*n,n)) ev ps.toList with
     | some l=>match Nat.beq n z.length,Nat.ble (len*n) 16777216 with
      | true,true=>zk (bq z len) l e len w K
      | _,_=>False
     | none=>False
    | none=>False
   | none=>False
  | _=>False
 | .load t x=>match tk P t with
  | .one=>bx (ev x) w λv=>K v w
  | .agg n=>zf n (ev x) w λv=>K v w
  | .bad=>False
 | .store t x v=>match tk P t with
  | .one=>match iH P t with
   | some 1=>cR (ev x) (ev v) w λw'=>K undef w'
   | _=>False
  | .agg n=>zn n (ev x) (ev v) w λw'=>K undef w'
  | .bad=>False
 | .nilCheck x=>YC (ev x) λv=>K v w
 | .binOp op t x y _=>match op,P.underlying t with
  | _,some (.int _)=>zc op (ev x) (ev y) λv=>K v w
  | _,some .string=>zc op (ev x) (ev y) λv=>K v w
  | .eql,some (.struct _)=>match P.eqGuardType P.depth t with
   | false=>ZB P t false (ev x) (ev y) w λv=>K v w
   | true=>False
  | .neq,some (.struct _)=>match P.eqGuardType P.depth t with
   | false=>ZB P t true (ev x) (ev y) w λv=>K v w
   | true=>False
  | .eql,some d=>HEq d false (ev x) (ev y) λv=>K v w
  | .neq,some d=>HEq d true (ev x) (ev y) λv=>K v w
  | _,_=>False
 | .unOp .not _ x=>yM (ev x) λv=>K v w
 | .unOp .neg _ x=>EO (ev x) λv=>K v w
 | .unOp .xor _ x=>QZ (ev x) λv=>K v w
 | .convert s d x=>match P.underlying s,P.underlying d with
  | some _,some (.int k)=>zC k (ev x) λv=>K v w
  | some .string,some .string=>EN (ev x) λv=>K v w
  | some .string,some (.slice _)=>zR P (convert s d (ev x)) w K
  | some (.slice _),some (.slice _)=>zR P (convert s d (ev x)) w K
  | _,_=>dC P (convert s d (ev x)) w λv=>K v w
 | .makeFunc fn first captured=>match fn with
  | .func f=>K (.func (.func f) (first.toList.map ev).toArray (captured.toList.map ev).toArray) w
  | _=>False
 | .makeSlice t x y=>match P.underlying t with
  | some (.slice e)=>match p_ P e with
   | some z=>match iH P e with
    | some n=>match Nat.beq n z.length with
     | true=>uh z (o8 P e) e (ev x) (ev y) w K
     | false=>False
    | none=>False
   | none=>False
  | _=>False
 | .slice t x lo hi mx=>match P.underlying t with
  | some (.slice e)=>match iH P e with
   | some n=>match mx,hi with
    | some _,none=>False
    | _,_=>dD n (ev x) (lo.map ev) (hi.map ev) (mx.map ev) λv=>K v w
   | none=>False
  | some .string=>match mx with
   | none=>A8 (ev x) (lo.map ev) (hi.map ev) λv=>K v w
   | some _=>False
  | _=>False
 | .fieldAddr s x f=>match Cs P s f with
  | some off=>zm off (ev x) λv=>K v w
  | none=>False
 | .indexAddr t x i=>match P.underlying t with
  | some (.slice e)=>match iH P e with
   | some n=>zj n (ev x) (ev i) λv=>K v w
   | none=>False
  | some (.array len e)=>match iH P e with
   | some n=>yx n len (ev x) (ev i) λv=>K v w
   | none=>False
  | _=>False
 | .extract x i=>zg i (ev x) λv=>K v w
 | .field t x f=>dC P (Instr.field t (ev x) f) w λv=>K v w
 | .index t x i=>dC P (Instr.index t (ev x) (ev i)) w λv=>K v w
 | .lookup t x i ok=>dC P (Instr.lookup t (ev x) (ev i) ok) w λv=>K v w
 | .mapUpdate t m k x=>zR P (do Instr.mapUpdate t (ev m) (ev k) (ev x);pure undef) w K
 | .insert t m k x=>zR P (do Instr.mapUpdate t (ev m) (ev k) (ev x);pure undef) w K
 | .mapEntry t m k=>zR P (Instr.mapEntry t (ev m) (ev k)) w K
 | .entryStore t m s x=>zR P (do Instr.entryStore t (ev m) (ev s) (ev x);pure undef) w K
 | .makeMap t none=>K (.map (some w.heap.size)) (w.alloc (.map #[] 0))
 | .call c=>match c.callee with
  | .value (.func f)=>match T.getD f false with
   | true=>zL P f (c.args.toList.map ev) w K
   | false=>wE P f (c.args.toList.map ev) w K
  | .value (.tmp t)=>zP P T (ev (.tmp t)) (c.args.toList.map ev) w K
  | .builtin .len=>match c.args.toList,c.argTypes.toList with
   | [x],[t]=>match P.underlying t with
    | some (.slice _)=>zd (ev x) λv=>K v w
    | some .string=>yr (ev x) λv=>K v w
    | _=>dC P (Builtin.len_ #[t] ty #[ev x]) w λv=>K v w
   | _,_=>False
  | .builtin .min=>match c.args.toList with
   | [x,y]=>YB (ev x) (ev y) λv=>K v w
   | _=>False
  | .builtin .max=>match c.args.toList with
   | [x,y]=>YA (ev x) (ev y) λv=>K v w
   | _=>False
  | .builtin .append=>match c.args.toList,c.argTypes.toList with
   | [x,y],[t,u]=>match P.underlying t with
    | some (.slice e)=>match p_ P e with
     | some z=>match iH P e with
      | some n=>match Nat.beq n z.length,P.underlying u with
       | true,some (.slice _)=>zq n (o8 P e) z e (ev x) (ev y) w K
       | true,some .string=>zq n (o8 P e) z e (ev x) (ev y) w K
       | true,some (.int _)=>zR P (Builtin.append_ #[t,u] ty #[ev x,ev y]) w K
       | _,_=>False
      | none=>False
     | none=>False
    | _=>False
   | _,_=>False
  | .builtin .copy=>zR P (Builtin.copy_ c.argTypes ty (c.args.toList.map ev).toArray) w K
  | .builtin .delete=>zR P (Builtin.delete_ c.argTypes ty (c.args.toList.map ev).toArray) w K
  | .builtin .cap=>dC P (Builtin.cap_ c.argTypes ty (c.args.toList.map ev).toArray) w λv=>K v w
  | .builtin .clear=>zR P (Builtin.clear_ c.argTypes ty (c.args.toList.map ev).toArray) w K
  | _=>False
 | _=>False
open Go.RowKit
def O8 (P : Program) (f : FuncId) : Prop := ∃ fn, P.funcs[f]? = some fn /\ (fn.name == "runtime.NumGoroutine") = false /\ fn.body.isNone = false
def Calls.lx(P:Program)(T:List Bool):Prop:=∀f,T.getD f false=true->O8 P f
def dt(P:Program)(s:Sem Next)(w:Ζ)(K:Ε->Ζ->Prop):Prop:=
 (∃v w',s.run P w= .ok (.value v) w'/\K v w')\/(∃w',s.run P w= .ok .skip w'/\K undef w') \/
 (∃f args,s.run P w= .ok (.enter f args) w/\Calls P f args w λe w'=>∃v,e= .returned v/\K v w')
def dt.upon{P:Program}{o:Oper}{a:Act}{w:Ζ}{K:Ε->Ζ->Prop}{next:Act->Ζ->Prop}{Q:Exit->Act->Ζ->Prop}
  (h:dt P (execOp a.eval o) w K) (hn:∀v w',K v w'->next (a.put o.dst v) w'):o.wp P a w next Q:=by
 unfold Oper.wp;rcases h with ⟨v,w',hr,hk⟩|⟨w',hr,hk⟩|⟨f,args,hr,hk⟩
 ·rw[hr];exact hn _ _ hk
 ·rw[hr];exact hn _ _ hk
 rw[hr];refine hk.mono ?_;rintro e w' ⟨v,rfl,hk⟩;exact hn _ _ hk
def dt.value{P:Program}{s:Sem Ε}{w w':Ζ}{K:Ε->Ζ->Prop}{v:Ε}(h:s.run P w= .ok v w')(hk:K v w'):
  dt P (do pure (.value (<- s))) w K:=.inl ⟨v,w',by simp[h],hk⟩
def zR.kL{P:Program}{s:Sem Ε}{w:Ζ}{K:Ε->Ζ->Prop}(h:zR P s w K):dt P (do pure (.value (<- s))) w K:=by
 obtain⟨v,w',h1,h2⟩:=h;exact .value h1 h2
def dC.kL{P:Program}{s:Sem Ε}{w:Ζ}{K:Ε->Ζ->Prop}(h:dC P s w λv=>K v w):dt P (do pure (.value (<- s))) w K:=by
 obtain⟨v,h1,h2⟩:=h;exact .value h1 h2
def run_sizeOf{P:Program}{t:Ι}{n:Nat}(h:iH P t=some n)(w:Ζ):(sizeOf t).run P w= .ok n w:=by
 unfold iH at h;split at h
 ·rename_i i hi;cases h;simp[sizeOf,typeInfo,hi]
 cases h
def yw{P:Program}{t:Ι}{z:Ξ}(h:p_ P t=some z):∃i v,P.info? t=some i/\i.zero=some v/\v.cells.toList=z:=by
 unfold p_ at h;split at h
 ·rename_i i hi;split at h
  ·rename_i v hv;cases h;exact⟨i,v,hi,hv,rfl⟩
  cases h
 cases h
def tT{P:Program}{t:Ι}{i:TypeInfo}{v:Ε}(h:P.info? t=some i)(hv:i.zero=some v)(w:Ζ):(zeroValue t).run P w= .ok v w:=by
 simp[zeroValue,typeInfo,h,hv]
def OO{P:Program}{t:Ι}(h:tk P t= .one):(∀w,(isAgg t).run P w= .ok false w)/\∃i,P.info? t=some i:=by
 unfold tk at h;split at h
 ·split at h<;>cases h
 ·split at h<;>cases h
 ·rename_i d h1 h2 hd;split at h
  ·rename_i i hi;refine⟨λw=>?_,i,hi⟩;simp only[isAgg,Sem.run_bind,zzu hd,Result.andThen_ok];rfl
  cases h
 cases h
def wo{P:Program}{t:Ι}{n:Nat}(h:tk P t= .agg n):(∀w,(isAgg t).run P w= .ok true w)/\iH P t=some n:=by
 unfold tk at h;split at h
 ·rename_i fs hd;split at h
  ·rename_i i hi;cases h;exact⟨λw=>by simp[isAgg,zzu hd],by simp[iH,hi]⟩
  cases h
 ·rename_i k e hd;split at h
  ·rename_i i hi;cases h;exact⟨λw=>by simp[isAgg,zzu hd],by simp[iH,hi]⟩
  cases h
 ·split at h<;>cases h
 cases h
section
variable {P:Program} {w:Ζ} {K:Ε->Ζ->Prop}
def zi.run{z:Ξ}{v:Ε}{e:Ι}(hz:v.cells.toList=z)(h:zi z e w K):∃u w',(do pure (Value.pointer (some (<- newVar e v))):Sem Ε).run P w= .ok u w'/\K u w':=by
 refine⟨_,_,rfl,?_⟩;unfold zi at h;subst hz;rw[Array.toArray_toList]at h
 exact h
def Py{e:Ι}{z:Ξ}(hz:p_ P e=some z)(h:zi z e w K):dt P (do pure (.value (<- Instr.alloc e true (.tuple #[])))) w K:=by
 obtain⟨i,v,hi,hv,rfl⟩:=yw hz;obtain⟨u,w',hr,hk⟩:=zi.run (P:=P) rfl h;refine .value ?_ hk;rw[<- hr];have:=Sem.run_bind' P (zeroValue e) (λzero=>(do pure (Value.pointer (some (<- newVar e zero))):Sem Ε)) w;rw[tT hi hv]at this
 exact this
def Jm{e:Ι}{x:Ε}{z:Ξ}(hz:x.cells.toList=z)(h:zi z e w K):dt P (do pure (.value (<- Instr.box e x))) w K:=by
 obtain⟨u,w',hr,hk⟩:=zi.run (P:=P) hz h;exact .value hr hk
def VS{t:Ι}{x:Ε}(ht:tk P t= .one)(h:bx x w λv=>K v w):dt P (do pure (.value (<- Instr.loadAt t x))) w K:=by
 obtain⟨a,v,rfl,hc,hk⟩:=h;refine .value (v:=v) ?_ hk;simp[Instr.loadAt,Instr.sureAddr,loadVar,(OO ht).1,hc]
def V0{t:Ι}{n:Nat}{x:Ε}(ht:tk P t= .agg n)(h:zf n x w λv=>K v w):dt P (do pure (.value (<- Instr.loadAt t x))) w K:=by
 obtain⟨a,vs,rfl,hl,hc,hk⟩:=h;subst hl;refine .value (v:=.agg vs.toArray) ?_ hk;simp[Instr.loadAt,Instr.sureAddr,loadVar,(wo ht).1,run_sizeOf (wo ht).2,wwp w a vs hc]
def jC{v:Ε}(h:v.oneCell'=true):v.cells = #[v]:=by
 cases v<;>first|rfl|cases h
def NU{a:Addr}{v u:Ε}(hv:v.oneCell'=true)(hc:w.cell? a=some u)(hf:w.frozen? a=false):(store a v).run P w= .ok () (w.setCell a v):=by
 rw[run_store P w a v _ hv,hc];simp[hf]
def aFp{t:Ι}{x v:Ε}(ht:tk P t= .one)(hs:iH P t=some 1)(h:cR x v w λw'=>K undef w'):dt P (do Instr.storeAt t x v;pure .skip) w K:=by
 obtain⟨a,u,rfl,hv,hc,hf,hk⟩:=h;refine .inr (.inl ⟨_,?_,hk⟩);have h0:a.add 0=a:=rfl;simp[Instr.storeAt,Instr.sureAddr,storeVar,jC hv,run_sizeOf hs,storeCells,h0,NU hv hc hf]
def Ei:∀(vs:Ξ) (a:Addr) (i:Nat) (w:Ζ) (K:Ζ->Prop),om a i vs w K->∃w',(storeCells a vs i).run P w= .ok () w'/\K w'
 | [],a,i,w,K,h=>⟨w,by simp[storeCells],h⟩
 | v::r,a,i,w,K,⟨hv,⟨u,hc⟩,hf,h⟩=>by
  obtain⟨w',hr,hk⟩:=Ei r a (i+1) _ K h;exact⟨w',by simp[storeCells,NU hv hc hf,hr],hk⟩
def aFq{t:Ι}{n:Nat}{x v:Ε}(ht:tk P t= .agg n)(h:zn n x v w λw'=>K undef w'):dt P (do Instr.storeAt t x v;pure .skip) w K:=by
 obtain⟨a,vs,rfl,rfl,hl,hk⟩:=h;obtain⟨w',hr,hk⟩:=Ei (P:=P) _ _ _ _ _ hk;refine .inr (.inl ⟨w',?_,hk⟩);simp[Instr.storeAt,Instr.sureAddr,storeVar,run_sizeOf (wo ht).2,Value.cells,hl,hr]
def SU{s:Ι}{x:Ε}{f off:Nat}(hf:Cs P s f=some off)(h:zm off x λv=>K v w):dt P (do pure (.value (<- Instr.fieldAt s x f))) w K:=by
 obtain⟨a,rfl,hk⟩:=h;unfold Cs at hf;split at hf
 ·rename_i fields hs;split at hf
  ·rename_i d hd;split at hf
   ·rename_i n hn;cases hf;refine .value ?_ hk;simp[Instr.fieldAt,zzu hs,hd,Instr.sureAddr,fieldPlace,run_sizeOf hn]
   cases hf
  cases hf
 cases hf
def U7{t e:Ι}{n:Nat}{x i:Ε}(ht:P.underlying t=some (.slice e))(hn:iH P e=some n)(h:zj n x i λv=>K v w):dt P (do pure (.value (<- Instr.indexAt t x i))) w K:=by
 obtain⟨a,len,cap,k,j,rfl,rfl,cA,hk⟩:=h;refine .value ?_ hk;simp[Instr.indexAt,zzu ht,asIntOf,run_sizeOf hn,cA]
def U6{t e:Ι}{n len:Nat}{x i:Ε}(ht:P.underlying t=some (.array len e))(hn:iH P e=some n)(h:yx n len x i λv=>K v w):dt P (do pure (.value (<- Instr.indexAt t x i))) w K:=by
 obtain⟨a,k,j,rfl,rfl,cA,hk⟩:=h;refine .value ?_ hk;simp[Instr.indexAt,zzu ht,asIntOf,run_sizeOf hn,cA,Instr.sureAddr]
def Cb(op:BinOp)(t:Ι)(x y:Operand)(a b:Ε)(ha:∀u,a≠.agg u)(hb:a≠.nilIface):(eqGuard op t x y a b).run P w= .ok () w:=by
 cases a<;>simp_all [eqGuard]
def PZ{op:BinOp}{a b v:Ε}(t:Ι)(h:gv op a b=some v):((∀u,a≠.agg u)/\a≠.nilIface)/\(binOp op t a b).run P w= .ok v w:=by
 unfold gv at h;split at h<;>first|(cases h;done)|skip
 all_goals refine⟨⟨(λu hu=>(by cases hu)),(λhu=>(by cases hu))⟩,?_⟩
 all_goals (repeat' split at h)
 all_goals
  first
   | (cases h;done)
   | (cases h;simp_all [binOp,Op.intArith,Op.intCmp,Op.intDiv,Op.intBits,Op.shift,Op.stringOp];done)
   | (cases h;simp_all [binOp,Op.shift];omega)
def Ji{op:BinOp}{t:Ι}{x y:Operand}{a b:Ε}(h:zc op a b λv=>K v w):dt P (do pure (.value (<- (do eqGuard op t x y a b;binOp op t a b)))) w K:=by
 obtain⟨v,hv,hk⟩:=h;obtain⟨⟨h1,h2⟩,hr⟩:=PZ (P:=P) (w:=w) t hv;refine .value (v:=v) ?_ hk;simp only[Sem.run_bind,Cb op t x y a b h1 h2,Result.andThen_ok,hr]
end
open Go.RowKit
section
variable {P:Program} {w:Ζ} {K:Ε->Ζ->Prop}
def Sw{d:TypeDesc}{t:Ι}(ht:P.underlying t=some d){a b:Ε}{r:Bool}(n:Nat)(h:px d a b=some r):(Op.equalIn (n+1) t a b).run P w= .ok r w:=by
 unfold px at h;split at h<;>first|(cases h;done)|skip
 all_goals (cases h;simp only[Op.equalIn,Sem.run_bind,zzu ht,Result.andThen_ok,Sem.run_pure])
 all_goals first|rfl|(rename_i a _ _ _ _;cases a<;>rfl)|(rename_i a;cases a<;>rfl)|(rename_i a _;cases a<;>rfl)|skip
def Sv{d:TypeDesc}{t:Ι}(ht:P.underlying t=some d){a b:Ε}{r:Bool}(h:px d a b=some r):(Op.equal t a b).run P w= .ok r w:=Sw ht 9999 h
def J1{d:TypeDesc}{a b:Ε}{r:Bool}(h:px d a b=some r):(∀u,a≠.agg u)/\a≠.nilIface:=by
 unfold px at h;split at h<;>first|(cases h;done)|exact⟨(λu hu=>(by cases hu)),(λhu=>(by cases hu))⟩
def J0{d:TypeDesc}{t:Ι}(ht:P.underlying t=some d){a b:Ε}{r:Bool}(h:px d a b=some r):
  (binOp .eql t a b).run P w= .ok (.bool r) w/\(binOp .neq t a b).run P w= .ok (.bool !r) w:=by
 have hr:=Sv (w:=w) ht h;unfold px at h;split at h<;>first|(cases h;done)|skip
 all_goals exact⟨by simp only[binOp,Sem.run_bind,hr,Result.andThen_ok,Sem.run_pure],by simp only[binOp,Sem.run_bind,hr,Result.andThen_ok,Sem.run_pure]⟩
def Sy{d:TypeDesc}{t:Ι}{x y:Operand}{a b:Ε}(ht:P.underlying t=some d)(h:HEq d false a b λv=>K v w):
  dt P (do pure (.value (<- (do eqGuard .eql t x y a b;binOp .eql t a b)))) w K:=by
 obtain⟨r,hv,hk⟩:=h;obtain⟨h1,h2⟩:=J1 hv;refine .value (v:=.bool r) ?_ hk;simp only[Sem.run_bind,Cb .eql t x y a b h1 h2,Result.andThen_ok,(J0 ht hv).1]
def WK{d:TypeDesc}{t:Ι}{x y:Operand}{a b:Ε}(ht:P.underlying t=some d)(h:HEq d true a b λv=>K v w):
  dt P (do pure (.value (<- (do eqGuard .neq t x y a b;binOp .neq t a b)))) w K:=by
 obtain⟨r,hv,hk⟩:=h;obtain⟨h1,h2⟩:=J1 hv;refine .value (v:=.bool !r) ?_ hk;simp only[Sem.run_bind,Cb .neq t x y a b h1 h2,Result.andThen_ok,(J0 ht hv).2]
def Su{t:Ι}{x y:Operand}{a b:Ε}(hm:P.eqGuardType P.depth t=false)(h:ZB P t false a b w λv=>K v w):
  dt P (do pure (.value (<- (do eqGuard .eql t x y a b;binOp .eql t a b)))) w K:=by
 obtain⟨xs,ys,r,rfl,rfl,hv,hk⟩:=h;refine .value (v:=.bool r) ?_ hk;simp only[Sem.run_bind,run_eqGuard_agg w .eql t x y xs ys hm,Result.andThen_ok,binOp,hv,Sem.run_pure]
def WJ{t:Ι}{x y:Operand}{a b:Ε}(hm:P.eqGuardType P.depth t=false)(h:ZB P t true a b w λv=>K v w):
  dt P (do pure (.value (<- (do eqGuard .neq t x y a b;binOp .neq t a b)))) w K:=by
 obtain⟨xs,ys,r,rfl,rfl,hv,hk⟩:=h;refine .value (v:=.bool !r) ?_ hk;simp only[Sem.run_bind,run_eqGuard_agg w .neq t x y xs ys hm,Result.andThen_ok,binOp,hv,Sem.run_pure]
def WO{x:Ε}(h:yM x λv=>K v w):dt P (do pure (.value (<- Op.unary .not x))) w K:=by
 obtain⟨b,rfl,hk⟩:=h;exact .value rfl hk
def RH{x:Ε}(h:QZ x λv=>K v w):dt P (do pure (.value (<- Op.unary .xor x))) w K:=by
 obtain⟨k,n,rfl,hk⟩:=h;exact .value rfl hk
def WI{x:Ε}(h:EO x λv=>K v w):dt P (do pure (.value (<- Op.unary .neg x))) w K:=by
 obtain⟨k,n,rfl,hk⟩:=h;exact .value rfl hk
def RL{s d:Ι}{x:Ε}{k:IntKind}{e:TypeDesc}(hs:P.underlying s=some e)(hd:P.underlying d=some (.int k))(h:zC k x λv=>K v w):
  dt P (do pure (.value (<- convert s d x))) w K:=by
 obtain⟨j,n,rfl,hk⟩:=h;exact .value (by simp[convert,zzu hs,zzu hd,Conv.intToInt]) hk
def RM{s d:Ι}{x:Ε}(hs:P.underlying s=some .string)(hd:P.underlying d=some .string)(h:EN x λv=>K v w):
  dt P (do pure (.value (<- convert s d x))) w K:=by
 obtain⟨n,rfl,hk⟩:=h;exact .value (by simp[convert,zzu hs,zzu hd]) hk
def SA{x:Ε}{i:Nat}(h:zg i x λv=>K v w):dt P (do pure (.value (<- Instr.extract x i))) w K:=by
 obtain⟨vs,v,rfl,hv,hk⟩:=h;exact .value (by simp[Instr.extract,hv]) hk
def VI{t e ty:Ι}{x:Ε}(ht:P.underlying t=some (.slice e))(h:zd x λv=>K v w):dt P (do pure (.value (<- Builtin.len_ #[t] ty #[x]))) w K:=by
 obtain⟨a,n,c,rfl,hk⟩:=h;exact .value (by simp[Builtin.len_,zzu ht];rfl) hk
def VK{t ty:Ι}{x:Ε}(ht:P.underlying t=some .string)(h:yr x λv=>K v w):dt P (do pure (.value (<- Builtin.len_ #[t] ty #[x]))) w K:=by
 obtain⟨s,rfl,hk⟩:=h;exact .value (by simp[Builtin.len_,zzu ht];rfl) hk
def WA{ts:Array Ι}{ty:Ι}{x y:Ε}(h:YB x y λv=>K v w):dt P (do pure (.value (<- Builtin.min_ ts ty #[x,y]))) w K:=by
 obtain⟨k,a,b,rfl,rfl,hk⟩:=h;exact .value (run_min_int2 w ts ty k k a b) hk
def Wb{ts:Array Ι}{ty:Ι}{x y:Ε}(h:YA x y λv=>K v w):dt P (do pure (.value (<- Builtin.max_ ts ty #[x,y]))) w K:=by
 obtain⟨k,a,b,rfl,rfl,hk⟩:=h;exact .value (run_max_int2 w ts ty k k a b) hk
def oF{v:Ε}{d l y:Nat}{c:BoundsCode}(h:oE (some v) d l)(hl:l<=y):(Instr.sliceBound v y c).run P w= .ok l w:=by
 obtain⟨k,rfl⟩:=h;simp[Instr.sliceBound,asIntOf,hl]
def Jl{b:Bool}{len cap l h m:Nat}{lo hi mx:Option Ε}(hm:oE mx cap m)(hh:oE hi len h)(hl:oE lo 0 l)(h1:l<=h)(h2:h<=m)(h3:m<=cap)(hx:mx.isSome=true->hi.isSome=true):
  (Instr.sliceBounds b len cap lo hi mx).run P w= .ok (l,h,m) w:=by
 unfold Instr.sliceBounds;cases mx with
 | none=>
  have:m=cap:=hm;subst this;cases hi with
  | none=>
   have:h=len:=hh;subst this;cases lo with
   | none=>have:l=0:=hl;subst this;simp
   | some v=>simp[oF hl h1]
  | some u=>
   cases lo with
   | none=>have:l=0:=hl;subst this;simp[oF hh h2]
   | some v=>simp[oF hl h1,oF hh h2]
 | some x=>
  cases hi with
  | none=>simp at hx
  | some u=>
   cases lo with
   | none=>have:l=0:=hl;subst this;simp[oF hh h2,oF hm h3]
   | some v=>simp[oF hl h1,oF hh h2,oF hm h3]
def awz{t e:Ι}{n:Nat}{x:Ε}{lo hi mx:Option Ε}(ht:P.underlying t=some (.slice e))(hn:iH P e=some n)(hx:mx.isSome=true->hi.isSome=true)
  (h:dD n x lo hi mx λv=>K v w):dt P (do pure (.value (<- Instr.sliceAt t x lo hi mx))) w K:=by
 obtain⟨a,len,cap,l,h,m,rfl,hm,hh,hl,h1,h2,h3,hk⟩:=h;refine .value ?_ hk;simp[Instr.sliceAt,Instr.slice,zzu ht,Jl hm hh hl h1 h2 h3 hx,run_sizeOf hn]
def awy{t:Ι}{x:Ε}{lo hi:Option Ε}(ht:P.underlying t=some .string)
  (h:A8 x lo hi λv=>K v w):dt P (do pure (.value (<- Instr.sliceAt t x lo hi none))) w K:=by
 obtain⟨s,l,h,rfl,hh,hl,h1,h2,hk⟩:=h;refine .value ?_ hk;simp[Instr.sliceAt,Instr.slice,zzu ht,Jl (b:=false) (cap:=s.size) (m:=s.size) (mx:=none) rfl hh hl h1 h2 (zzz _) (by simp)]
def O6(z:Ξ)(hz:0<z.length):∀(n i:Nat) (h:i<n*z.length),(bq z n)[i]?=z[i % z.length]?
 | 0,i,h=>by simp at h
 | n+1,i,h=>by
  unfold bq;rw[List.replicate_succ,zzt];by_cases hi:i<z.length
  ·rw[zzs hi,wwm hi]
  rw[zz3 (by omega)];have:=O6 z hz n (i-z.length) (by rw[yyo]at h;omega);unfold bq at this;rw[this];congr 1
  conv=>rhs;rw[show i=(i-z.length)+z.length by omega,Nat.add_mod_right]
def jS(z:Ξ):∀n,(bq z n).length=n*z.length
 | 0=>by simp[bq]
 | n+1=>by
  have:=jS z n;unfold bq at *
  rw[List.replicate_succ,zzt,zza,this,yyo];omega
def EH(z:Array Ε)(n:Nat):(Array.range (n*z.size)).map (λi=>z[i % z.size]!)=(bq z.toList n).toArray:=by
 apply Array.ext
 ·simp[jS]
 intro i h1 h2;have hi:i<n*z.size:=by simpa using h1
 have hz:0<z.toList.length:=by
  rcases yy7 z.size with h|h
  ·rw[h]at hi;omega
  simpa using h
 have hg:=O6 z.toList hz n i (by simpa using hi);have hm:i % z.size<z.size:=uun _ (by simpa using hz);simp only[Array.getElem_map,Array.getElem_range,List.getElem_toArray];rw[zzc (by simpa [jS] using hi)]at hg
 simp only[Array.length_toList]at hg;rw[zzc (by simpa using hm)]at hg
 simp at hg;rw[hg,vv5 z (i % z.size) hm]
def WD{t e:Ι}{i:TypeInfo}{v:Ε}{x y:Ε}(ht:P.underlying t=some (.slice e))(hi:P.info? e=some i)(hv:i.zero=some v)(hn:iH P e=some v.cells.size)
  (h:uh v.cells.toList (o8 P e) e x y w K):dt P (do pure (.value (<- Instr.makeSlice t x y))) w K:=by
 obtain⟨n,c,kl,kc,rfl,rfl,hnc,hb,hc,hk⟩:=h;have ig:o8 P e=i.bytes:=by simp[o8,hi]
 have w1:IntKind.i64.wrap (((n:Nat):Int))=n:=xxu _ (by omega);have w2:IntKind.i64.wrap (((c:Nat):Int))=c:=xxu _ (by omega);refine .value ?_ hk;have h1:¬((i.bytes:Int)*(c:Int)>281474976710656):=by
  rw[ig]at hb
  have:((i.bytes*c:Nat):Int)<=281474976710656:=by omega
  simpa using this
 have hz:=EH v.cells c;by_cases h0:c*v.cells.size=0
 ·have:bq v.cells.toList c=[]:=zzm (by rw[jS];simpa using h0);simp[Instr.makeSlice,zzu ht,asInt,asIntOf,typeInfo,hi,w1,w2,run_sizeOf hn,tT hi hv,newRow,h0,this,h1,show ¬((c:Int)<0) by omega,show ¬((n:Int)<0) by omega,show ¬((n:Int)>c) by omega];rw[show Array.map (λ_=>(default:Ε)) (Array.range 0) = #[] from Array.eq_empty_of_size_eq_zero (by simp)]
 simp[Instr.makeSlice,zzu ht,asInt,asIntOf,typeInfo,hi,w1,w2,run_sizeOf hn,tT hi hv,newRow,h0,hz,h1,show ¬((c:Int)<0) by omega,show ¬((n:Int)<0) by omega,show ¬((n:Int)>c) by omega]
end
