/- Part. -/
import Derived.WalkLawsBesides
import Derived.Deep.RegionHeld3
import Derived.Deep.AppendLies
namespace Go.Proofs.YthohmpdacdmclaaGreatDoor
set_option linter.all false
open Go.RowKit
abbrev Κ:=UInt8
abbrev Ι:=TypeId
abbrev Η:=ByteArray
abbrev Ζ:=World
abbrev Ε:=Value
abbrev Α:=List Nat
abbrev Ω:=List Int
abbrev Ψ:=List Η
abbrev Φ:=List Κ
abbrev Ξ:=List Ε
abbrev Θ:Ε:= .slice none 0 0
abbrev Δ(b:Nat):Ε:= .pointer (some ⟨b,0,none⟩)
abbrev Γ(n:Int):Ε:= .int .i64 n
def yya:=@List.mem_cons
def zzu:=@run_underlying
def ww3:=@run_loadCells_list
def zzj:=@Nat.le_refl
def zz2:=@List.flatten_cons
def zzy:=@List.getElem?_append_left
def wwp:=@Nat.mod_eq_of_lt
def yyk:=@List.getElem?_append_right
def yyv:=@Nat.add_mul
def zza:=@List.length_append
def yy8:=@Nat.eq_zero_or_pos
def vvc:=@Nat.mod_lt
def zzd:=@List.getElem?_eq_getElem
def wws:=@getElem!_pos
def xx3:=@IntWalk.i64_in
def zzl:=@List.eq_nil_of_length_eq_zero
inductive gN where
 | v (x:Ε)
 | t
 | f
 | u
def gN.val:gN->Ε
 | .v x=>x
 | .t=>.bool true
 | .f=>.bool false
 | .u=>undef
abbrev Env:=List (Nat × gN)
def Env.get:Env->Nat->Option gN
 | [],_=>none
 | (k,e)::r,t=>match Nat.beq k t with
  | true=>some e
  | false=>Env.get r t
def Hq:Ε->gN
 | .bool true=>.t
 | .bool false=>.f
 | v=>.v v
def Env.gd(E:Env):Operand->Option gN
 | .tmp t=>E.get t
 | .const v=>some (Hq v)
 | .global g=>some (.v (Δ g))
 | .func f=>some (.v (.func (.func f) #[] #[]))
def Env.ev(E:Env)(x:Operand):Ε:=match E.gd x with
 | some e=>e.val
 | none=>undef
def Env.has(E:Env)(x:Operand):Bool:=match E.gd x with
 | some _=>true
 | none=>false
def Env.hasAll(E:Env):List Operand->Bool
 | []=>true
 | x::r=>match E.has x with
  | true=>Env.hasAll E r
  | false=>false
def Env.put(n:Nat)(E:Env)(d:Option Nat)(e:gN):Env:=match d with
 | none=>E
 | some d=>match Nat.blt d n with
  | true=>(d,e)::E
  | false=>E
def a_e(v:Ε):(Hq v).val=v:=by
 unfold Hq;split<;>rfl
structure eC(X:Α)(n:Nat)(E:Env)(a:Act):Prop where
 size:a.tmps.size=n
 defers:a.defers=[]
 get:∀t e,t∉X->E.get t=some e->a.tmps[t]?=some e.val
def vV(X:Α)(x:Operand):Prop:=∀t,x= .tmp t->t∉X
def vV.nil(x:Operand):vV [] x:=λ_ _ h=>by cases h
def eC.gd{X:Α}{n:Nat}{E:Env}{a:Act}(h:eC X n E a){x:Operand}(hX:vV X x){e:gN}(he:E.gd x=some e):a.eval x=e.val:=by
 cases x with
 | tmp t=>
  have:=h.get t e (hX t rfl) he;simp[Act.eval,Array.getD_eq_getD_getElem?,this]
 | const v=>simp[Env.gd]at he;subst he;exact (a_e v).symm
 | global g=>simp[Env.gd]at he;subst he;rfl
 | func f=>simp[Env.gd]at he;subst he;rfl
def eC.ev{X:Α}{n:Nat}{E:Env}{a:Act}(h:eC X n E a){x:Operand}(hX:vV X x)(hx:E.has x=true):a.eval x=E.ev x:=by
 unfold Env.has at hx;unfold Env.ev;split at hx
 ·rename_i e he;exact h.gd hX he
 cases hx
def Env.EE{E:Env}:∀{l:List Operand},E.hasAll l=true->∀x∈l,E.has x=true
 | [],_,x,hx=>by cases hx
 | y::r,h,x,hx=>by
  unfold Env.hasAll at h;split at h
  ·rename_i hy;rcases yya.1 hx with rfl|hx
   ·exact hy
   exact Env.EE h x hx
  cases h
def beq_iff{k t:Nat}:Nat.beq k t=true↔k=t:=⟨Nat.eq_of_beq_eq_true,λh=>by subst h;exact Nat.beq_refl k⟩
def eC.put{X:Α}{n:Nat}{E:Env}{a:Act}(h:eC X n E a)(d:Option Nat)(e:gN):eC X n (E.put n d e) (a.put d e.val):=by
 cases d with
 | none=>exact h
 | some d=>
  unfold Env.put;refine⟨by simp[Act.put,h.size],h.defers,λt e' hX he=>?_⟩;cases hb:Nat.blt d n with
  | true=>
   simp only[hb]at he;have b9:d<n:=Nat.le_of_ble_eq_true hb;simp only[Env.get]at he;cases hk:Nat.beq d t with
   | true=>
    rw[hk]at he;cases he
    obtain rfl:=beq_iff.1 hk;simp[Act.put,h.size,b9]
   | false=>
    rw[hk]at he
    have cY:d≠t:=λx=>by rw[beq_iff.2 x]at hk;cases hk
    simp[Act.put,Array.getElem?_setIfInBounds_ne cY,h.get t e' hX he]
  | false=>
   simp only[hb]at he;have b9:¬d<n:=λhl=>by
    have:Nat.blt d n=true:=Nat.ble_eq_true_of_le hl;rw[hb]at this;cases this
   simp only[Act.put];rw[Array.setIfInBounds_eq_of_size_le (by rw[h.size];omega)];exact h.get t e' hX he
inductive TK where
 | one
 | agg (n:Nat)
 | bad
def tk(P:Program)(t:Ι):TK:=match P.underlying t with
 | some (.struct _)=>match P.info? t with
  | some i=>.agg i.size
  | none=>.bad
 | some (.array _ _)=>match P.info? t with
  | some i=>.agg i.size
  | none=>.bad
 | some _=>match P.info? t with
  | some _=>.one
  | none=>.bad
 | none=>.bad
def kA(P:Program)(t:Ι):Option Nat:=match P.info? t with
 | some i=>some i.size
 | none=>none
def uD(P:Program)(t:Ι):Nat:=match P.info? t with
 | some i=>i.bytes
 | none=>0
def vP(P:Program)(t:Ι):Option Ξ:=match P.info? t with
 | some i=>match i.zero with
  | some z=>some z.cells.toList
  | none=>none
 | none=>none
def zQ(P:Program)(s:Sem Ε)(w:Ζ)(K:Ε->Ζ->Prop):Prop:=∃v w',s.run P w= .ok v w'/\K v w'
def dP(P:Program)(s:Sem Ε)(w:Ζ)(K:Ε->Prop):Prop:=∃v,s.run P w= .ok v w/\K v
def bu(x:Ε)(w:Ζ)(K:Ε->Prop):Prop:=∃a v,x= .pointer (some a)/\w.cell? a=some v/\K v
def zf(n:Nat)(x:Ε)(w:Ζ)(K:Ε->Prop):Prop:=
 ∃(a:Addr) (vs:Ξ),x= .pointer (some a)/\vs.length=n/\(∀j v,vs[j]?=some v->w.cell? (a.add j)=some v)/\K (.agg vs.toArray)
def dj(x v:Ε)(w:Ζ)(K:Ζ->Prop):Prop:=∃a u,x= .pointer (some a)/\v.oneCell'=true/\w.cell? a=some u/\w.frozen? a=false/\K (w.setCell a v)
def tg:Addr->Nat->Ξ->Ζ->(Ζ->Prop)->Prop
 | _,_,[],w,K=>K w
 | a,i,v::r,w,K=>v.oneCell'=true/\(∃u,w.cell? (a.add i)=some u)/\w.frozen? (a.add i)=false/\tg a (i+1) r (w.setCell (a.add i) v) K
def zj(n:Nat)(x v:Ε)(w:Ζ)(K:Ζ->Prop):Prop:=
 ∃(a:Addr) (vs:Ξ),x= .pointer (some a)/\v= .agg vs.toArray/\vs.length=n/\tg a 0 vs w K
def zh(cs:Ξ)(t:Ι)(w:Ζ)(K:Ε->Ζ->Prop):Prop:=K (Δ w.heap.size) (w.alloc (.cells cs.toArray t))
def qd(x:Ε)(K:Ε->Prop):Prop:=∃a,x= .pointer (some a)/\K (.pointer (some a))
def zk(off:Nat)(x:Ε)(K:Ε->Prop):Prop:=∃a,x= .pointer (some a)/\K (.pointer (some (a.add off)))
def zl(sz:Nat)(x i:Ε)(K:Ε->Prop):Prop:=
 ∃(a:Addr) (len cap:Nat) (k:IntKind) (j:Nat),x= .slice (some a) len cap/\i= .int k (((j:Nat):Int))/\j<len/\K (.pointer (some (a.add (j*sz))))
def yD(sz n:Nat)(x i:Ε)(K:Ε->Prop):Prop:=
 ∃(a:Addr) (k:IntKind) (j:Nat),x= .pointer (some a)/\i= .int k (((j:Nat):Int))/\j<n/\K (.pointer (some (a.add (j*sz))))
def ze(i:Nat)(x:Ε)(K:Ε->Prop):Prop:=∃vs v,x= .tuple vs/\vs[i]?=some v/\K v
def zd(x:Ε)(K:Ε->Prop):Prop:=∃a n c,x= .slice a n c/\K (Γ n)
def zS(x:Ε)(K:Ε->Prop):Prop:=∃s,x= .string s/\K (Γ s.size)
def zJ(P:Program)(f:FuncId)(args:Ξ)(w:Ζ)(K:Ε->Ζ->Prop):Prop:=
 Calls P f args.toArray w λe w'=>∃v,e= .returned v/\K v w'
def iJ:BinOp->Ε->Ε->Option Ε
 | .shl,.int k a,.int _ b=>if b<0 then none else some (.int k (k.wrap (a*2 ^ (min b.toNat k.bits))))
 | .shr,.int k a,.int _ b=>if b<0 then none else some (.int k (a.fdiv (2 ^ (min b.toNat k.bits))))
 | .add,.int k a,.int k' b=>if k=k' then some (.int k (k.wrap (a+b))) else none
 | .sub,.int k a,.int k' b=>if k=k' then some (.int k (k.wrap (a-b))) else none
 | .mul,.int k a,.int k' b=>if k=k' then some (.int k (k.wrap (a*b))) else none
 | .quo,.int k a,.int k' b=>if k=k' then if b=0 then none else some (.int k (k.wrap (a.tdiv b))) else none
 | .rem,.int k a,.int k' b=>if k=k' then if b=0 then none else some (.int k (a.tmod b)) else none
 | .and,.int k a,.int k' b=>if k=k' then some (.int k (k.wrap (BitVec.ofInt k.bits a &&& BitVec.ofInt k.bits b).toNat)) else none
 | .or,.int k a,.int k' b=>if k=k' then some (.int k (k.wrap (BitVec.ofInt k.bits a ||| BitVec.ofInt k.bits b).toNat)) else none
 | .xor,.int k a,.int k' b=>if k=k' then some (.int k (k.wrap (BitVec.ofInt k.bits a ^^^ BitVec.ofInt k.bits b).toNat)) else none
 | .eql,.int k a,.int k' b=>if k=k' then some (.bool (a == b)) else none
 | .neq,.int k a,.int k' b=>if k=k' then some (.bool (a != b)) else none
 | .lss,.int k a,.int k' b=>if k=k' then some (.bool (decide (a<b))) else none
 | .leq,.int k a,.int k' b=>if k=k' then some (.bool (decide (a<=b))) else none
 | .gtr,.int k a,.int k' b=>if k=k' then some (.bool (decide (a>b))) else none
 | .geq,.int k a,.int k' b=>if k=k' then some (.bool (decide (a≥b))) else none
 | .add,.string a,.string b=>if ((a.size+b.size:Nat):Int)>IntKind.i64.max then none else some (.string (a++b))
 | .eql,.string a,.string b=>some (.bool (a.toList == b.toList))
 | .neq,.string a,.string b=>some (.bool (!(a.toList == b.toList)))
 | .lss,.string a,.string b=>some (.bool (Op.bytesLess a.toList b.toList))
 | _,_,_=>none
def zc(op:BinOp)(x y:Ε)(K:Ε->Prop):Prop:=∃v,iJ op x y=some v/\K v
def uX:TypeDesc->Ε->Ε->Option Bool
 | .bool,.bool a,.bool b=>some (a == b)
 | .pointer _,.pointer none,.pointer b=>some b.isNone
 | .pointer _,.pointer (some _),.pointer none=>some false
 | .slice _,.slice a _ _,.slice none _ _=>some a.isNone
 | .map _ _,.map a,.map none=>some a.isNone
 | .func _ _ _,.nilFunc,.nilFunc=>some true
 | .func _ _ _,.func _ _ _,.nilFunc=>some false
 | _,_,_=>none
def HEq(d:TypeDesc)(neg:Bool)(x y:Ε)(K:Ε->Prop):Prop:=∃b,uX d x y=some b/\K (.bool (match neg with|true=>!b|false=>b))
def xG(P:Program)(t:Ι)(neg:Bool)(x y:Ε)(w:Ζ)(K:Ε->Prop):Prop:=
 ∃xs ys b,x= .agg xs/\y= .agg ys/\(Op.equal t x y).run P w= .ok b w/\K (.bool (match neg with|true=>!b|false=>b))
open Go.RowKit
def zU(P:Program)(T:List Bool)(g:Ε)(args:Ξ)(w:Ζ)(K:Ε->Ζ->Prop):Prop:=
 ∃f first captured,g= .func (.func f) first captured/\T.getD f false=true/\zJ P f (first.toList++args++captured.toList) w K
def Qi(P:Program)(f:FuncId)(args:Ξ)(w:Ζ)(K:Ε->Ζ->Prop):Prop:=∃v w',(callFunc f args.toArray).run P w= .ok (.value v) w'/\K v w'
def zM(k:IntKind)(x:Ε)(K:Ε->Prop):Prop:=∃j n,x= .int j n/\K (.int k (k.wrap n))
def KX(x:Ε)(K:Ε->Prop):Prop:=∃s,x= .string s/\K (.string s)
def y7(x:Ε)(K:Ε->Prop):Prop:=∃b,x= .bool b/\K (.bool !b)
def Br(x:Ε)(K:Ε->Prop):Prop:=∃k n,x= .int k n/\K (.int k (k.wrap (BitVec.ofInt k.bits (if k.signed then -1 else k.max) ^^^ BitVec.ofInt k.bits n).toNat))
def KY(x:Ε)(K:Ε->Prop):Prop:=∃k n,x= .int k n/\K (.int k (k.wrap (0-n)))
def nu:Option Ε->Nat->Nat->Prop
 | none,d,l=>l=d
 | some v,_,l=>∃k,v= .int k (((l:Nat):Int))
def dQ(sz:Nat)(x:Ε)(lo hi mx:Option Ε)(K:Ε->Prop):Prop:=
 ∃a len cap l h m,x= .slice a len cap/\nu mx cap m/\nu hi len h/\nu lo 0 l/\l<=h/\h<=m/\m<=cap /\
  K (.slice (if m=l then a else a.map (·.add (l*sz))) (h-l) (m-l))
def y8(x:Ε)(lo hi:Option Ε)(K:Ε->Prop):Prop:=
 ∃s l h,x= .string s/\nu hi s.size h/\nu lo 0 l/\l<=h/\h<=s.size/\K (.string (s.extract l h))
def ZW(x y:Ε)(K:Ε->Prop):Prop:=∃k a b,x= .int k a/\y= .int k b/\K (.int k (if b<a then b else a))
def y6(x y:Ε)(K:Ε->Prop):Prop:=∃k a b,x= .int k a/\y= .int k b/\K (.int k (if b>a then b else a))
def bE(z:Ξ)(n:Nat):Ξ:=(List.replicate n z).flatten
def Bs(z:Ξ)(bytes:Nat)(e:Ι)(x y:Ε)(w:Ζ)(K:Ε->Ζ->Prop):Prop:=
 ∃(n c:Nat) (kl kc:IntKind),x= .int kl (((n:Nat):Int))/\y= .int kc (((c:Nat):Int))/\n<=c/\bytes*c<=281474976710656/\c<9223372036854775808 /\
  K (.slice (some ⟨w.heap.size,0,none⟩) n c) (w.alloc (.cells (bE z c).toArray e))
def gT:Ξ->List (Nat × Nat × Ε)->Option Ξ
 | cells,[]=>some cells
 | cells,(off,size,v)::r=>
  if v.cells.size=size/\off+size<=cells.length then gT (cells.take off++v.cells.toList++cells.drop (off+size)) r else none
def zo(z:Ξ)(ps:List (Nat × Nat × Ε))(K:Ε->Prop):Prop:=∃cells,gT z ps=some cells/\K (.agg cells.toArray)
def zm(z:Ξ)(ps:List (Nat × Nat × Ε))(e:Ι)(len:Nat)(w:Ζ)(K:Ε->Ζ->Prop):Prop:=
 ∃cells,gT z ps=some cells/\K (.slice (some ⟨w.heap.size,0,none⟩) len len) (w.alloc (.cells cells.toArray e))
def jw(w:Ζ)(sz:Nat)(y:Ε)(n:Nat)(cs:Ξ):Prop:=
 match y with
 | .slice (some b) len _=>n=len/\cs.length=n*sz/\∀j v,cs[j]?=some v->w.cell? (b.add j)=some v
 | .slice none len _=>n=len/\cs=[]
 | .string s=>n=s.size/\cs=s.data.toList.map λb=>.int .u8 b.toNat
 | _=>False
def zt(sz bytes:Nat)(z:Ξ)(e:Ι)(x y:Ε)(w:Ζ)(K:Ε->Ζ->Prop):Prop:=
 ∃a len cap n cs,x= .slice a len cap/\jw w sz y n cs/\(len+n)*bytes<=140737488355328/\len+n<=140737488355328 /\
  (len+n<=cap->match a with
   | some p=>tg (p.add (len*sz)) 0 cs w λw'=>K (.slice (some p) (len+n) cap) w'
   | none=>K (.slice none (len+n) cap) w) /\
  (cap<len+n->∃mZ,jw w sz x len mZ/\∀c,len+n<=c->c<=9223372036854775807 ->
   K (.slice (some ⟨w.heap.size,0,none⟩) (len+n) c) (w.drew.alloc (.cells (mZ++cs++bE z (c-(len+n))).toArray e)))
def Af(P:Program):List Field->Option (List (Nat × Nat))
 | []=>some []
 | f::r=>match kA P f.type with
  | some n=>match Af P r with
   | some l=>some ((f.offset,n)::l)
   | none=>none
  | none=>none
def p7(pl:List (Nat × Nat))(ev:Operand->Ε):List (Nat × Operand)->Option (List (Nat × Nat × Ε))
 | []=>some []
 | (i,x)::r=>match pl[i]? with
  | some (off,n)=>match p7 pl ev r with
   | some l=>some ((off,n,ev x)::l)
   | none=>none
  | none=>none
def HW(P:Program)(s:Ι)(f:Nat):Option Nat:=match P.underlying s with
 | some (.struct fields)=>match fields[f]? with
  | some d=>match kA P d.type with
   | some (_+1)=>some d.offset
   | _=>none
  | none=>none
 | _=>none
def dZ(P:Program)(T:List Bool)(o:Op)(ty:Ι)(ev:Operand->Ε)(w:Ζ)(K:Ε->Ζ->Prop):Prop:=
 match o with
 | .move x=>K (ev x) w
 | .assign x=>K (ev x) w
 | .alloc e=>match vP P e with
  | some z=>zh z e w K
  | none=>False
 | .box e x=>match tk P e with
  | .one=>(ev x).oneCell'=true/\zh [ev x] e w K
  | .agg _=>∃vs:Ξ,ev x= .agg vs.toArray/\zh vs e w K
  | .bad=>False
 | .build t ps=>match P.underlying t with
  | some (.struct fields)=>match vP P t with
   | some z=>match Af P fields.toList with
    | some pl=>match p7 pl ev ps.toList with
     | some l=>zo z l λv=>K v w
     | none=>False
    | none=>False
   | none=>False
  | _=>False
 | .buildSlice t len ps=>match P.underlying t with
  | some (.slice e)=>match vP P e with
   | some z=>match kA P e with
    | some n=>match p7 ((List.range len).map λi=>(i*n,n)) ev ps.toList with
     | some l=>match Nat.beq n z.length,Nat.ble (len*n) 16777216 with
      | true,true=>zm (bE z len) l e len w K
      | _,_=>False
     | none=>False
    | none=>False
   | none=>False
  | _=>False
 | .load t x=>match tk P t with
  | .one=>bu (ev x) w λv=>K v w
  | .agg n=>zf n (ev x) w λv=>K v w
  | .bad=>False
 | .store t x v=>match tk P t with
  | .one=>match kA P t with
   | some 1=>dj (ev x) (ev v) w λw'=>K undef w'
   | _=>False
  | .agg n=>zj n (ev x) (ev v) w λw'=>K undef w'
  | .bad=>False
 | .nilCheck x=>qd (ev x) λv=>K v w
 | .binOp op t x y _=>match op,P.underlying t with
  | _,some (.int _)=>zc op (ev x) (ev y) λv=>K v w
  | _,some .string=>zc op (ev x) (ev y) λv=>K v w
  | .eql,some (.struct _)=>match P.eqGuardType P.depth t with
   | false=>xG P t false (ev x) (ev y) w λv=>K v w
   | true=>False
  | .neq,some (.struct _)=>match P.eqGuardType P.depth t with
   | false=>xG P t true (ev x) (ev y) w λv=>K v w
   | true=>False
  | .eql,some d=>HEq d false (ev x) (ev y) λv=>K v w
  | .neq,some d=>HEq d true (ev x) (ev y) λv=>K v w
  | _,_=>False
 | .unOp .not _ x=>y7 (ev x) λv=>K v w
 | .unOp .neg _ x=>KY (ev x) λv=>K v w
 | .unOp .xor _ x=>Br (ev x) λv=>K v w
 | .convert s d x=>match P.underlying s,P.underlying d with
  | some _,some (.int k)=>zM k (ev x) λv=>K v w
  | some .string,some .string=>KX (ev x) λv=>K v w
  | some .string,some (.slice _)=>zQ P (convert s d (ev x)) w K
  | some (.slice _),some (.slice _)=>zQ P (convert s d (ev x)) w K
  | _,_=>dP P (convert s d (ev x)) w λv=>K v w
 | .makeFunc fn first captured=>match fn with
  | .func f=>K (.func (.func f) (first.toList.map ev).toArray (captured.toList.map ev).toArray) w
  | _=>False
 | .makeSlice t x y=>match P.underlying t with
  | some (.slice e)=>match vP P e with
   | some z=>match kA P e with
    | some n=>match Nat.beq n z.length with
     | true=>Bs z (uD P e) e (ev x) (ev y) w K
     | false=>False
    | none=>False
   | none=>False
  | _=>False
 | .slice t x lo hi mx=>match P.underlying t with
  | some (.slice e)=>match kA P e with
   | some n=>match mx,hi with
    | some _,none=>False
    | _,_=>dQ n (ev x) (lo.map ev) (hi.map ev) (mx.map ev) λv=>K v w
   | none=>False
  | some .string=>match mx with
   | none=>y8 (ev x) (lo.map ev) (hi.map ev) λv=>K v w
   | some _=>False
  | _=>False
 | .fieldAddr s x f=>match HW P s f with
  | some off=>zk off (ev x) λv=>K v w
  | none=>False
 | .indexAddr t x i=>match P.underlying t with
  | some (.slice e)=>match kA P e with
   | some n=>zl n (ev x) (ev i) λv=>K v w
   | none=>False
  | some (.array len e)=>match kA P e with
   | some n=>yD n len (ev x) (ev i) λv=>K v w
   | none=>False
  | _=>False
 | .extract x i=>ze i (ev x) λv=>K v w
 | .field t x f=>dP P (Instr.field t (ev x) f) w λv=>K v w
 | .index t x i=>dP P (Instr.index t (ev x) (ev i)) w λv=>K v w
 | .lookup t x i ok=>dP P (Instr.lookup t (ev x) (ev i) ok) w λv=>K v w
 | .mapUpdate t m k x=>zQ P (do Instr.mapUpdate t (ev m) (ev k) (ev x);pure undef) w K
 | .insert t m k x=>zQ P (do Instr.mapUpdate t (ev m) (ev k) (ev x);pure undef) w K
 | .mapEntry t m k=>zQ P (Instr.mapEntry t (ev m) (ev k)) w K
 | .entryStore t m s x=>zQ P (do Instr.entryStore t (ev m) (ev s) (ev x);pure undef) w K
 | .makeMap t none=>K (.map (some w.heap.size)) (w.alloc (.map #[] 0))
 | .call c=>match c.callee with
  | .value (.func f)=>match T.getD f false with
   | true=>zJ P f (c.args.toList.map ev) w K
   | false=>Qi P f (c.args.toList.map ev) w K
  | .value (.tmp t)=>zU P T (ev (.tmp t)) (c.args.toList.map ev) w K
  | .builtin .len=>match c.args.toList,c.argTypes.toList with
   | [x],[t]=>match P.underlying t with
    | some (.slice _)=>zd (ev x) λv=>K v w
    | some .string=>zS (ev x) λv=>K v w
    | _=>dP P (Builtin.len_ #[t] ty #[ev x]) w λv=>K v w
   | _,_=>False
  | .builtin .min=>match c.args.toList with
   | [x,y]=>ZW (ev x) (ev y) λv=>K v w
   | _=>False
  | .builtin .max=>match c.args.toList with
   | [x,y]=>y6 (ev x) (ev y) λv=>K v w
   | _=>False
  | .builtin .append=>match c.args.toList,c.argTypes.toList with
   | [x,y],[t,u]=>match P.underlying t with
    | some (.slice e)=>match vP P e with
     | some z=>match kA P e with
      | some n=>match Nat.beq n z.length,P.underlying u with
       | true,some (.slice _)=>zt n (uD P e) z e (ev x) (ev y) w K
       | true,some .string=>zt n (uD P e) z e (ev x) (ev y) w K
       | true,some (.int _)=>zQ P (Builtin.append_ #[t,u] ty #[ev x,ev y]) w K
       | _,_=>False
      | none=>False
     | none=>False
    | _=>False
   | _,_=>False
  | .builtin .copy=>zQ P (Builtin.copy_ c.argTypes ty (c.args.toList.map ev).toArray) w K
  | .builtin .delete=>zQ P (Builtin.delete_ c.argTypes ty (c.args.toList.map ev).toArray) w K
  | .builtin .cap=>dP P (Builtin.cap_ c.argTypes ty (c.args.toList.map ev).toArray) w λv=>K v w
  | .builtin .clear=>zQ P (Builtin.clear_ c.argTypes ty (c.args.toList.map ev).toArray) w K
  | _=>False
 | _=>False
open Go.RowKit
def Y' (P : Program) (f : FuncId) : Prop := ∃ fn, P.funcs[f]? = some fn /\ (fn.name == "runtime.NumGoroutine") = false /\ fn.body.isNone = false
def Calls.oM(P:Program)(T:List Bool):Prop:=∀f,T.getD f false=true->Y' P f
def eP(P:Program)(s:Sem Next)(w:Ζ)(K:Ε->Ζ->Prop):Prop:=
 (∃v w',s.run P w= .ok (.value v) w'/\K v w')\/(∃w',s.run P w= .ok .skip w'/\K undef w') \/
 (∃f args,s.run P w= .ok (.enter f args) w/\Calls P f args w λe w'=>∃v,e= .returned v/\K v w')
def eP.upon{P:Program}{o:Oper}{a:Act}{w:Ζ}{K:Ε->Ζ->Prop}{next:Act->Ζ->Prop}{Q:Exit->Act->Ζ->Prop}
  (h:eP P (execOp a.eval o) w K) (hn:∀v w',K v w'->next (a.put o.dst v) w'):o.wp P a w next Q:=by
 unfold Oper.wp;rcases h with ⟨v,w',hr,hk⟩|⟨w',hr,hk⟩|⟨f,args,hr,hk⟩
 ·rw[hr];exact hn _ _ hk
 ·rw[hr];exact hn _ _ hk
 rw[hr];refine hk.mono ?_;rintro e w' ⟨v,rfl,hk⟩;exact hn _ _ hk
def eP.value{P:Program}{s:Sem Ε}{w w':Ζ}{K:Ε->Ζ->Prop}{v:Ε}(h:s.run P w= .ok v w')(hk:K v w'):
  eP P (do pure (.value (<- s))) w K:=.inl ⟨v,w',by simp[h],hk⟩
def zQ.nY{P:Program}{s:Sem Ε}{w:Ζ}{K:Ε->Ζ->Prop}(h:zQ P s w K):eP P (do pure (.value (<- s))) w K:=by
 obtain⟨v,w',h1,h2⟩:=h;exact .value h1 h2
def dP.nY{P:Program}{s:Sem Ε}{w:Ζ}{K:Ε->Ζ->Prop}(h:dP P s w λv=>K v w):eP P (do pure (.value (<- s))) w K:=by
 obtain⟨v,h1,h2⟩:=h;exact .value h1 h2
def run_sizeOf{P:Program}{t:Ι}{n:Nat}(h:kA P t=some n)(w:Ζ):(sizeOf t).run P w= .ok n w:=by
 unfold kA at h;split at h
 ·rename_i i hi;cases h;simp[sizeOf,typeInfo,hi]
 cases h
def yC{P:Program}{t:Ι}{z:Ξ}(h:vP P t=some z):∃i v,P.info? t=some i/\i.zero=some v/\v.cells.toList=z:=by
 unfold vP at h;split at h
 ·rename_i i hi;split at h
  ·rename_i v hv;cases h;exact⟨i,v,hi,hv,rfl⟩
  cases h
 cases h
def A7{P:Program}{t:Ι}{i:TypeInfo}{v:Ε}(h:P.info? t=some i)(hv:i.zero=some v)(w:Ζ):(zeroValue t).run P w= .ok v w:=by
 simp[zeroValue,typeInfo,h,hv]
def XA{P:Program}{t:Ι}(h:tk P t= .one):(∀w,(isAgg t).run P w= .ok false w)/\∃i,P.info? t=some i:=by
 unfold tk at h;split at h
 ·split at h<;>cases h
 ·split at h<;>cases h
 ·rename_i d h1 h2 hd;split at h
  ·rename_i i hi;refine⟨λw=>?_,i,hi⟩;simp only[isAgg,Sem.run_bind,zzu hd,Result.andThen_ok];rfl
  cases h
 cases h
def Dz{P:Program}{t:Ι}{n:Nat}(h:tk P t= .agg n):(∀w,(isAgg t).run P w= .ok true w)/\kA P t=some n:=by
 unfold tk at h;split at h
 ·rename_i fs hd;split at h
  ·rename_i i hi;cases h;exact⟨λw=>by simp[isAgg,zzu hd],by simp[kA,hi]⟩
  cases h
 ·rename_i k e hd;split at h
  ·rename_i i hi;cases h;exact⟨λw=>by simp[isAgg,zzu hd],by simp[kA,hi]⟩
  cases h
 ·split at h<;>cases h
 cases h
section
variable {P:Program} {w:Ζ} {K:Ε->Ζ->Prop}
def zh.run{z:Ξ}{v:Ε}{e:Ι}(hz:v.cells.toList=z)(h:zh z e w K):∃u w',(do pure (Value.pointer (some (<- newVar e v))):Sem Ε).run P w= .ok u w'/\K u w':=by
 refine⟨_,_,rfl,?_⟩;unfold zh at h;subst hz;rw[Array.toArray_toList]at h
 exact h
def aIb{e:Ι}{z:Ξ}(hz:vP P e=some z)(h:zh z e w K):eP P (do pure (.value (<- Instr.alloc e true (.tuple #[])))) w K:=by
 obtain⟨i,v,hi,hv,rfl⟩:=yC hz;obtain⟨u,w',hr,hk⟩:=zh.run (P:=P) rfl h;refine .value ?_ hk;rw[<- hr];have:=Sem.run_bind' P (zeroValue e) (λzero=>(do pure (Value.pointer (some (<- newVar e zero))):Sem Ε)) w;rw[A7 hi hv]at this
 exact this
def Rf{e:Ι}{x:Ε}{z:Ξ}(hz:x.cells.toList=z)(h:zh z e w K):eP P (do pure (.value (<- Instr.box e x))) w K:=by
 obtain⟨u,w',hr,hk⟩:=zh.run (P:=P) hz h;exact .value hr hk
def bnu{t:Ι}{x:Ε}(ht:tk P t= .one)(h:bu x w λv=>K v w):eP P (do pure (.value (<- Instr.loadAt t x))) w K:=by
 obtain⟨a,v,rfl,hc,hk⟩:=h;refine .value (v:=v) ?_ hk;simp[Instr.loadAt,Instr.sureAddr,loadVar,(XA ht).1,hc]
def bn2{t:Ι}{n:Nat}{x:Ε}(ht:tk P t= .agg n)(h:zf n x w λv=>K v w):eP P (do pure (.value (<- Instr.loadAt t x))) w K:=by
 obtain⟨a,vs,rfl,hl,hc,hk⟩:=h;subst hl;refine .value (v:=.agg vs.toArray) ?_ hk;simp[Instr.loadAt,Instr.sureAddr,loadVar,(Dz ht).1,run_sizeOf (Dz ht).2,ww3 w a vs hc]
def ux{v:Ε}(h:v.oneCell'=true):v.cells = #[v]:=by
 cases v<;>first|rfl|cases h
def WH{a:Addr}{v u:Ε}(hv:v.oneCell'=true)(hc:w.cell? a=some u)(hf:w.frozen? a=false):(store a v).run P w= .ok () (w.setCell a v):=by
 rw[run_store P w a v _ hv,hc];simp[hf]
def bz7{t:Ι}{x v:Ε}(ht:tk P t= .one)(hs:kA P t=some 1)(h:dj x v w λw'=>K undef w'):eP P (do Instr.storeAt t x v;pure .skip) w K:=by
 obtain⟨a,u,rfl,hv,hc,hf,hk⟩:=h;refine .inr (.inl ⟨_,?_,hk⟩);have h0:a.add 0=a:=rfl;simp[Instr.storeAt,Instr.sureAddr,storeVar,ux hv,run_sizeOf hs,storeCells,h0,WH hv hc hf]
def Kn:∀(vs:Ξ) (a:Addr) (i:Nat) (w:Ζ) (K:Ζ->Prop),tg a i vs w K->∃w',(storeCells a vs i).run P w= .ok () w'/\K w'
 | [],a,i,w,K,h=>⟨w,by simp[storeCells],h⟩
 | v::r,a,i,w,K,⟨hv,⟨u,hc⟩,hf,h⟩=>by
  obtain⟨w',hr,hk⟩:=Kn r a (i+1) _ K h;exact⟨w',by simp[storeCells,WH hv hc hf,hr],hk⟩
def bz8{t:Ι}{n:Nat}{x v:Ε}(ht:tk P t= .agg n)(h:zj n x v w λw'=>K undef w'):eP P (do Instr.storeAt t x v;pure .skip) w K:=by
 obtain⟨a,vs,rfl,rfl,hl,hk⟩:=h;obtain⟨w',hr,hk⟩:=Kn (P:=P) _ _ _ _ _ hk;refine .inr (.inl ⟨w',?_,hk⟩);simp[Instr.storeAt,Instr.sureAddr,storeVar,run_sizeOf (Dz ht).2,Value.cells,hl,hr]
def bfh{s:Ι}{x:Ε}{f off:Nat}(hf:HW P s f=some off)(h:zk off x λv=>K v w):eP P (do pure (.value (<- Instr.fieldAt s x f))) w K:=by
 obtain⟨a,rfl,hk⟩:=h;unfold HW at hf;split at hf
 ·rename_i fields hs;split at hf
  ·rename_i d hd;split at hf
   ·rename_i n hn;cases hf;refine .value ?_ hk;simp[Instr.fieldAt,zzu hs,hd,Instr.sureAddr,fieldPlace,run_sizeOf hn]
   cases hf
  cases hf
 cases hf
def bmb{t e:Ι}{n:Nat}{x i:Ε}(ht:P.underlying t=some (.slice e))(hn:kA P e=some n)(h:zl n x i λv=>K v w):eP P (do pure (.value (<- Instr.indexAt t x i))) w K:=by
 obtain⟨a,len,cap,k,j,rfl,rfl,b9,hk⟩:=h;refine .value ?_ hk;simp[Instr.indexAt,zzu ht,asIntOf,run_sizeOf hn,b9]
def bma{t e:Ι}{n len:Nat}{x i:Ε}(ht:P.underlying t=some (.array len e))(hn:kA P e=some n)(h:yD n len x i λv=>K v w):eP P (do pure (.value (<- Instr.indexAt t x i))) w K:=by
 obtain⟨a,k,j,rfl,rfl,b9,hk⟩:=h;refine .value ?_ hk;simp[Instr.indexAt,zzu ht,asIntOf,run_sizeOf hn,b9,Instr.sureAddr]
def HH(op:BinOp)(t:Ι)(x y:Operand)(a b:Ε)(ha:∀u,a≠.agg u)(hb:a≠.nilIface):(eqGuard op t x y a b).run P w= .ok () w:=by
 cases a<;>simp_all [eqGuard]
def aRp{op:BinOp}{a b v:Ε}(t:Ι)(h:iJ op a b=some v):((∀u,a≠.agg u)/\a≠.nilIface)/\(binOp op t a b).run P w= .ok v w:=by
 unfold iJ at h;split at h<;>first|(cases h;done)|skip
 all_goals refine⟨⟨(λu hu=>(by cases hu)),(λhu=>(by cases hu))⟩,?_⟩
 all_goals (repeat' split at h)
 all_goals
  first
   | (cases h;done)
   | (cases h;simp_all [binOp,Op.intArith,Op.intCmp,Op.intDiv,Op.intBits,Op.shift,Op.stringOp];done)
   | (cases h;simp_all [binOp,Op.shift];omega)
def Rb{op:BinOp}{t:Ι}{x y:Operand}{a b:Ε}(h:zc op a b λv=>K v w):eP P (do pure (.value (<- (do eqGuard op t x y a b;binOp op t a b)))) w K:=by
 obtain⟨v,hv,hk⟩:=h;obtain⟨⟨h1,h2⟩,hr⟩:=aRp (P:=P) (w:=w) t hv;refine .value (v:=v) ?_ hk;simp only[Sem.run_bind,HH op t x y a b h1 h2,Result.andThen_ok,hr]
end
open Go.RowKit
section
variable {P:Program} {w:Ζ} {K:Ε->Ζ->Prop}
def bdn{d:TypeDesc}{t:Ι}(ht:P.underlying t=some d){a b:Ε}{r:Bool}(n:Nat)(h:uX d a b=some r):(Op.equalIn (n+1) t a b).run P w= .ok r w:=by
 unfold uX at h;split at h<;>first|(cases h;done)|skip
 all_goals (cases h;simp only[Op.equalIn,Sem.run_bind,zzu ht,Result.andThen_ok,Sem.run_pure])
 all_goals first|rfl|(rename_i a _ _ _ _;cases a<;>rfl)|(rename_i a;cases a<;>rfl)|(rename_i a _;cases a<;>rfl)|skip
def bdm{d:TypeDesc}{t:Ι}(ht:P.underlying t=some d){a b:Ε}{r:Bool}(h:uX d a b=some r):(Op.equal t a b).run P w= .ok r w:=bdn ht 9999 h
def Sn{d:TypeDesc}{a b:Ε}{r:Bool}(h:uX d a b=some r):(∀u,a≠.agg u)/\a≠.nilIface:=by
 unfold uX at h;split at h<;>first|(cases h;done)|exact⟨(λu hu=>(by cases hu)),(λhu=>(by cases hu))⟩
def Sm{d:TypeDesc}{t:Ι}(ht:P.underlying t=some d){a b:Ε}{r:Bool}(h:uX d a b=some r):
  (binOp .eql t a b).run P w= .ok (.bool r) w/\(binOp .neq t a b).run P w= .ok (.bool !r) w:=by
 have hr:=bdm (w:=w) ht h;unfold uX at h;split at h<;>first|(cases h;done)|skip
 all_goals exact⟨by simp only[binOp,Sem.run_bind,hr,Result.andThen_ok,Sem.run_pure],by simp only[binOp,Sem.run_bind,hr,Result.andThen_ok,Sem.run_pure]⟩
def bdo{d:TypeDesc}{t:Ι}{x y:Operand}{a b:Ε}(ht:P.underlying t=some d)(h:HEq d false a b λv=>K v w):
  eP P (do pure (.value (<- (do eqGuard .eql t x y a b;binOp .eql t a b)))) w K:=by
 obtain⟨r,hv,hk⟩:=h;obtain⟨h1,h2⟩:=Sn hv;refine .value (v:=.bool r) ?_ hk;simp only[Sem.run_bind,HH .eql t x y a b h1 h2,Result.andThen_ok,(Sm ht hv).1]
def bqj{d:TypeDesc}{t:Ι}{x y:Operand}{a b:Ε}(ht:P.underlying t=some d)(h:HEq d true a b λv=>K v w):
  eP P (do pure (.value (<- (do eqGuard .neq t x y a b;binOp .neq t a b)))) w K:=by
 obtain⟨r,hv,hk⟩:=h;obtain⟨h1,h2⟩:=Sn hv;refine .value (v:=.bool !r) ?_ hk;simp only[Sem.run_bind,HH .neq t x y a b h1 h2,Result.andThen_ok,(Sm ht hv).2]
def bdl{t:Ι}{x y:Operand}{a b:Ε}(hm:P.eqGuardType P.depth t=false)(h:xG P t false a b w λv=>K v w):
  eP P (do pure (.value (<- (do eqGuard .eql t x y a b;binOp .eql t a b)))) w K:=by
 obtain⟨xs,ys,r,rfl,rfl,hv,hk⟩:=h;refine .value (v:=.bool r) ?_ hk;simp only[Sem.run_bind,run_eqGuard_agg w .eql t x y xs ys hm,Result.andThen_ok,binOp,hv,Sem.run_pure]
def bqi{t:Ι}{x y:Operand}{a b:Ε}(hm:P.eqGuardType P.depth t=false)(h:xG P t true a b w λv=>K v w):
  eP P (do pure (.value (<- (do eqGuard .neq t x y a b;binOp .neq t a b)))) w K:=by
 obtain⟨xs,ys,r,rfl,rfl,hv,hk⟩:=h;refine .value (v:=.bool !r) ?_ hk;simp only[Sem.run_bind,run_eqGuard_agg w .neq t x y xs ys hm,Result.andThen_ok,binOp,hv,Sem.run_pure]
def bqs{x:Ε}(h:y7 x λv=>K v w):eP P (do pure (.value (<- Op.unary .not x))) w K:=by
 obtain⟨b,rfl,hk⟩:=h;exact .value rfl hk
def a_g{x:Ε}(h:Br x λv=>K v w):eP P (do pure (.value (<- Op.unary .xor x))) w K:=by
 obtain⟨k,n,rfl,hk⟩:=h;exact .value rfl hk
def bqh{x:Ε}(h:KY x λv=>K v w):eP P (do pure (.value (<- Op.unary .neg x))) w K:=by
 obtain⟨k,n,rfl,hk⟩:=h;exact .value rfl hk
def a_q{s d:Ι}{x:Ε}{k:IntKind}{e:TypeDesc}(hs:P.underlying s=some e)(hd:P.underlying d=some (.int k))(h:zM k x λv=>K v w):
  eP P (do pure (.value (<- convert s d x))) w K:=by
 obtain⟨j,n,rfl,hk⟩:=h;exact .value (by simp[convert,zzu hs,zzu hd,Conv.intToInt]) hk
def a_r{s d:Ι}{x:Ε}(hs:P.underlying s=some .string)(hd:P.underlying d=some .string)(h:KX x λv=>K v w):
  eP P (do pure (.value (<- convert s d x))) w K:=by
 obtain⟨n,rfl,hk⟩:=h;exact .value (by simp[convert,zzu hs,zzu hd]) hk
def bdr{x:Ε}{i:Nat}(h:ze i x λv=>K v w):eP P (do pure (.value (<- Instr.extract x i))) w K:=by
 obtain⟨vs,v,rfl,hv,hk⟩:=h;exact .value (by simp[Instr.extract,hv]) hk
def bni{t e ty:Ι}{x:Ε}(ht:P.underlying t=some (.slice e))(h:zd x λv=>K v w):eP P (do pure (.value (<- Builtin.len_ #[t] ty #[x]))) w K:=by
 obtain⟨a,n,c,rfl,hk⟩:=h;exact .value (by simp[Builtin.len_,zzu ht];rfl) hk
def bnj{t ty:Ι}{x:Ε}(ht:P.underlying t=some .string)(h:zS x λv=>K v w):eP P (do pure (.value (<- Builtin.len_ #[t] ty #[x]))) w K:=by
 obtain⟨s,rfl,hk⟩:=h;exact .value (by simp[Builtin.len_,zzu ht];rfl) hk
def bo6{ts:Array Ι}{ty:Ι}{x y:Ε}(h:ZW x y λv=>K v w):eP P (do pure (.value (<- Builtin.min_ ts ty #[x,y]))) w K:=by
 obtain⟨k,a,b,rfl,rfl,hk⟩:=h;exact .value (run_min_int2 w ts ty k k a b) hk
def boc{ts:Array Ι}{ty:Ι}{x y:Ε}(h:y6 x y λv=>K v w):eP P (do pure (.value (<- Builtin.max_ ts ty #[x,y]))) w K:=by
 obtain⟨k,a,b,rfl,rfl,hk⟩:=h;exact .value (run_max_int2 w ts ty k k a b) hk
def tz{v:Ε}{d l y:Nat}{c:BoundsCode}(h:nu (some v) d l)(hl:l<=y):(Instr.sliceBound v y c).run P w= .ok l w:=by
 obtain⟨k,rfl⟩:=h;simp[Instr.sliceBound,asIntOf,hl]
def Re{b:Bool}{len cap l h m:Nat}{lo hi mx:Option Ε}(hm:nu mx cap m)(hh:nu hi len h)(hl:nu lo 0 l)(h1:l<=h)(h2:h<=m)(h3:m<=cap)(hx:mx.isSome=true->hi.isSome=true):
  (Instr.sliceBounds b len cap lo hi mx).run P w= .ok (l,h,m) w:=by
 unfold Instr.sliceBounds;cases mx with
 | none=>
  have:m=cap:=hm;subst this;cases hi with
  | none=>
   have:h=len:=hh;subst this;cases lo with
   | none=>have:l=0:=hl;subst this;simp
   | some v=>simp[tz hl h1]
  | some u=>
   cases lo with
   | none=>have:l=0:=hl;subst this;simp[tz hh h2]
   | some v=>simp[tz hl h1,tz hh h2]
 | some x=>
  cases hi with
  | none=>simp at hx
  | some u=>
   cases lo with
   | none=>have:l=0:=hl;subst this;simp[tz hh h2,tz hm h3]
   | some v=>simp[tz hl h1,tz hh h2,tz hm h3]
def bzg{t e:Ι}{n:Nat}{x:Ε}{lo hi mx:Option Ε}(ht:P.underlying t=some (.slice e))(hn:kA P e=some n)(hx:mx.isSome=true->hi.isSome=true)
  (h:dQ n x lo hi mx λv=>K v w):eP P (do pure (.value (<- Instr.sliceAt t x lo hi mx))) w K:=by
 obtain⟨a,len,cap,l,h,m,rfl,hm,hh,hl,h1,h2,h3,hk⟩:=h;refine .value ?_ hk;simp[Instr.sliceAt,Instr.slice,zzu ht,Re hm hh hl h1 h2 h3 hx,run_sizeOf hn]
def bzf{t:Ι}{x:Ε}{lo hi:Option Ε}(ht:P.underlying t=some .string)
  (h:y8 x lo hi λv=>K v w):eP P (do pure (.value (<- Instr.sliceAt t x lo hi none))) w K:=by
 obtain⟨s,l,h,rfl,hh,hl,h1,h2,hk⟩:=h;refine .value ?_ hk;simp[Instr.sliceAt,Instr.slice,zzu ht,Re (b:=false) (cap:=s.size) (m:=s.size) (mx:=none) rfl hh hl h1 h2 (zzj _) (by simp)]
def X_(z:Ξ)(hz:0<z.length):∀(n i:Nat) (h:i<n*z.length),(bE z n)[i]?=z[i % z.length]?
 | 0,i,h=>by simp at h
 | n+1,i,h=>by
  unfold bE;rw[List.replicate_succ,zz2];by_cases hi:i<z.length
  ·rw[zzy hi,wwp hi]
  rw[yyk (by omega)];have:=X_ z hz n (i-z.length) (by rw[yyv]at h;omega);unfold bE at this;rw[this];congr 1
  conv=>rhs;rw[show i=(i-z.length)+z.length by omega,Nat.add_mod_right]
def kV(z:Ξ):∀n,(bE z n).length=n*z.length
 | 0=>by simp[bE]
 | n+1=>by
  have:=kV z n;unfold bE at *
  rw[List.replicate_succ,zz2,zza,this,yyv];omega
def KS(z:Array Ε)(n:Nat):(Array.range (n*z.size)).map (λi=>z[i % z.size]!)=(bE z.toList n).toArray:=by
 apply Array.ext
 ·simp[kV]
 intro i h1 h2;have hi:i<n*z.size:=by simpa using h1
 have hz:0<z.toList.length:=by
  rcases yy8 z.size with h|h
  ·rw[h]at hi;omega
  simpa using h
 have hg:=X_ z.toList hz n i (by simpa using hi);have hm:i % z.size<z.size:=vvc _ (by simpa using hz);simp only[Array.getElem_map,Array.getElem_range,List.getElem_toArray];rw[zzd (by simpa [kV] using hi)]at hg
 simp only[Array.length_toList]at hg;rw[zzd (by simpa using hm)]at hg
 simp at hg;rw[hg,wws z (i % z.size) hm]
def bo9{t e:Ι}{i:TypeInfo}{v:Ε}{x y:Ε}(ht:P.underlying t=some (.slice e))(hi:P.info? e=some i)(hv:i.zero=some v)(hn:kA P e=some v.cells.size)
  (h:Bs v.cells.toList (uD P e) e x y w K):eP P (do pure (.value (<- Instr.makeSlice t x y))) w K:=by
 obtain⟨n,c,kl,kc,rfl,rfl,hnc,hb,hc,hk⟩:=h;have mj:uD P e=i.bytes:=by simp[uD,hi]
 have w1:IntKind.i64.wrap (((n:Nat):Int))=n:=xx3 _ (by omega);have w2:IntKind.i64.wrap (((c:Nat):Int))=c:=xx3 _ (by omega);refine .value ?_ hk;have h1:¬((i.bytes:Int)*(c:Int)>281474976710656):=by
  rw[mj]at hb
  have:((i.bytes*c:Nat):Int)<=281474976710656:=by omega
  simpa using this
 have hz:=KS v.cells c;by_cases h0:c*v.cells.size=0
 ·have:bE v.cells.toList c=[]:=zzl (by rw[kV];simpa using h0);simp[Instr.makeSlice,zzu ht,asInt,asIntOf,typeInfo,hi,w1,w2,run_sizeOf hn,A7 hi hv,newRow,h0,this,h1,show ¬((c:Int)<0) by omega,show ¬((n:Int)<0) by omega,show ¬((n:Int)>c) by omega];rw[show Array.map (λ_=>(default:Ε)) (Array.range 0) = #[] from Array.eq_empty_of_size_eq_zero (by simp)]
 simp[Instr.makeSlice,zzu ht,asInt,asIntOf,typeInfo,hi,w1,w2,run_sizeOf hn,A7 hi hv,newRow,h0,hz,h1,show ¬((c:Int)<0) by omega,show ¬((n:Int)<0) by omega,show ¬((n:Int)>c) by omega]
end
