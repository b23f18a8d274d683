/- Part of the proof (my own). -/
import Derived.WalkKit
import Derived.WalkLawsBesides
import Derived.Deep.RegionHeld3
import Derived.Deep.AppendLies
namespace Go.Proofs.YtfenmffiidchcaaGreat
set_option linter.unusedVariables false
open Go.RowKit
inductive hJ where
 | v (x:Value)
 | t
 | f
 | u
def hJ.val:hJ->Value
 | .v x=>x
 | .t=>.bool true
 | .f=>.bool false
 | .u=>undef
abbrev Env:=List (Nat × hJ)
def Env.get:Env->Nat->Option hJ
 | [],_=>none
 | (k,e)::r,t=>match Nat.beq k t with
  | true=>some e
  | false=>Env.get r t
def DW:Value->hJ
 | .bool true=>.t
 | .bool false=>.f
 | v=>.v v
def Env.gP(E:Env):Operand->Option hJ
 | .tmp t=>E.get t
 | .const v=>some (DW v)
 | .global g=>some (.v (.pointer (some ⟨g,0,none⟩)))
 | .func f=>some (.v (.func (.func f) #[] #[]))
def Env.ev(E:Env)(x:Operand):Value:=match E.gP x with
 | some e=>e.val
 | none=>undef
def Env.has(E:Env)(x:Operand):Bool:=match E.gP x with
 | some _=>true
 | none=>false
def Env.BK(E:Env):List Operand->Bool
 | []=>true
 | x::r=>match E.has x with
  | true=>Env.BK E r
  | false=>false
def Env.put(n:Nat)(E:Env)(d:Option Nat)(e:hJ):Env:=match d with
 | none=>E
 | some d=>match Nat.blt d n with
  | true=>(d,e)::E
  | false=>E
theorem UG(v:Value):(DW v).val=v:=by
 unfold DW;split<;>rfl
structure fz(X:List Nat)(n:Nat)(E:Env)(a:Act):Prop where
 size:a.tmps.size=n
 defers:a.defers=[]
 get:∀t e,t∉X->E.get t=some e->a.tmps[t]?=some e.val
def tL(X:List Nat)(x:Operand):Prop:=∀t,x= .tmp t->t∉X
theorem tL.nil(x:Operand):tL [] x:=λ_ _ h=>by cases h
theorem fz.gP{X:List Nat}{n:Nat}{E:Env}{a:Act}(h:fz X n E a){x:Operand}(hX:tL X x){e:hJ}(he:E.gP x=some e):a.eval x=e.val:=by
 cases x with
 | tmp t=>
  have:=h.get t e (hX t rfl) he
  simp[Act.eval,Array.getD_eq_getD_getElem?,this]
 | const v=>simp[Env.gP]at he;subst he;exact (UG v).symm
 | global g=>simp[Env.gP]at he;subst he;rfl
 | func f=>simp[Env.gP]at he;subst he;rfl
theorem fz.ev{X:List Nat}{n:Nat}{E:Env}{a:Act}(h:fz X n E a){x:Operand}(hX:tL X x)(hx:E.has x=true):a.eval x=E.ev x:=by
 unfold Env.has at hx
 unfold Env.ev
 split at hx
 ·rename_i e he;exact h.gP hX he
 ·cases hx
theorem Env.BL{E:Env}:∀{l:List Operand},E.BK l=true->∀x∈l,E.has x=true
 | [],_,x,hx=>by cases hx
 | y::r,h,x,hx=>by
  unfold Env.BK at h
  split at h
  ·rename_i hy
   rcases List.mem_cons.1 hx with rfl|hx
   ·exact hy
   ·exact Env.BL h x hx
  ·cases h
theorem beq_iff{k t:Nat}:Nat.beq k t=true↔k=t:=⟨Nat.eq_of_beq_eq_true,λh=>by subst h;exact Nat.beq_refl k⟩
theorem fz.put{X:List Nat}{n:Nat}{E:Env}{a:Act}(h:fz X n E a)(d:Option Nat)(e:hJ):fz X n (E.put n d e) (a.put d e.val):=by
 cases d with
 | none=>exact h
 | some d=>
  unfold Env.put
  refine⟨by simp[Act.put,h.size],h.defers,λt e' hX he=>?_⟩
  cases hb:Nat.blt d n with
  | true=>
   simp only[hb]at he
   have dZ:d<n:=Nat.le_of_ble_eq_true hb
   simp only[Env.get]at he
   cases hk:Nat.beq d t with
   | true=>
    rw[hk]at he;cases he
    obtain rfl:=beq_iff.1 hk
    simp[Act.put,h.size,dZ]
   | false=>
    rw[hk]at he
    have dV:d≠t:=λx=>by rw[beq_iff.2 x]at hk;cases hk
    simp[Act.put,Array.getElem?_setIfInBounds_ne dV,h.get t e' hX he]
  | false=>
   simp only[hb]at he
   have dZ:¬d<n:=λhl=>by
    have:Nat.blt d n=true:=Nat.ble_eq_true_of_le hl
    rw[hb]at this;cases this
   simp only[Act.put]
   rw[Array.setIfInBounds_eq_of_size_le (by rw[h.size];omega)]
   exact h.get t e' hX he
inductive TK where
 | one
 | agg (n:Nat)
 | bad
def tk(P:Program)(t:TypeId):TK:=match P.underlying t with
 | some (.struct _)=>match P.info? t with
  | some i=>.agg i.size
  | none=>.bad
 | some (.array _ _)=>match P.info? t with
  | some i=>.agg i.size
  | none=>.bad
 | some _=>match P.info? t with
  | some _=>.one
  | none=>.bad
 | none=>.bad
def ka(P:Program)(t:TypeId):Option Nat:=match P.info? t with
 | some i=>some i.size
 | none=>none
def sr(P:Program)(t:TypeId):Nat:=match P.info? t with
 | some i=>i.bytes
 | none=>0
def tE(P:Program)(t:TypeId):Option (List Value):=match P.info? t with
 | some i=>match i.zero with
  | some z=>some z.cells.toList
  | none=>none
 | none=>none
def zZ(P:Program)(s:Sem Value)(w:World)(K:Value->World->Prop):Prop:=∃v w',s.run P w= .ok v w'/\K v w'
def ga(P:Program)(s:Sem Value)(w:World)(K:Value->Prop):Prop:=∃v,s.run P w= .ok v w/\K v
def cR(x:Value)(w:World)(K:Value->Prop):Prop:=∃a v,x= .pointer (some a)/\w.cell? a=some v/\K v
def zj(n:Nat)(x:Value)(w:World)(K:Value->Prop):Prop:=
 ∃(a:Addr) (vs:List Value),x= .pointer (some a)/\vs.length=n/\(∀j v,vs[j]?=some v->w.cell? (a.add j)=some v)/\K (.agg vs.toArray)
def fH(x v:Value)(w:World)(K:World->Prop):Prop:=∃a u,x= .pointer (some a)/\v.oneCell'=true/\w.cell? a=some u/\w.frozen? a=false/\K (w.setCell a v)
def rm:Addr->Nat->List Value->World->(World->Prop)->Prop
 | _,_,[],w,K=>K w
 | a,i,v::r,w,K=>v.oneCell'=true/\(∃u,w.cell? (a.add i)=some u)/\w.frozen? (a.add i)=false/\rm a (i+1) r (w.setCell (a.add i) v) K
def zl(n:Nat)(x v:Value)(w:World)(K:World->Prop):Prop:=
 ∃(a:Addr) (vs:List Value),x= .pointer (some a)/\v= .agg vs.toArray/\vs.length=n/\rm a 0 vs w K
def zk(cs:List Value)(t:TypeId)(w:World)(K:Value->World->Prop):Prop:=K (.pointer (some ⟨w.heap.size,0,none⟩)) (w.alloc (.cells cs.toArray t))
def YW(x:Value)(K:Value->Prop):Prop:=∃a,x= .pointer (some a)/\K (.pointer (some a))
def zu(off:Nat)(x:Value)(K:Value->Prop):Prop:=∃a,x= .pointer (some a)/\K (.pointer (some (a.add off)))
def zh(sz:Nat)(x i:Value)(K:Value->Prop):Prop:=
 ∃(a:Addr) (len cap:Nat) (k:IntKind) (j:Nat),x= .slice (some a) len cap/\i= .int k (((j:Nat):Int))/\j<len/\K (.pointer (some (a.add (j*sz))))
def YU(sz n:Nat)(x i:Value)(K:Value->Prop):Prop:=
 ∃(a:Addr) (k:IntKind) (j:Nat),x= .pointer (some a)/\i= .int k (((j:Nat):Int))/\j<n/\K (.pointer (some (a.add (j*sz))))
def ze(i:Nat)(x:Value)(K:Value->Prop):Prop:=∃vs v,x= .tuple vs/\vs[i]?=some v/\K v
def zd(x:Value)(K:Value->Prop):Prop:=∃a n c,x= .slice a n c/\K (.int .i64 n)
def zR(x:Value)(K:Value->Prop):Prop:=∃s,x= .string s/\K (.int .i64 s.size)
def zU(P:Program)(f:FuncId)(args:List Value)(w:World)(K:Value->World->Prop):Prop:=
 Calls P f args.toArray w λe w'=>∃v,e= .returned v/\K v w'
def jk:BinOp->Value->Value->Option Value
 | .shl,.int k a,.int _ b=>if b<0 then none else some (.int k (k.wrap (a*2 ^ (min b.toNat k.bits))))
 | .shr,.int k a,.int _ b=>if b<0 then none else some (.int k (a.fdiv (2 ^ (min b.toNat k.bits))))
 | .add,.int k a,.int k' b=>if k=k' then some (.int k (k.wrap (a+b))) else none
 | .sub,.int k a,.int k' b=>if k=k' then some (.int k (k.wrap (a-b))) else none
 | .mul,.int k a,.int k' b=>if k=k' then some (.int k (k.wrap (a*b))) else none
 | .quo,.int k a,.int k' b=>if k=k' then if b=0 then none else some (.int k (k.wrap (a.tdiv b))) else none
 | .rem,.int k a,.int k' b=>if k=k' then if b=0 then none else some (.int k (a.tmod b)) else none
 | .and,.int k a,.int k' b=>if k=k' then some (.int k (k.wrap (BitVec.ofInt k.bits a &&& BitVec.ofInt k.bits b).toNat)) else none
 | .or,.int k a,.int k' b=>if k=k' then some (.int k (k.wrap (BitVec.ofInt k.bits a ||| BitVec.ofInt k.bits b).toNat)) else none
 | .xor,.int k a,.int k' b=>if k=k' then some (.int k (k.wrap (BitVec.ofInt k.bits a ^^^ BitVec.ofInt k.bits b).toNat)) else none
 | .eql,.int k a,.int k' b=>if k=k' then some (.bool (a == b)) else none
 | .neq,.int k a,.int k' b=>if k=k' then some (.bool (a != b)) else none
 | .lss,.int k a,.int k' b=>if k=k' then some (.bool (decide (a<b))) else none
 | .leq,.int k a,.int k' b=>if k=k' then some (.bool (decide (a<=b))) else none
 | .gtr,.int k a,.int k' b=>if k=k' then some (.bool (decide (a>b))) else none
 | .geq,.int k a,.int k' b=>if k=k' then some (.bool (decide (a≥b))) else none
 | .add,.string a,.string b=>if ((a.size+b.size:Nat):Int)>IntKind.i64.max then none else some (.string (a++b))
 | .eql,.string a,.string b=>some (.bool (a.toList == b.toList))
 | .neq,.string a,.string b=>some (.bool (!(a.toList == b.toList)))
 | .lss,.string a,.string b=>some (.bool (Op.bytesLess a.toList b.toList))
 | _,_,_=>none
def zc(op:BinOp)(x y:Value)(K:Value->Prop):Prop:=∃v,jk op x y=some v/\K v
def sP:TypeDesc->Value->Value->Option Bool
 | .bool,.bool a,.bool b=>some (a == b)
 | .pointer _,.pointer none,.pointer b=>some b.isNone
 | .pointer _,.pointer (some _),.pointer none=>some false
 | .slice _,.slice a _ _,.slice none _ _=>some a.isNone
 | .map _ _,.map a,.map none=>some a.isNone
 | .func _ _ _,.nilFunc,.nilFunc=>some true
 | .func _ _ _,.func _ _ _,.nilFunc=>some false
 | _,_,_=>none
def HEq(d:TypeDesc)(neg:Bool)(x y:Value)(K:Value->Prop):Prop:=∃b,sP d x y=some b/\K (.bool (match neg with|true=>!b|false=>b))
def A2(P:Program)(t:TypeId)(neg:Bool)(x y:Value)(w:World)(K:Value->Prop):Prop:=
 ∃xs ys b,x= .agg xs/\y= .agg ys/\(Op.equal t x y).run P w= .ok b w/\K (.bool (match neg with|true=>!b|false=>b))
open Go.RowKit
def yK(P:Program)(T:List Bool)(g:Value)(args:List Value)(w:World)(K:Value->World->Prop):Prop:=
 ∃f first captured,g= .func (.func f) first captured/\T.getD f false=true/\zU P f (first.toList++args++captured.toList) w K
def qz(P:Program)(f:FuncId)(args:List Value)(w:World)(K:Value->World->Prop):Prop:=∃v w',(callFunc f args.toArray).run P w= .ok (.value v) w'/\K v w'
def zG(k:IntKind)(x:Value)(K:Value->Prop):Prop:=∃j n,x= .int j n/\K (.int k (k.wrap n))
def Ht(x:Value)(K:Value->Prop):Prop:=∃s,x= .string s/\K (.string s)
def Zi(x:Value)(K:Value->Prop):Prop:=∃b,x= .bool b/\K (.bool !b)
def qy(x:Value)(K:Value->Prop):Prop:=∃k n,x= .int k n/\K (.int k (k.wrap (BitVec.ofInt k.bits (if k.signed then -1 else k.max) ^^^ BitVec.ofInt k.bits n).toNat))
def Hu(x:Value)(K:Value->Prop):Prop:=∃k n,x= .int k n/\K (.int k (k.wrap (0-n)))
def rG:Option Value->Nat->Nat->Prop
 | none,d,l=>l=d
 | some v,_,l=>∃k,v= .int k (((l:Nat):Int))
def eG(sz:Nat)(x:Value)(lo hi mx:Option Value)(K:Value->Prop):Prop:=
 ∃a len cap l h m,x= .slice a len cap/\rG mx cap m/\rG hi len h/\rG lo 0 l/\l<=h/\h<=m/\m<=cap /\
  K (.slice (if m=l then a else a.map (·.add (l*sz))) (h-l) (m-l))
def ZN(x:Value)(lo hi:Option Value)(K:Value->Prop):Prop:=
 ∃s l h,x= .string s/\rG hi s.size h/\rG lo 0 l/\l<=h/\h<=s.size/\K (.string (s.extract l h))
def YV(x y:Value)(K:Value->Prop):Prop:=∃k a b,x= .int k a/\y= .int k b/\K (.int k (if b<a then b else a))
def QC(x y:Value)(K:Value->Prop):Prop:=∃k a b,x= .int k a/\y= .int k b/\K (.int k (if b>a then b else a))
def db(z:List Value)(n:Nat):List Value:=(List.replicate n z).flatten
def sA(z:List Value)(bytes:Nat)(e:TypeId)(x y:Value)(w:World)(K:Value->World->Prop):Prop:=
 ∃(n c:Nat) (kl kc:IntKind),x= .int kl (((n:Nat):Int))/\y= .int kc (((c:Nat):Int))/\n<=c/\bytes*c<=281474976710656/\c<9223372036854775808 /\
  K (.slice (some ⟨w.heap.size,0,none⟩) n c) (w.alloc (.cells (db z c).toArray e))
def iw:List Value->List (Nat × Nat × Value)->Option (List Value)
 | cells,[]=>some cells
 | cells,(off,size,v)::r=>
  if v.cells.size=size/\off+size<=cells.length then iw (cells.take off++v.cells.toList++cells.drop (off+size)) r else none
def zo(z:List Value)(ps:List (Nat × Nat × Value))(K:Value->Prop):Prop:=∃cells,iw z ps=some cells/\K (.agg cells.toArray)
def zn(z:List Value)(ps:List (Nat × Nat × Value))(e:TypeId)(len:Nat)(w:World)(K:Value->World->Prop):Prop:=
 ∃cells,iw z ps=some cells/\K (.slice (some ⟨w.heap.size,0,none⟩) len len) (w.alloc (.cells cells.toArray e))
def jy(w:World)(sz:Nat)(y:Value)(n:Nat)(cs:List Value):Prop:=
 match y with
 | .slice (some b) len _=>n=len/\cs.length=n*sz/\∀j v,cs[j]?=some v->w.cell? (b.add j)=some v
 | .slice none len _=>n=len/\cs=[]
 | .string s=>n=s.size/\cs=s.data.toList.map λb=>.int .u8 b.toNat
 | _=>False
def zt(sz bytes:Nat)(z:List Value)(e:TypeId)(x y:Value)(w:World)(K:Value->World->Prop):Prop:=
 ∃a len cap n cs,x= .slice a len cap/\jy w sz y n cs/\(len+n)*bytes<=140737488355328/\len+n<=140737488355328 /\
  (len+n<=cap->match a with
   | some p=>rm (p.add (len*sz)) 0 cs w λw'=>K (.slice (some p) (len+n) cap) w'
   | none=>K (.slice none (len+n) cap) w) /\
  (cap<len+n->∃oE,jy w sz x len oE/\∀c,len+n<=c->c<=9223372036854775807 ->
   K (.slice (some ⟨w.heap.size,0,none⟩) (len+n) c) (w.drew.alloc (.cells (oE++cs++db z (c-(len+n))).toArray e)))
def vF(P:Program):List Field->Option (List (Nat × Nat))
 | []=>some []
 | f::r=>match ka P f.type with
  | some n=>match vF P r with
   | some l=>some ((f.offset,n)::l)
   | none=>none
  | none=>none
def oG(pl:List (Nat × Nat))(ev:Operand->Value):List (Nat × Operand)->Option (List (Nat × Nat × Value))
 | []=>some []
 | (i,x)::r=>match pl[i]? with
  | some (off,n)=>match oG pl ev r with
   | some l=>some ((off,n,ev x)::l)
   | none=>none
  | none=>none
def En(P:Program)(s:TypeId)(f:Nat):Option Nat:=match P.underlying s with
 | some (.struct fields)=>match fields[f]? with
  | some d=>match ka P d.type with
   | some (_+1)=>some d.offset
   | _=>none
  | none=>none
 | _=>none
def fj(P:Program)(T:List Bool)(o:Op)(ty:TypeId)(ev:Operand->Value)(w:World)(K:Value->World->Prop):Prop:=
 match o with
 | .move x=>K (ev x) w
 | .assign x=>K (ev x) w
 | .alloc e=>match tE P e with
  | some z=>zk z e w K
  | none=>False
 | .box e x=>match tk P e with
  | .one=>(ev x).oneCell'=true/\zk [ev x] e w K
  | .agg _=>∃vs:List Value,ev x= .agg vs.toArray/\zk vs e w K
  | .bad=>False
 | .build t ps=>match P.underlying t with
  | some (.struct fields)=>match tE P t with
   | some z=>match vF P fields.toList with
    | some pl=>match oG pl ev ps.toList with
     | some l=>zo z l λv=>K v w
     | none=>False
    | none=>False
   | none=>False
  | _=>False
 | .buildSlice t len ps=>match P.underlying t with
  | some (.slice e)=>match tE P e with
   | some z=>match ka P e with
    | some n=>match oG ((List.range len).map λi=>(i*n,n)) ev ps.toList with
     | some l=>match Nat.beq n z.length,Nat.ble (len*n) 16777216 with
      | true,true=>zn (db z len) l e len w K
      | _,_=>False
     | none=>False
    | none=>False
   | none=>False
  | _=>False
 | .load t x=>match tk P t with
  | .one=>cR (ev x) w λv=>K v w
  | .agg n=>zj n (ev x) w λv=>K v w
  | .bad=>False
 | .store t x v=>match tk P t with
  | .one=>match ka P t with
   | some 1=>fH (ev x) (ev v) w λw'=>K undef w'
   | _=>False
  | .agg n=>zl n (ev x) (ev v) w λw'=>K undef w'
  | .bad=>False
 | .nilCheck x=>YW (ev x) λv=>K v w
 | .binOp op t x y _=>match op,P.underlying t with
  | _,some (.int _)=>zc op (ev x) (ev y) λv=>K v w
  | _,some .string=>zc op (ev x) (ev y) λv=>K v w
  | .eql,some (.struct _)=>match P.eqGuardType P.depth t with
   | false=>A2 P t false (ev x) (ev y) w λv=>K v w
   | true=>False
  | .neq,some (.struct _)=>match P.eqGuardType P.depth t with
   | false=>A2 P t true (ev x) (ev y) w λv=>K v w
   | true=>False
  | .eql,some d=>HEq d false (ev x) (ev y) λv=>K v w
  | .neq,some d=>HEq d true (ev x) (ev y) λv=>K v w
  | _,_=>False
 | .unOp .not _ x=>Zi (ev x) λv=>K v w
 | .unOp .neg _ x=>Hu (ev x) λv=>K v w
 | .unOp .xor _ x=>qy (ev x) λv=>K v w
 | .convert s d x=>match P.underlying s,P.underlying d with
  | some _,some (.int k)=>zG k (ev x) λv=>K v w
  | some .string,some .string=>Ht (ev x) λv=>K v w
  | some .string,some (.slice _)=>zZ P (convert s d (ev x)) w K
  | some (.slice _),some (.slice _)=>zZ P (convert s d (ev x)) w K
  | _,_=>ga P (convert s d (ev x)) w λv=>K v w
 | .makeFunc fn first captured=>match fn with
  | .func f=>K (.func (.func f) (first.toList.map ev).toArray (captured.toList.map ev).toArray) w
  | _=>False
 | .makeSlice t x y=>match P.underlying t with
  | some (.slice e)=>match tE P e with
   | some z=>match ka P e with
    | some n=>match Nat.beq n z.length with
     | true=>sA z (sr P e) e (ev x) (ev y) w K
     | false=>False
    | none=>False
   | none=>False
  | _=>False
 | .slice t x lo hi mx=>match P.underlying t with
  | some (.slice e)=>match ka P e with
   | some n=>match mx,hi with
    | some _,none=>False
    | _,_=>eG n (ev x) (lo.map ev) (hi.map ev) (mx.map ev) λv=>K v w
   | none=>False
  | some .string=>match mx with
   | none=>ZN (ev x) (lo.map ev) (hi.map ev) λv=>K v w
   | some _=>False
  | _=>False
 | .fieldAddr s x f=>match En P s f with
  | some off=>zu off (ev x) λv=>K v w
  | none=>False
 | .indexAddr t x i=>match P.underlying t with
  | some (.slice e)=>match ka P e with
   | some n=>zh n (ev x) (ev i) λv=>K v w
   | none=>False
  | some (.array len e)=>match ka P e with
   | some n=>YU n len (ev x) (ev i) λv=>K v w
   | none=>False
  | _=>False
 | .extract x i=>ze i (ev x) λv=>K v w
 | .field t x f=>ga P (Instr.field t (ev x) f) w λv=>K v w
 | .index t x i=>ga P (Instr.index t (ev x) (ev i)) w λv=>K v w
 | .lookup t x i ok=>ga P (Instr.lookup t (ev x) (ev i) ok) w λv=>K v w
 | .mapUpdate t m k x=>zZ P (do Instr.mapUpdate t (ev m) (ev k) (ev x);pure undef) w K
 | .insert t m k x=>zZ P (do Instr.mapUpdate t (ev m) (ev k) (ev x);pure undef) w K
 | .mapEntry t m k=>zZ P (Instr.mapEntry t (ev m) (ev k)) w K
 | .entryStore t m s x=>zZ P (do Instr.entryStore t (ev m) (ev s) (ev x);pure undef) w K
 | .makeMap t none=>K (.map (some w.heap.size)) (w.alloc (.map #[] 0))
 | .call c=>match c.callee with
  | .value (.func f)=>match T.getD f false with
   | true=>zU P f (c.args.toList.map ev) w K
   | false=>qz P f (c.args.toList.map ev) w K
  | .value (.tmp t)=>yK P T (ev (.tmp t)) (c.args.toList.map ev) w K
  | .builtin .len=>match c.args.toList,c.argTypes.toList with
   | [x],[t]=>match P.underlying t with
    | some (.slice _)=>zd (ev x) λv=>K v w
    | some .string=>zR (ev x) λv=>K v w
    | _=>ga P (Builtin.len_ #[t] ty #[ev x]) w λv=>K v w
   | _,_=>False
  | .builtin .min=>match c.args.toList with
   | [x,y]=>YV (ev x) (ev y) λv=>K v w
   | _=>False
  | .builtin .max=>match c.args.toList with
   | [x,y]=>QC (ev x) (ev y) λv=>K v w
   | _=>False
  | .builtin .append=>match c.args.toList,c.argTypes.toList with
   | [x,y],[t,u]=>match P.underlying t with
    | some (.slice e)=>match tE P e with
     | some z=>match ka P e with
      | some n=>match Nat.beq n z.length,P.underlying u with
       | true,some (.slice _)=>zt n (sr P e) z e (ev x) (ev y) w K
       | true,some .string=>zt n (sr P e) z e (ev x) (ev y) w K
       | true,some (.int _)=>zZ P (Builtin.append_ #[t,u] ty #[ev x,ev y]) w K
       | _,_=>False
      | none=>False
     | none=>False
    | _=>False
   | _,_=>False
  | .builtin .copy=>zZ P (Builtin.copy_ c.argTypes ty (c.args.toList.map ev).toArray) w K
  | .builtin .delete=>zZ P (Builtin.delete_ c.argTypes ty (c.args.toList.map ev).toArray) w K
  | .builtin .cap=>ga P (Builtin.cap_ c.argTypes ty (c.args.toList.map ev).toArray) w λv=>K v w
  | .builtin .clear=>zZ P (Builtin.clear_ c.argTypes ty (c.args.toList.map ev).toArray) w K
  | _=>False
 | _=>False
open Go.RowKit
def Te (P : Program) (f : FuncId) : Prop := ∃ fn, P.funcs[f]? = some fn /\ (fn.name == "runtime.NumGoroutine") = false /\ fn.body.isNone = false
def Calls.nr(P:Program)(T:List Bool):Prop:=∀f,T.getD f false=true->Te P f
def fI(P:Program)(s:Sem Next)(w:World)(K:Value->World->Prop):Prop:=
 (∃v w',s.run P w= .ok (.value v) w'/\K v w')\/(∃w',s.run P w= .ok .skip w'/\K undef w') \/
 (∃f args,s.run P w= .ok (.enter f args) w/\Calls P f args w λe w'=>∃v,e= .returned v/\K v w')
theorem fI.upon{P:Program}{o:Oper}{a:Act}{w:World}{K:Value->World->Prop}{next:Act->World->Prop}{Q:Exit->Act->World->Prop}
  (h:fI P (execOp a.eval o) w K) (hn:∀v w',K v w'->next (a.put o.dst v) w'):o.wp P a w next Q:=by
 unfold Oper.wp
 rcases h with ⟨v,w',hr,hk⟩|⟨w',hr,hk⟩|⟨f,args,hr,hk⟩
 ·rw[hr];exact hn _ _ hk
 ·rw[hr];exact hn _ _ hk
 ·rw[hr]
  refine hk.mono ?_
  rintro e w' ⟨v,rfl,hk⟩
  exact hn _ _ hk
theorem fI.value{P:Program}{s:Sem Value}{w w':World}{K:Value->World->Prop}{v:Value}(h:s.run P w= .ok v w')(hk:K v w'):
  fI P (do pure (.value (<- s))) w K:=.inl ⟨v,w',by simp[h],hk⟩
theorem zZ.mM{P:Program}{s:Sem Value}{w:World}{K:Value->World->Prop}(h:zZ P s w K):fI P (do pure (.value (<- s))) w K:=by
 obtain⟨v,w',h1,h2⟩:=h
 exact .value h1 h2
theorem ga.mM{P:Program}{s:Sem Value}{w:World}{K:Value->World->Prop}(h:ga P s w λv=>K v w):fI P (do pure (.value (<- s))) w K:=by
 obtain⟨v,h1,h2⟩:=h
 exact .value h1 h2
theorem run_sizeOf{P:Program}{t:TypeId}{n:Nat}(h:ka P t=some n)(w:World):(sizeOf t).run P w= .ok n w:=by
 unfold ka at h
 split at h
 ·rename_i i hi;cases h;simp[sizeOf,typeInfo,hi]
 ·cases h
theorem yG{P:Program}{t:TypeId}{z:List Value}(h:tE P t=some z):∃i v,P.info? t=some i/\i.zero=some v/\v.cells.toList=z:=by
 unfold tE at h
 split at h
 ·rename_i i hi
  split at h
  ·rename_i v hv;cases h;exact⟨i,v,hi,hv,rfl⟩
  ·cases h
 ·cases h
theorem wE{P:Program}{t:TypeId}{i:TypeInfo}{v:Value}(h:P.info? t=some i)(hv:i.zero=some v)(w:World):(zeroValue t).run P w= .ok v w:=by
 simp[zeroValue,typeInfo,h,hv]
theorem SW{P:Program}{t:TypeId}(h:tk P t= .one):(∀w,(isAgg t).run P w= .ok false w)/\∃i,P.info? t=some i:=by
 unfold tk at h
 split at h
 ·split at h<;>cases h
 ·split at h<;>cases h
 ·rename_i d h1 h2 hd
  split at h
  ·rename_i i hi
   refine⟨λw=>?_,i,hi⟩
   simp only[isAgg,Sem.run_bind,run_underlying hd,Result.andThen_ok]
   rfl
  ·cases h
 ·cases h
theorem AV{P:Program}{t:TypeId}{n:Nat}(h:tk P t= .agg n):(∀w,(isAgg t).run P w= .ok true w)/\ka P t=some n:=by
 unfold tk at h
 split at h
 ·rename_i fs hd
  split at h
  ·rename_i i hi;cases h;exact⟨λw=>by simp[isAgg,run_underlying hd],by simp[ka,hi]⟩
  ·cases h
 ·rename_i k e hd
  split at h
  ·rename_i i hi;cases h;exact⟨λw=>by simp[isAgg,run_underlying hd],by simp[ka,hi]⟩
  ·cases h
 ·split at h<;>cases h
 ·cases h
section
variable {P:Program} {w:World} {K:Value->World->Prop}
theorem zk.run{z:List Value}{v:Value}{e:TypeId}(hz:v.cells.toList=z)(h:zk z e w K):∃u w',(do pure (Value.pointer (some (<- newVar e v))):Sem Value).run P w= .ok u w'/\K u w':=by
 refine⟨_,_,rfl,?_⟩
 unfold zk at h
 subst hz
 rw[Array.toArray_toList]at h
 exact h
theorem TI{e:TypeId}{z:List Value}(hz:tE P e=some z)(h:zk z e w K):fI P (do pure (.value (<- Instr.alloc e true (.tuple #[])))) w K:=by
 obtain⟨i,v,hi,hv,rfl⟩:=yG hz
 obtain⟨u,w',hr,hk⟩:=zk.run (P:=P) rfl h
 refine .value ?_ hk
 rw[<- hr]
 have:=Sem.run_bind' P (zeroValue e) (λzero=>(do pure (Value.pointer (some (<- newVar e zero))):Sem Value)) w
 rw[wE hi hv]at this
 exact this
theorem Mf{e:TypeId}{x:Value}{z:List Value}(hz:x.cells.toList=z)(h:zk z e w K):fI P (do pure (.value (<- Instr.box e x))) w K:=by
 obtain⟨u,w',hr,hk⟩:=zk.run (P:=P) hz h
 exact .value hr hk
theorem ail{t:TypeId}{x:Value}(ht:tk P t= .one)(h:cR x w λv=>K v w):fI P (do pure (.value (<- Instr.loadAt t x))) w K:=by
 obtain⟨a,v,rfl,hc,hk⟩:=h
 refine .value (v:=v) ?_ hk
 simp[Instr.loadAt,Instr.sureAddr,loadVar,(SW ht).1,hc]
theorem air{t:TypeId}{n:Nat}{x:Value}(ht:tk P t= .agg n)(h:zj n x w λv=>K v w):fI P (do pure (.value (<- Instr.loadAt t x))) w K:=by
 obtain⟨a,vs,rfl,hl,hc,hk⟩:=h
 subst hl
 refine .value (v:=.agg vs.toArray) ?_ hk
 simp[Instr.loadAt,Instr.sureAddr,loadVar,(AV ht).1,run_sizeOf (AV ht).2,run_loadCells_list w a vs hc]
theorem si{v:Value}(h:v.oneCell'=true):v.cells = #[v]:=by
 cases v<;>first|rfl|cases h
theorem R9{a:Addr}{v u:Value}(hv:v.oneCell'=true)(hc:w.cell? a=some u)(hf:w.frozen? a=false):(store a v).run P w= .ok () (w.setCell a v):=by
 rw[run_store P w a v _ hv,hc];simp[hf]
theorem a75{t:TypeId}{x v:Value}(ht:tk P t= .one)(hs:ka P t=some 1)(h:fH x v w λw'=>K undef w'):fI P (do Instr.storeAt t x v;pure .skip) w K:=by
 obtain⟨a,u,rfl,hv,hc,hf,hk⟩:=h
 refine .inr (.inl ⟨_,?_,hk⟩)
 have h0:a.add 0=a:=rfl
 simp[Instr.storeAt,Instr.sureAddr,storeVar,si hv,run_sizeOf hs,storeCells,h0,R9 hv hc hf]
theorem G3:∀(vs:List Value) (a:Addr) (i:Nat) (w:World) (K:World->Prop),rm a i vs w K->∃w',(storeCells a vs i).run P w= .ok () w'/\K w'
 | [],a,i,w,K,h=>⟨w,by simp[storeCells],h⟩
 | v::r,a,i,w,K,⟨hv,⟨u,hc⟩,hf,h⟩=>by
  obtain⟨w',hr,hk⟩:=G3 r a (i+1) _ K h
  exact⟨w',by simp[storeCells,R9 hv hc hf,hr],hk⟩
theorem a76{t:TypeId}{n:Nat}{x v:Value}(ht:tk P t= .agg n)(h:zl n x v w λw'=>K undef w'):fI P (do Instr.storeAt t x v;pure .skip) w K:=by
 obtain⟨a,vs,rfl,rfl,hl,hk⟩:=h
 obtain⟨w',hr,hk⟩:=G3 (P:=P) _ _ _ _ _ hk
 refine .inr (.inl ⟨w',?_,hk⟩)
 simp[Instr.storeAt,Instr.sureAddr,storeVar,run_sizeOf (AV ht).2,Value.cells,hl,hr]
theorem Vu{s:TypeId}{x:Value}{f off:Nat}(hf:En P s f=some off)(h:zu off x λv=>K v w):fI P (do pure (.value (<- Instr.fieldAt s x f))) w K:=by
 obtain⟨a,rfl,hk⟩:=h
 unfold En at hf
 split at hf
 ·rename_i fields hs
  split at hf
  ·rename_i d hd
   split at hf
   ·rename_i n hn
    cases hf
    refine .value ?_ hk
    simp[Instr.fieldAt,run_underlying hs,hd,Instr.sureAddr,fieldPlace,run_sizeOf hn]
   ·cases hf
  ·cases hf
 ·cases hf
theorem XS{t e:TypeId}{n:Nat}{x i:Value}(ht:P.underlying t=some (.slice e))(hn:ka P e=some n)(h:zh n x i λv=>K v w):fI P (do pure (.value (<- Instr.indexAt t x i))) w K:=by
 obtain⟨a,len,cap,k,j,rfl,rfl,dZ,hk⟩:=h
 refine .value ?_ hk
 simp[Instr.indexAt,run_underlying ht,asIntOf,run_sizeOf hn,dZ]
theorem XR{t e:TypeId}{n len:Nat}{x i:Value}(ht:P.underlying t=some (.array len e))(hn:ka P e=some n)(h:YU n len x i λv=>K v w):fI P (do pure (.value (<- Instr.indexAt t x i))) w K:=by
 obtain⟨a,k,j,rfl,rfl,dZ,hk⟩:=h
 refine .value ?_ hk
 simp[Instr.indexAt,run_underlying ht,asIntOf,run_sizeOf hn,dZ,Instr.sureAddr]
theorem Eb(op:BinOp)(t:TypeId)(x y:Operand)(a b:Value)(ha:∀u,a≠.agg u)(hb:a≠.nilIface):(eqGuard op t x y a b).run P w= .ok () w:=by
 cases a<;>simp_all [eqGuard]
theorem Ud{op:BinOp}{a b v:Value}(t:TypeId)(h:jk op a b=some v):((∀u,a≠.agg u)/\a≠.nilIface)/\(binOp op t a b).run P w= .ok v w:=by
 unfold jk at h
 split at h<;>first|(cases h;done)|skip
 all_goals refine⟨⟨(λu hu=>(by cases hu)),(λhu=>(by cases hu))⟩,?_⟩
 all_goals (repeat' split at h)
 all_goals
  first
   | (cases h;done)
   | (cases h;simp_all [binOp,Op.intArith,Op.intCmp,Op.intDiv,Op.intBits,Op.shift,Op.stringOp];done)
   | (cases h;simp_all [binOp,Op.shift];omega)
theorem Ma{op:BinOp}{t:TypeId}{x y:Operand}{a b:Value}(h:zc op a b λv=>K v w):fI P (do pure (.value (<- (do eqGuard op t x y a b;binOp op t a b)))) w K:=by
 obtain⟨v,hv,hk⟩:=h
 obtain⟨⟨h1,h2⟩,hr⟩:=Ud (P:=P) (w:=w) t hv
 refine .value (v:=v) ?_ hk
 simp only[Sem.run_bind,Eb op t x y a b h1 h2,Result.andThen_ok,hr]
end
open Go.RowKit
section
variable {P:Program} {w:World} {K:Value->World->Prop}
theorem Vf{d:TypeDesc}{t:TypeId}(ht:P.underlying t=some d){a b:Value}{r:Bool}(n:Nat)(h:sP d a b=some r):(Op.equalIn (n+1) t a b).run P w= .ok r w:=by
 unfold sP at h
 split at h<;>first|(cases h;done)|skip
 all_goals (cases h;simp only[Op.equalIn,Sem.run_bind,run_underlying ht,Result.andThen_ok,Sem.run_pure])
 all_goals first|rfl|(rename_i a _ _ _ _;cases a<;>rfl)|(rename_i a;cases a<;>rfl)|(rename_i a _;cases a<;>rfl)|skip
theorem Ve{d:TypeDesc}{t:TypeId}(ht:P.underlying t=some d){a b:Value}{r:Bool}(h:sP d a b=some r):(Op.equal t a b).run P w= .ok r w:=Vf ht 9999 h
theorem M_{d:TypeDesc}{a b:Value}{r:Bool}(h:sP d a b=some r):(∀u,a≠.agg u)/\a≠.nilIface:=by
 unfold sP at h
 split at h<;>first|(cases h;done)|exact⟨(λu hu=>(by cases hu)),(λhu=>(by cases hu))⟩
theorem M9{d:TypeDesc}{t:TypeId}(ht:P.underlying t=some d){a b:Value}{r:Bool}(h:sP d a b=some r):
  (binOp .eql t a b).run P w= .ok (.bool r) w/\(binOp .neq t a b).run P w= .ok (.bool !r) w:=by
 have hr:=Ve (w:=w) ht h
 unfold sP at h
 split at h<;>first|(cases h;done)|skip
 all_goals exact⟨by simp only[binOp,Sem.run_bind,hr,Result.andThen_ok,Sem.run_pure],by simp only[binOp,Sem.run_bind,hr,Result.andThen_ok,Sem.run_pure]⟩
theorem Vg{d:TypeDesc}{t:TypeId}{x y:Operand}{a b:Value}(ht:P.underlying t=some d)(h:HEq d false a b λv=>K v w):
  fI P (do pure (.value (<- (do eqGuard .eql t x y a b;binOp .eql t a b)))) w K:=by
 obtain⟨r,hv,hk⟩:=h
 obtain⟨h1,h2⟩:=M_ hv
 refine .value (v:=.bool r) ?_ hk
 simp only[Sem.run_bind,Eb .eql t x y a b h1 h2,Result.andThen_ok,(M9 ht hv).1]
theorem awn{d:TypeDesc}{t:TypeId}{x y:Operand}{a b:Value}(ht:P.underlying t=some d)(h:HEq d true a b λv=>K v w):
  fI P (do pure (.value (<- (do eqGuard .neq t x y a b;binOp .neq t a b)))) w K:=by
 obtain⟨r,hv,hk⟩:=h
 obtain⟨h1,h2⟩:=M_ hv
 refine .value (v:=.bool !r) ?_ hk
 simp only[Sem.run_bind,Eb .neq t x y a b h1 h2,Result.andThen_ok,(M9 ht hv).2]
theorem Vd{t:TypeId}{x y:Operand}{a b:Value}(hm:P.eqGuardType P.depth t=false)(h:A2 P t false a b w λv=>K v w):
  fI P (do pure (.value (<- (do eqGuard .eql t x y a b;binOp .eql t a b)))) w K:=by
 obtain⟨xs,ys,r,rfl,rfl,hv,hk⟩:=h
 refine .value (v:=.bool r) ?_ hk
 simp only[Sem.run_bind,run_eqGuard_agg w .eql t x y xs ys hm,Result.andThen_ok,binOp,hv,Sem.run_pure]
theorem awm{t:TypeId}{x y:Operand}{a b:Value}(hm:P.eqGuardType P.depth t=false)(h:A2 P t true a b w λv=>K v w):
  fI P (do pure (.value (<- (do eqGuard .neq t x y a b;binOp .neq t a b)))) w K:=by
 obtain⟨xs,ys,r,rfl,rfl,hv,hk⟩:=h
 refine .value (v:=.bool !r) ?_ hk
 simp only[Sem.run_bind,run_eqGuard_agg w .neq t x y xs ys hm,Result.andThen_ok,binOp,hv,Sem.run_pure]
theorem awx{x:Value}(h:Zi x λv=>K v w):fI P (do pure (.value (<- Op.unary .not x))) w K:=by
 obtain⟨b,rfl,hk⟩:=h
 exact .value rfl hk
theorem UH{x:Value}(h:qy x λv=>K v w):fI P (do pure (.value (<- Op.unary .xor x))) w K:=by
 obtain⟨k,n,rfl,hk⟩:=h
 exact .value rfl hk
theorem awl{x:Value}(h:Hu x λv=>K v w):fI P (do pure (.value (<- Op.unary .neg x))) w K:=by
 obtain⟨k,n,rfl,hk⟩:=h
 exact .value rfl hk
theorem UJ{s d:TypeId}{x:Value}{k:IntKind}{e:TypeDesc}(hs:P.underlying s=some e)(hd:P.underlying d=some (.int k))(h:zG k x λv=>K v w):
  fI P (do pure (.value (<- convert s d x))) w K:=by
 obtain⟨j,n,rfl,hk⟩:=h
 exact .value (by simp[convert,run_underlying hs,run_underlying hd,Conv.intToInt]) hk
theorem UK{s d:TypeId}{x:Value}(hs:P.underlying s=some .string)(hd:P.underlying d=some .string)(h:Ht x λv=>K v w):
  fI P (do pure (.value (<- convert s d x))) w K:=by
 obtain⟨n,rfl,hk⟩:=h
 exact .value (by simp[convert,run_underlying hs,run_underlying hd]) hk
theorem Vj{x:Value}{i:Nat}(h:ze i x λv=>K v w):fI P (do pure (.value (<- Instr.extract x i))) w K:=by
 obtain⟨vs,v,rfl,hv,hk⟩:=h
 exact .value (by simp[Instr.extract,hv]) hk
theorem aie{t e ty:TypeId}{x:Value}(ht:P.underlying t=some (.slice e))(h:zd x λv=>K v w):fI P (do pure (.value (<- Builtin.len_ #[t] ty #[x]))) w K:=by
 obtain⟨a,n,c,rfl,hk⟩:=h
 exact .value (by simp[Builtin.len_,run_underlying ht];rfl) hk
theorem aif{t ty:TypeId}{x:Value}(ht:P.underlying t=some .string)(h:zR x λv=>K v w):fI P (do pure (.value (<- Builtin.len_ #[t] ty #[x]))) w K:=by
 obtain⟨s,rfl,hk⟩:=h
 exact .value (by simp[Builtin.len_,run_underlying ht];rfl) hk
theorem awd{ts:Array TypeId}{ty:TypeId}{x y:Value}(h:YV x y λv=>K v w):fI P (do pure (.value (<- Builtin.min_ ts ty #[x,y]))) w K:=by
 obtain⟨k,a,b,rfl,rfl,hk⟩:=h
 exact .value (run_min_int2 w ts ty k k a b) hk
theorem ai4{ts:Array TypeId}{ty:TypeId}{x y:Value}(h:QC x y λv=>K v w):fI P (do pure (.value (<- Builtin.max_ ts ty #[x,y]))) w K:=by
 obtain⟨k,a,b,rfl,rfl,hk⟩:=h
 exact .value (run_max_int2 w ts ty k k a b) hk
theorem rH{v:Value}{d l y:Nat}{c:BoundsCode}(h:rG (some v) d l)(hl:l<=y):(Instr.sliceBound v y c).run P w= .ok l w:=by
 obtain⟨k,rfl⟩:=h
 simp[Instr.sliceBound,asIntOf,hl]
theorem Me{b:Bool}{len cap l h m:Nat}{lo hi mx:Option Value}(hm:rG mx cap m)(hh:rG hi len h)(hl:rG lo 0 l)(h1:l<=h)(h2:h<=m)(h3:m<=cap)(hx:mx.isSome=true->hi.isSome=true):
  (Instr.sliceBounds b len cap lo hi mx).run P w= .ok (l,h,m) w:=by
 unfold Instr.sliceBounds
 cases mx with
 | none=>
  have:m=cap:=hm
  subst this
  cases hi with
  | none=>
   have:h=len:=hh
   subst this
   cases lo with
   | none=>have:l=0:=hl;subst this;simp
   | some v=>simp[rH hl h1]
  | some u=>
   cases lo with
   | none=>have:l=0:=hl;subst this;simp[rH hh h2]
   | some v=>simp[rH hl h1,rH hh h2]
 | some x=>
  cases hi with
  | none=>simp at hx
  | some u=>
   cases lo with
   | none=>have:l=0:=hl;subst this;simp[rH hh h2,rH hm h3]
   | some v=>simp[rH hl h1,rH hh h2,rH hm h3]
theorem a7u{t e:TypeId}{n:Nat}{x:Value}{lo hi mx:Option Value}(ht:P.underlying t=some (.slice e))(hn:ka P e=some n)(hx:mx.isSome=true->hi.isSome=true)
  (h:eG n x lo hi mx λv=>K v w):fI P (do pure (.value (<- Instr.sliceAt t x lo hi mx))) w K:=by
 obtain⟨a,len,cap,l,h,m,rfl,hm,hh,hl,h1,h2,h3,hk⟩:=h
 refine .value ?_ hk
 simp[Instr.sliceAt,Instr.slice,run_underlying ht,Me hm hh hl h1 h2 h3 hx,run_sizeOf hn]
theorem a7t{t:TypeId}{x:Value}{lo hi:Option Value}(ht:P.underlying t=some .string)
  (h:ZN x lo hi λv=>K v w):fI P (do pure (.value (<- Instr.sliceAt t x lo hi none))) w K:=by
 obtain⟨s,l,h,rfl,hh,hl,h1,h2,hk⟩:=h
 refine .value ?_ hk
 simp[Instr.sliceAt,Instr.slice,run_underlying ht,Me (b:=false) (cap:=s.size) (m:=s.size) (mx:=none) rfl hh hl h1 h2 (Nat.le_refl _) (by simp)]
theorem Tc(z:List Value)(hz:0<z.length):∀(n i:Nat) (h:i<n*z.length),(db z n)[i]?=z[i % z.length]?
 | 0,i,h=>by simp at h
 | n+1,i,h=>by
  unfold db
  rw[List.replicate_succ,List.flatten_cons]
  by_cases hi:i<z.length
  ·rw[List.getElem?_append_left hi,Nat.mod_eq_of_lt hi]
  ·rw[List.getElem?_append_right (by omega)]
   have:=Tc z hz n (i-z.length) (by rw[Nat.add_mul]at h;omega)
   unfold db at this
   rw[this]
   congr 1
   conv=>rhs;rw[show i=(i-z.length)+z.length by omega,Nat.add_mod_right]
theorem ku(z:List Value):∀n,(db z n).length=n*z.length
 | 0=>by simp[db]
 | n+1=>by
  have:=ku z n
  unfold db at *
  rw[List.replicate_succ,List.flatten_cons,List.length_append,this,Nat.add_mul];omega
theorem Hq(z:Array Value)(n:Nat):(Array.range (n*z.size)).map (λi=>z[i % z.size]!)=(db z.toList n).toArray:=by
 apply Array.ext
 ·simp[ku]
 ·intro i h1 h2
  have hi:i<n*z.size:=by simpa using h1
  have hz:0<z.toList.length:=by
   rcases Nat.eq_zero_or_pos z.size with h|h
   ·rw[h]at hi;omega
   ·simpa using h
  have hg:=Tc z.toList hz n i (by simpa using hi)
  have hm:i % z.size<z.size:=Nat.mod_lt _ (by simpa using hz)
  simp only[Array.getElem_map,Array.getElem_range,List.getElem_toArray]
  rw[List.getElem?_eq_getElem (by simpa [ku] using hi)]at hg
  simp only[Array.length_toList]at hg
  rw[List.getElem?_eq_getElem (by simpa using hm)]at hg
  simp at hg
  rw[hg,getElem!_pos z (i % z.size) hm]
theorem awf{t e:TypeId}{i:TypeInfo}{v:Value}{x y:Value}(ht:P.underlying t=some (.slice e))(hi:P.info? e=some i)(hv:i.zero=some v)(hn:ka P e=some v.cells.size)
  (h:sA v.cells.toList (sr P e) e x y w K):fI P (do pure (.value (<- Instr.makeSlice t x y))) w K:=by
 obtain⟨n,c,kl,kc,rfl,rfl,OV,hb,hc,hk⟩:=h
 have mS:sr P e=i.bytes:=by simp[sr,hi]
 have w1:IntKind.i64.wrap (((n:Nat):Int))=n:=IntWalk.i64_in _ (by omega)
 have w2:IntKind.i64.wrap (((c:Nat):Int))=c:=IntWalk.i64_in _ (by omega)
 refine .value ?_ hk
 have h1:¬((i.bytes:Int)*(c:Int)>281474976710656):=by
  rw[mS]at hb
  have:((i.bytes*c:Nat):Int)<=281474976710656:=by omega
  simpa using this
 have hz:=Hq v.cells c
 by_cases h0:c*v.cells.size=0
 ·have:db v.cells.toList c=[]:=List.eq_nil_of_length_eq_zero (by rw[ku];simpa using h0)
  simp[Instr.makeSlice,run_underlying ht,asInt,asIntOf,typeInfo,hi,w1,w2,run_sizeOf hn,wE hi hv,newRow,h0,this,h1,show ¬((c:Int)<0) by omega,show ¬((n:Int)<0) by omega,show ¬((n:Int)>c) by omega]
  rw[show Array.map (λ_=>(default:Value)) (Array.range 0) = #[] from Array.eq_empty_of_size_eq_zero (by simp)]
 ·simp[Instr.makeSlice,run_underlying ht,asInt,asIntOf,typeInfo,hi,w1,w2,run_sizeOf hn,wE hi hv,newRow,h0,hz,h1,show ¬((c:Int)<0) by omega,show ¬((n:Int)<0) by omega,show ¬((n:Int)>c) by omega]
end
end Go.Proofs.YtfenmffiidchcaaGreat
